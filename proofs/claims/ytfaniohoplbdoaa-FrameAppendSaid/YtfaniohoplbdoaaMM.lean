/- A damaged frame: plain facts; the statement FrameDamage, walked. -/
import Derived.Test.YtfaniohoplbdoaaML
namespace Go.Proofs.Ytfaniohoplbdoaa.My
open Go Go.RowKit Go.Proofs.YtfaniohoplbdoaaW.PrintWords Go.Proofs.YtfaniohoplbdoaaW.PrintLast Go.Proofs.YtfaniohoplbdoaaW.PrintMore
set_option linter.unusedVariables false
set_option linter.unusedSimpArgs false
theorem byt_set {l : List Int} (h : Byt l) (i : Nat) {x : Int} (hx : 0 ≤ x ∧ x ≤ 255) : Byt (l.set i x) := by
  intro y hy
  rcases List.mem_or_eq_of_mem_set hy with hy | rfl
  · exact h y hy
  · exact hx
theorem peek_damage {body : List Int} (hb : Byt body) (hlen : body.length ≤ 1048576) (i : Nat) (hi : i < 4 + body.length) (x : Int) (hx : 0 ≤ x ∧ x ≤ 255) (hne : (frameL body)[4 + i]? ≠ some x) :
    (peek ((frameL body).set (4 + i) x)).1 = 4 := by
  obtain ⟨s, hs⟩ : ∃ s, s = sumL (be4 body.length ++ body) := ⟨_, rfl⟩
  have hf : frameL body = be4 body.length ++ (be4 s ++ body) := by unfold frameL headL; rw [hs, List.append_assoc]
  have hset : (frameL body).set (4 + i) x = be4 body.length ++ (be4 s ++ body).set i x := by
    rw [hf, List.set_append_right _ _ (by rw [be4_length]; omega), be4_length, Nat.add_sub_cancel_left]
  have hg : (be4 s ++ body)[i]? ≠ some x := by
    rw [hf, List.getElem?_append_right (by rw [be4_length]; omega), be4_length, Nat.add_sub_cancel_left] at hne
    exact hne
  obtain ⟨r, hr⟩ : ∃ r, r = (be4 s ++ body).set i x := ⟨_, rfl⟩
  rw [hset, ← hr]
  have hrl : r.length = 4 + body.length := by rw [hr, List.length_set, List.length_append, be4_length]
  have hn : num4 (be4 body.length ++ r) = body.length := num4_be4 _ (by omega) _
  have hd4 : (be4 body.length ++ r).drop 4 = r := List.drop_left' (be4_length _)
  have ht4 : (be4 body.length ++ r).take 4 = be4 body.length := List.take_left' (be4_length _)
  have hd8 : (be4 body.length ++ r).drop 8 = r.drop 4 := by
    rw [show 8 = 4 + 4 from rfl, ← List.drop_drop, hd4]
  have htk : (r.drop 4).take body.length = r.drop 4 := List.take_of_length_le (by rw [List.length_drop]; omega)
  have hl : (be4 body.length ++ r).length = body.length + 8 := by rw [List.length_append, be4_length]; omega
  have hneq : num4 r ≠ sumL (be4 body.length ++ r.drop 4) := by
    by_cases h4 : i < 4
    · have hr1 : r = (be4 s).set i x ++ body := by rw [hr, List.set_append_left _ _ (by rw [be4_length]; exact h4)]
      have hd : r.drop 4 = body := by rw [hr1]; exact List.drop_left' (by rw [List.length_set, be4_length])
      rw [hd, ← hs]
      intro hq
      have hbt : Byt r := by rw [hr1]; exact (byt_set (be4_byt s) i hx).append hb
      have h1 := be4_num4 hbt (by omega)
      rw [hq, hr1, List.take_left' (by rw [List.length_set, be4_length])] at h1
      apply hg
      rw [List.getElem?_append_left (by rw [be4_length]; exact h4), h1, List.getElem?_set_self (by rw [be4_length]; exact h4)]
    · have hr1 : r = be4 s ++ body.set (i - 4) x := by rw [hr, List.set_append_right _ _ (by rw [be4_length]; omega), be4_length]
      have hd : r.drop 4 = body.set (i - 4) x := by rw [hr1]; exact List.drop_left' (be4_length _)
      have hn4 : num4 r = s := by rw [hr1]; exact num4_be4 _ (by rw [hs]; exact sumL_lt _) _
      rw [hd, hn4, hs]
      have hlt : i - 4 < body.length := by omega
      have hx2 : body[i - 4]? ≠ some x := by
        rw [List.getElem?_append_right (by rw [be4_length]; omega), be4_length] at hg
        exact hg
      rw [List.getElem?_eq_getElem hlt] at hx2
      have h2 := sumL_set ((be4_byt body.length).append hb) (4 + (i - 4)) (by rw [List.length_append, be4_length]; omega) x hx (by
        rw [List.getElem_append_right (by rw [be4_length]; omega)]
        simp only [be4_length, Nat.add_sub_cancel_left]
        intro e
        exact hx2 (by rw [e]))
      rw [List.set_append_right _ _ (by rw [be4_length]; omega), be4_length, Nat.add_sub_cancel_left] at h2
      exact fun e => h2 e.symm
  unfold peek
  rw [hl, hn, hd4, ht4, hd8, htk, if_neg (by omega), if_neg (by omega), if_neg (by omega), if_neg hneq]
theorem next_damage {b body : List Int} (hb : Byt body) (hlen : body.length ≤ 1048576) (i : Nat) (hi : i < 4 + body.length) (x : Int) (hx : 0 ≤ x ∧ x ≤ 255) (hne : (b ++ frameL body)[b.length + 4 + i]? ≠ some x) :
    nextL ((b ++ frameL body).set (b.length + 4 + i) x) (b.length : Int) = ([], 0, 4) := by
  rw [List.set_append_right _ _ (by omega), show b.length + 4 + i - b.length = 4 + i from by omega]
  rw [List.getElem?_append_right (by omega), show b.length + 4 + i - b.length = 4 + i from by omega] at hne
  unfold nextL
  rw [if_neg (by simp; omega), Int.toNat_natCast, List.drop_left' rfl, peek_damage hb hlen i hi x hx hne]
  rfl
theorem xor_bit (x j : Nat) (hx : x < 256) (hj : j < 8) : x ^^^ 2 ^ j ≠ x ∧ x ^^^ 2 ^ j < 256 := by
  refine ⟨fun h => ?_, ?_⟩
  · have h1 := congrArg (fun n => n.testBit j) h
    simp [Nat.testBit_xor, Nat.testBit_two_pow_self] at h1
  · have := Nat.xor_lt_two_pow (n := 8) (x := x) (y := 2 ^ j) hx (Nat.pow_lt_pow_right (by decide) hj)
    simpa using this
set_option maxHeartbeats 1000000 in
set_option maxRecDepth 100000 in
theorem law_damage (A : Option Addr) (c : Nat) (b : List Int) (A' : Option Addr) (c' : Nat) (body : List Int) (at_ bit : Int) (w : World) (hC : CB w A b) (hc : b.length ≤ c) (hb : Byt b) (hC' : CB w A' body) (hc' : body.length ≤ c') (hb' : Byt body)
    (h0 : 0 ≤ at_) (h1 : at_ ≤ 65535) (h2 : 0 ≤ bit) (h3 : bit ≤ 255) (hs : b.length ≤ 140737488351232) (hs' : body.length ≤ 140737488351232) :
    Calls Try.prog 6 #[.slice A b.length c, .slice A' body.length c', .int .u16 at_, .int .u8 bit] w (LawPost w) := by
  by_cases h5 : 5000 < b.length + body.length
  · clear hC hC' hb hb'
    go_enter Try.func6, Try.ntmps6
    go_wp2_with (go_at_call 20; refine (works_calls _).mono ?_; rintro e w' ⟨rfl, hw⟩)
    go_ret
    exact ⟨rfl, hw⟩
  · have HF := Aside0.mk (fAppend_ok A c b A' c' body w hC hc hC' hc' hb' (by omega) (by omega))
    have HL := Aside0.mk (len_calls body.length)
    rw [show lenL (body.length : Int) = (body.length : Int) + 8 from by unfold lenL; rw [if_neg (by omega)]] at HL
    have HB := Aside0.mk (hb.append (frameL_byt hb'))
    have HBb := Aside0.mk hb'
    clear hC hC' hb hb'
    go_enter Try.func6, Try.ntmps6
    go_wp2_with fail
    refine HF.out.mono ?_
    rintro e w1 ⟨v1, rfl, hr1, hw1⟩
    have hX : (b ++ frameL body).length = b.length + 8 + body.length := by rw [List.length_append, frameL_length]; omega
    obtain ⟨X, hXe⟩ : ∃ X, X = b ++ frameL body := ⟨_, rfl⟩
    rw [← hXe] at hr1 hX HB
    obtain ⟨g, cap, rfl, hg0, hg1, cells, hcells⟩ := Kd.R_form hr1 (by omega)
    have hq : ((X.length : Int) != (b.length : Int) + ((body.length : Int) + 8)) = false := by rw [hX]; simp; omega
    have HX := Aside0.mk hX
    have HXe := Aside0.mk hXe
    have HR1 := Aside0.mk hr1
    have HW1 := Aside0.mk hw1
    clear hX hXe hr1 hw1 HF
    go_wp2_with fail
    refine (HL.out _).mono ?_
    rintro e w2 ⟨rfl, n2, rfl⟩
    obtain ⟨i, hi, hil⟩ : ∃ i : Nat, at_ % (4 + (body.length : Int)) = (i : Int) ∧ i < 4 + body.length := ⟨(at_ % (4 + (body.length : Int))).toNat, (Int.toNat_of_nonneg (Int.emod_nonneg _ (by omega))).symm, by
      have := Int.emod_lt_of_pos at_ (show 0 < 4 + (body.length : Int) by omega)
      have := Int.emod_nonneg at_ (show 4 + (body.length : Int) ≠ 0 by omega)
      omega⟩
    obtain ⟨j, hj, hjl⟩ : ∃ j : Nat, bit % 8 = (j : Int) ∧ j < 8 := ⟨(bit % 8).toNat, by omega, by omega⟩
    have hlt : b.length + 4 + i < X.length := by rw [HX.out]; omega
    obtain ⟨y, hy⟩ : ∃ y : Nat, X[b.length + 4 + i] = (y : Int) := ⟨X[b.length + 4 + i].toNat, by have := HB.out.at_ _ hlt; omega⟩
    have hy8 : y < 256 := by have := HB.out.at_ _ hlt; omega
    have hcell : (w1.drewN n2).cell? ⟨g, b.length + 4 + i, none⟩ = some (.int .u8 (y : Int)) := by
      have := (Kd.R_cell (0 : Int) HR1.out ((b.length + 4 + i : Nat) : Int) (by omega) (by omega)).1
      rw [Int.toNat_natCast] at this
      rw [← hy]
      refine this.trans ?_
      rw [rdOf, Int.toNat_natCast, List.getD_eq_getElem?_getD, List.getElem?_eq_getElem hlt]
      rfl
    have hfr : (w1.drewN n2).frozen? ⟨g, b.length + 4 + i, none⟩ = false := blk_frozen hcells _
    have HY := Aside0.mk hy
    clear hy
    go_wp2_with fail
    have hxe : Go.bits .xor .u8 (y : Int) ((2 : Int) ^ j % 256) = ((y ^^^ 2 ^ j : Nat) : Int) := by
      have h2j : 2 ^ j < 2 ^ 8 := Nat.pow_lt_pow_right (by decide) hjl
      have e : ((2 : Int) ^ j % 256) = ((2 ^ j : Nat) : Int) := by
        rw [show ((2 : Int) ^ j) = ((2 ^ j : Nat) : Int) from by simp]
        exact Int.emod_eq_of_lt (Int.natCast_nonneg _) (by exact_mod_cast h2j)
      rw [e]
      exact u8_xor_nat y (2 ^ j) hy8 h2j
    rw [hxe]
    obtain ⟨hx1, hx2⟩ := xor_bit y j hy8 hjl
    obtain ⟨hr2, hg2⟩ := Kd.R_put (Kd.R_drewN HR1.out n2) ((b.length + 4 + i : Nat) : Int) ((y ^^^ 2 ^ j : Nat) : Int)
    rw [Int.toNat_natCast] at hr2 hg2
    have HW2 := Aside0.mk (pw_below_grown (pw_below_drewN HW1.out n2) (some g) HW1.out.size hg2 (fun k hk => by injection hk with hk; omega))
    have HR2 := Aside0.mk hr2
    have hnx : nextL (X.set (b.length + 4 + i) ((y ^^^ 2 ^ j : Nat) : Int)) (b.length : Int) = ([], 0, 4) := by
      have hne : X[b.length + 4 + i]? ≠ some ((y ^^^ 2 ^ j : Nat) : Int) := by
        rw [List.getElem?_eq_getElem hlt, HY.out]
        intro e
        injection e with e
        omega
      rw [HXe.out] at hne ⊢
      exact next_damage HBb.out (by omega) i hil _ (by omega) hne
    have HBx := Aside0.mk (byt_set HB.out (b.length + 4 + i) (x := ((y ^^^ 2 ^ j : Nat) : Int)) (by omega))
    have hxl : (X.set (b.length + 4 + i) ((y ^^^ 2 ^ j : Nat) : Int)).length = X.length := List.length_set
    have hcap := (Kd.R_reads' HR1.out).2.1
    have hcr : CB ((w1.drewN n2).setCell ⟨g, b.length + 4 + i, none⟩ (Value.int .u8 ((y ^^^ 2 ^ j : Nat) : Int))) (some ⟨g, 0, none⟩) (X.set (b.length + 4 + i) ((y ^^^ 2 ^ j : Nat) : Int)) := (Kd.R_reads' HR2.out).2.2
    have hN := calls_next (fNext_calls (some ⟨g, 0, none⟩) cap _ (b.length : Int) _ hcr (by rw [hxl]; exact hcap) HBx.out) hnx
    rw [hxl] at hN
    refine hN.mono ?_
    rintro e w3 ⟨v3, rfl, _, hw3⟩
    have HW3 := Aside0.mk (below_then HW2.out HW2.out.size hw3)
    clear hN hcr hxl hnx hxe hw3 hr2 hg2 hcell hfr hi hj hq
    go_wp2_with fail
    refine (works_calls _).mono ?_
    rintro e w' ⟨rfl, hw⟩
    go_wp2
    go_ret
    exact ⟨rfl, below_then HW3.out HW3.out.size hw⟩
end Go.Proofs.Ytfaniohoplbdoaa.My
