/- The statement DiskRead. -/
import Derived.Test.YtfaniohoplbdoaaBd
import Derived.Test.YtfaniohoplbdoaaRows
import Derived.WalkKit
import Derived.ProofKit
import Derived.OpenShut
import Derived.ShutString
import Derived.ChangeOld
import Derived.Below
import Derived.SizedLaws
import Derived.Test.YtfaniohoplbdoaaWSized
namespace Go.Proofs.Ytfaniohoplbdoaa.My
open Go Go.RowKit Go.Proofs.YtfaniohoplbdoaaW.PrintWords Go.Proofs.YtfaniohoplbdoaaW.PrintLast Go.Proofs.YtfaniohoplbdoaaW.PrintMore Go.Proofs.Ytfaniohoplbdoaa.PDiskActs
set_option linter.unusedVariables false
set_option linter.unusedSimpArgs false
theorem Pair.off {base : Nat} {w w' : World} {g xb : Nat} {S T R : Nat → Prop} {A : Option Addr} {c : Nat} {A' : Option Addr} {c' : Nat} {L : List S109} {O : List S123} {n m y : Nat} (h : Pair base w g xb S T A c A' c' L O n m y) (hW : Wr w w' R) (hS : ∀ k, S k → ¬ R k) (hT : ∀ k, T k → ¬ R k) (hx : ¬ R xb) : Pair base w' g xb S T A c A' c' L O n m y :=
  ⟨h.dst.off hW hS, h.xst.off hW hT, h.dis, h.sb, h.tb, (hW.2.2.2.2 _ (blk_lt h.blk) hx).trans h.blk, h.xbb, h.s1, h.s2, h.s3⟩
theorem wr_set (w : World) (b i : Nat) (x : Value) : Wr w (w.setCell ⟨b, i, none⟩ x) (fun k => k = b) :=
  ⟨rfl, rfl, rfl, by simp [World.setCell], fun k hk hn => Below.heap_setCell _ ⟨b, i, none⟩ _ k hn⟩
/-- Bytes in a block of their own, that are written one by one. -/
def Own8 (w : World) (base hi : Nat) (v : Value) (n : Nat) : Prop := n = 0 ∨ ∃ g c cur, v = .slice (some ⟨g, 0, none⟩) n c ∧ (base ≤ g ∧ g < hi) ∧ n ≤ c ∧ w.heap[g]? = some (.cells cur 5 (0, 0)) ∧ ∀ j, j < n → ∃ z, cur[j]? = some (.int .u8 z)
theorem Own8.of_R {w : World} {base : Nat} {v : Value} {l : List Int} (h : RB w base v l) : Own8 w base w.heap.size v l.length := by
  obtain ⟨h1, h2⟩ := Kd.own_of_R h
  rcases h2 with ⟨_, h0⟩ | ⟨g, cap, cur, rfl, hb, hh, hnc, hcm, hcs, ht⟩
  · exact .inl h0
  · refine .inr ⟨g, cap, cur, rfl, ⟨hb, blk_lt hh⟩, hnc, hh, fun j hj => ?_⟩
    have h3 : (cur.toList.take (l.length * 1))[j]? = some (.int .u8 l[j]) := by rw [ht]; simp [encs, hj]
    rw [List.getElem?_take, if_pos (by omega)] at h3
    exact ⟨l[j], by simpa using h3⟩
theorem Own8.move {w w' : World} {base hi : Nat} {v : Value} {n : Nat} (h : Own8 w base hi v n) (hm : ∀ k, base ≤ k → k < hi → k < w.heap.size → w'.heap[k]? = w.heap[k]?) : Own8 w' base hi v n := by
  rcases h with h | ⟨g, c, cur, hv, hb, hnc, hh, hz⟩
  · exact .inl h
  · exact .inr ⟨g, c, cur, hv, hb, hnc, (hm g hb.1 hb.2 (blk_lt hh)).trans hh, hz⟩
theorem Own8.set {w : World} {base hi g c n : Nat} {cur : Array Value} {j : Nat} {z : Int} (hb : base ≤ g ∧ g < hi) (hnc : n ≤ c) (hh : w.heap[g]? = some (.cells cur 5 (0, 0))) (hz : ∀ j, j < n → ∃ z, cur[j]? = some (.int .u8 z)) : Own8 (w.setCell ⟨g, j, none⟩ (.int .u8 z)) base hi (.slice (some ⟨g, 0, none⟩) n c) n := by
  refine .inr ⟨g, c, cur.setIfInBounds j (.int .u8 z), rfl, hb, hnc, blk_put hh j _ rfl, fun i hi => ?_⟩
  by_cases e : i = j
  · subst e
    obtain ⟨z0, h0⟩ := hz i hi
    have hlt : i < cur.size := by
      rcases Nat.lt_or_ge i cur.size with h | h
      · exact h
      · rw [Array.getElem?_eq_none h] at h0; cases h0
    exact ⟨z, by simp [Array.getElem?_setIfInBounds, hlt]⟩
  · obtain ⟨z0, h0⟩ := hz i hi
    exact ⟨z0, by simp [Array.getElem?_setIfInBounds, Ne.symm e, h0]⟩
theorem cell_below {w W : World} (hB : Below w.heap.size w W) {a : Addr} {v : Value} (h : w.cell? a = some v) : W.cell? a = some v := by
  have hlt := World.block_lt_of_cell? w _ h
  unfold World.cell? at h ⊢
  rw [hB.block _ hlt]
  exact h
set_option maxHeartbeats 4000000 in
set_option maxRecDepth 100000 in
theorem law_read (A : Option Addr) (c : Nat) (l : List S109) (A' : Option Addr) (c' : Nat) (ops : List S82) (nm : ByteArray) (w : World) (hnmx : nm.size ≤ maxLen) (hF : ArgF w A c l) (hP : ArgP w A' ops) :
    Calls Try.prog 14 #[.slice A l.length c, .slice A' ops.length c', .string nm] w (TruePost w) := by
  have hm := Kd.C_max hP.rd
  have HF := Aside0.mk (fun (W : World) (hB : Below w.heap.size w W) => hF.move hB)
  have HP := Aside0.mk (fun (W : World) (hB : Below w.heap.size w W) => hP.move hB)
  have HBig := Aside0.mk (fun (W : World) (hB : Below w.heap.size w W) => large_arg (c' := c') (hF.move hB) (hP.move hB))
  have hu53 := Try.underlying53
  have hu82 := Try.underlying82
  cases hlo : loadOk l with
  | false =>
    have HLo := Aside0.mk (dload_no hF hlo)
    have HLx := Aside0.mk (fun (W : World) (hB : Below w.heap.size w W) => xload_no (hF.move hB) hlo)
    clear hlo hF hP
    go_enter Try.func14, Try.ntmps14
    go_wp2_with (first | (go_at_call 37; with_reducible refine HLo.out.mono ?_; rintro e w1 ⟨rfl, hB1⟩; have HB1 := Aside0.mk hB1; clear hB1) | (go_at_call 38; with_reducible refine (HLx.out _ HB1.out).mono ?_; rintro e w2 ⟨⟨A2, n2, c2, A3, n3, c3, rfl⟩, hB2⟩; have HB2 := Aside0.mk (below_then HB1.out HB1.out.size hB2); clear hB2) | (go_at_call 63; with_reducible refine (works_disk _).mono ?_; rintro e w3 ⟨rfl, hB3⟩; have HB3 := Aside0.mk (below_then (below_alloc' HB2.out _ HB2.out.size) (by rw [alloc_size]; have := HB2.out.size; omega) hB3); clear hB3) | fail)
    go_ret
    exact ⟨rfl, HB3.out⟩
  | true =>
    have HLo := Aside0.mk (dload_yes hF hlo)
    have HLx := Aside0.mk (fun (W : World) (hB : Below w.heap.size w W) => xload_yes (hF.move hB) hlo)
    clear hlo hF hP
    have hlen := loadL_length l
    have hbts := load_bytes l
    obtain ⟨L0, hL0⟩ : ∃ L0, L0 = loadL l := ⟨_, rfl⟩
    rw [← hL0] at HLo HLx hlen hbts
    clear hL0
    go_enter Try.func14, Try.ntmps14
    go_wp2_with (first | (go_at_call 37; with_reducible refine HLo.out.mono ?_; rintro e w1 ⟨g, S, rfl, hD1, hS1, hB1⟩; have HB1 := Aside0.mk hB1; have HD1 := Aside0.mk hD1; have HS1 := Aside0.mk hS1; clear hB1 hD1 hS1) | (go_at_call 38; with_reducible refine (HLx.out _ HB1.out).mono ?_; rintro e w2 ⟨u, v, rfl, hx, hB2⟩; obtain ⟨A2, c2, A3, c3, rfl, rfl, hP⟩ := Pair.made (w3 := w2.alloc (.cells #[u, v] 53)) HD1.out HS1.out HB1.out.size hx hB2 rfl (below_alloc (Below.refl _ _) _) (blk_new _ _); have HPr := Aside0.mk hP; have HB2 := Aside0.mk (below_then HB1.out HB1.out.size hB2); clear hx hB2 hP) | fail)
    have HBx := Aside0.mk (below_alloc' HB2.out (.cells #[.slice A2 L0.length c2, .slice A3 0 c3] 53) HB2.out.size)
    obtain ⟨xb, hxb⟩ : ∃ xb, xb = w2.heap.size := ⟨_, rfl⟩
    obtain ⟨wx, hwx⟩ : ∃ wx, wx = w2.alloc (.cells #[.slice A2 L0.length c2, .slice A3 0 c3] 53) := ⟨_, rfl⟩
    replace HPr : Aside0 (Pair w.heap.size (w2.alloc (.cells #[.slice A2 L0.length c2, .slice A3 0 c3] 53)) g w2.heap.size S (ext (fun _ => False) w1 w2) A2 c2 A3 c3 L0 [] l.length (max l.length L0.length) (byF L0)) := HPr
    rw [← hwx, ← hxb] at HPr
    rw [← hwx] at HBx ⊢
    rw [← hxb]
    clear hxb hwx HB1 HD1 HS1 HB2 HLo HLx
    refine (HBig.out _ HBx.out).mono ?_
    rintro e w3 ⟨rfl, hB3⟩
    have HP3 := Aside0.mk (HPr.out.move hB3)
    have HB3 := Aside0.mk (below_then HBx.out HBx.out.size hB3)
    clear hB3 HPr HBx HBig
    cases hbig : bigD l ops with
    | true =>
      clear hbig
      go_wp2_with (first | (go_at_call 63; with_reducible refine (works_disk _).mono ?_; rintro e w4 ⟨rfl, hB4⟩; have HB4 := Aside0.mk (below_then HB3.out HB3.out.size hB4); clear hB4) | fail)
      go_ret
      exact ⟨rfl, HB4.out⟩
    | false =>
      have hbd := bigD_false hbig
      have HBd := Aside0.mk hbd
      clear hbig hbd
      have hlen60 := HBd.out.2.1
      go_wp2_with fail
      go_loopw [50] (fun i wr => ∃ k : Nat, k ≤ ops.length ∧ i = .int .i64 k ∧ Aside0 (Below w.heap.size w wr) ∧ Aside0 (∃ S T A c A' c' L O n, Pair w.heap.size wr g xb S T A c A' c' L O n (40 + k) (byF l + byP (ops.take k)))) (fun i _ => ops.length - (intOf i).toNat)
      case atStart =>
        have h := HP3.out
        have h1 := HBd.out.1
        exact ⟨0, by omega, rfl, HB3, ⟨S, _, A2, c2, A3, c3, L0, [], l.length, h.dst, h.xst, h.dis, h.sb, h.tb, h.blk, h.xbb, by have := h.s1; omega, by have := h.s2; omega, by have := h.s3; omega⟩⟩
      case round =>
        obtain ⟨k, hk, rfl, HW, HPe⟩ := hrel
        obtain ⟨S, T, A2, c2, A3, c3, L, O, n, hpr⟩ := HPe.out
        have HPr := Aside0.mk hpr
        have hxlt := blk_lt hpr.blk
        obtain ⟨wo, hwo⟩ : ∃ wo : World, wo = wr := ⟨_, rfl⟩
        subst hwo
        clear hpr HPe HP3 HB3
        by_cases hlt : k < ops.length
        · obtain ⟨ad, B, d, rfl, hc0, hc1, hc2, hc3, hc4, hc5, hd, hCB⟩ := CP.at_ (HP.out _ HW.out).rd k hlt
          have HCB := Aside0.mk hCB
          have hnm := (HP.out _ HW.out).names ops[k] (List.getElem_mem hlt)
          have hda := (HP.out _ HW.out).data ops[k] (List.getElem_mem hlt)
          have HBY := Aside0.mk (byP_take_succ hlt)
          have HTk := Aside0.mk (byP_takeN ops (k + 1))
          obtain ⟨o, ho⟩ : ∃ o, o = ops[k] := ⟨_, rfl⟩
          rw [← ho] at hc0 hc1 hc2 hc3 hc4 hc5 hd HCB hnm hda HBY
          clear ho hCB
          obtain ⟨wx, hwx⟩ : ∃ wx, wx = (wo.alloc (.cells (opC o B d) 82)).alloc (.cells (opC o B d) 82) := ⟨_, rfl⟩
          have hBx : Below wo.heap.size wo wx := by rw [hwx]; exact below_alloc (below_alloc (Below.refl _ _) _) _
          have hsx : wx.heap.size = wo.heap.size + 1 + 1 := by rw [hwx, alloc_size, alloc_size]
          have hb1 : wx.heap[wo.heap.size]? = some (.cells (opC o B d) 82 (0, 0)) := by
            have := blk_new wo (.cells (opC o B d) 82)
            rw [hwx]
            exact (Below.heap_alloc _ _ _ (by rw [alloc_size]; omega)).trans this
          have hb2 : wx.heap[wo.heap.size + 1]? = some (.cells (opC o B d) 82 (0, 0)) := by
            have := blk_new (wo.alloc (.cells (opC o B d) 82)) (.cells (opC o B d) 82)
            rw [alloc_size] at this
            rw [hwx]; exact this
          have HPx := Aside0.mk (HPr.out.move hBx)
          have HCx := Aside0.mk (Kd.C_below HCB.out hBx)
          have HWx := Aside0.mk (below_then HW.out HW.out.size hBx)
          have HB1 := Aside0.mk hb1
          have HB2 := Aside0.mk hb2
          have HWX := Aside0.mk hwx
          have HSX := Aside0.mk hsx
          have hq3 : wx.cell? ⟨wo.heap.size, 3, none⟩ = some (.slice B o.f3.length d) := (blk_cell hb1 3).trans rfl
          have hl1 := blk_lt hb1
          have hl2 := blk_lt hb2
          clear hwx hBx hsx hb1 hb2
          have HSlt := Aside0.mk HPr.out.dst.lt
          have hne : ¬ (xb = wo.heap.size + 1) := by omega
          have hne2 : ¬ (wo.heap.size + 1 = xb) := by omega
          have HTlt := Aside0.mk HPr.out.xst.lt
          go_wp2_with (first | ((with_reducible refine gate_dst (N := 58) rfl ?_); rw [← HWX.out]; refine app_bts (w0 := wx) wx.heap.size rfl (.tmp 55) (.tmp 57) rfl _ [] o.f3 B d rfl rfl (RB_lit0 HSX.out.symm (Nat.le_refl _)) (Kd.C_alloc HCx.out _) (below_alloc (Below.refl _ _) _) (below_alloc (Below.refl wx.heap.size wx) _).size (by simp only [List.length_nil]; omega) ?_; intro z v w2 EZ HR HW2; have ez : z = o.f3 := EZ.out; subst ez; obtain ⟨A5, c5, rfl⟩ := Kd.R_slice HR.out; have hbb2 := (HW2.out.block _ (blk_lt HB2.out)).trans HB2.out; have hm0 : w2.cell? ⟨wo.heap.size + 1, 0, none⟩ = some (.int .i64 o.f0) := (blk_cell hbb2 0).trans rfl; have hm1 : w2.cell? ⟨wo.heap.size + 1, 1, none⟩ = some (.string o.f1) := (blk_cell hbb2 1).trans rfl; have hm2 : w2.cell? ⟨wo.heap.size + 1, 2, none⟩ = some (.string o.f2) := (blk_cell hbb2 2).trans rfl; have hm3 : w2.cell? ⟨wo.heap.size + 1, 3, none⟩ = some (.slice B o.f3.length d) := (blk_cell hbb2 3).trans rfl; have hm4 : w2.cell? ⟨wo.heap.size + 1, 4, none⟩ = some (.int .i64 o.f4) := (blk_cell hbb2 4).trans rfl; have hm5 : w2.cell? ⟨wo.heap.size + 1, 5, none⟩ = some (.int .i64 o.f5) := (blk_cell hbb2 5).trans rfl; have hmf := blk_frozen hbb2 3; have hpx2 := HPx.out.move HW2.out; have hz0 : w2.cell? ⟨xb, 0, none⟩ = some (.slice A2 L.length c2) := (blk_cell hpx2.blk 0).trans rfl; have hz1 : w2.cell? ⟨xb, 1, none⟩ = some (.slice A3 O.length c3) := (blk_cell hpx2.blk 1).trans rfl; have HPx2 := Aside0.mk hpx2; have HBB2 := Aside0.mk hbb2; clear hpx2 hbb2) | fail)
          have hR2 : RB w2 wx.heap.size (.slice A5 o.f3.length c5) o.f3 := HR.out
          have hft := RB.foot (ok := fun k => wx.heap.size ≤ k) hR2 (fun k hk => hk)
          have hs2 := HW2.out.size
          have hsx := HSX.out
          have hF3 := Kd.F_far hft.2.2 (p := ⟨wo.heap.size + 1, 3, none⟩) (fun k hk => by show k ≠ wo.heap.size + 1; omega) (.slice A5 o.f3.length c5)
          have hs3 : (w2.setCell ⟨wo.heap.size + 1, 3, none⟩ (.slice A5 o.f3.length c5)).heap.size = w2.heap.size := by simp [World.setCell]
          have hP3 := HPx2.out.off (wr_set w2 (wo.heap.size + 1) 3 (.slice A5 o.f3.length c5)) (fun k hk e => by have := HSlt.out k hk; omega) (fun k hk e => by have := HTlt.out k hk; omega) hne
          have hO3 := (Own8.of_R hR2).move (w' := w2.setCell ⟨wo.heap.size + 1, 3, none⟩ (.slice A5 o.f3.length c5)) (fun k hk _ _ => Below.heap_setCell _ ⟨wo.heap.size + 1, 3, none⟩ _ k (by show k ≠ wo.heap.size + 1; omega))
          have hb3 : (w2.setCell ⟨wo.heap.size + 1, 3, none⟩ (.slice A5 o.f3.length c5)).heap[wo.heap.size + 1]? = some (.cells (opC o A5 c5) 82 (0, 0)) := blk_put (cs := opC o B d) HBB2.out 3 _ rfl
          have hW3 : Below w.heap.size w (w2.setCell ⟨wo.heap.size + 1, 3, none⟩ (.slice A5 o.f3.length c5)) := below_set (below_then HWx.out HWx.out.size HW2.out) (by have := HW.out.size; omega)
          obtain ⟨w3, hw3⟩ : ∃ w3, w3 = w2.setCell ⟨wo.heap.size + 1, 3, none⟩ (.slice A5 o.f3.length c5) := ⟨_, rfl⟩
          rw [← hw3] at hF3 hs3 hP3 hO3 hb3 hW3 ⊢
          have hs2w : w3.heap.size = w2.heap.size := hs3
          have HP3 := Aside0.mk hP3
          have HF3 := Aside0.mk hF3
          have HL5 := Aside0.mk hft.2.1
          have HO3 := Aside0.mk hO3
          have HB3 := Aside0.mk hb3
          have HW3 := Aside0.mk hW3
          have HS23 := Aside0.mk hs2w
          have HS3 := Aside0.mk (show wo.heap.size + 2 ≤ w3.heap.size by omega)
          have hxlt3 : xb < w3.heap.size := by omega
          have hltb : wo.heap.size + 1 < w3.heap.size := by omega
          have HNb := Aside0.mk (show ¬ S (wo.heap.size + 1) from fun h => by have := HSlt.out _ h; omega)
          clear hw3 hR2 hft hF3 hs3 hP3 hO3 hb3 hW3 hm0 hm1 hm2 hm3 hm4 hm5 hmf hz0 hz1 HR HPx2 HBB2 HW2 EZ hs2w hs2 hsx hq3
          have HSz := Aside0.mk (HP3.out.sz (by omega) (by have := HBd.out.2.2; have := byP_takeN ops k; omega))
          have HDo := Aside0.mk (do_calls w3 S T g n L O A2 c2 A3 c3 o A5 c5 HP3.out.dst HP3.out.xst HSz.out HP3.out.dis (Kd.F_now HF3.out) HL5.out hda hnm.1 hnm.2)
          obtain ⟨r, hr⟩ : ∃ r, r = doL L O n o := ⟨_, rfl⟩
          rw [← hr] at HDo
          have HRr := Aside0.mk hr
          clear hr
          refine HDo.out.mono ?_
          rintro e w4 ⟨S', T', u, v, rfl, hD4, hX4, hdis4, hS4, hT4, hW4⟩
          obtain ⟨A6, c6, A7, c7, rfl, rfl⟩ := hX4.slices
          obtain ⟨hP5, hW5, hbk⟩ := Pair.next (w3 := w4) HP3.out HRr.out HW3.out.size hD4 hX4 hdis4 hS4 hT4 hW4 (Below.refl _ _)
          have HP5 := Aside0.mk hP5
          have HW5 := Aside0.mk hW5
          have hxl4 := blk_lt hbk
          have hy0 : w4.cell? ⟨xb, 0, none⟩ = some (.slice A2 L.length c2) := (blk_cell hbk 0).trans rfl
          have hy1 : w4.cell? ⟨xb, 1, none⟩ = some (.slice A3 O.length c3) := (blk_cell hbk 1).trans rfl
          have hf0 := blk_frozen hbk 0
          have hf1 := blk_frozen hbk 1
          have hbm := (hW4.2.2.2.2 _ hltb HNb.out).trans HB3.out
          have HBM := Aside0.mk hbm
          have hm3 : w4.cell? ⟨wo.heap.size + 1, 3, none⟩ = some (.slice A5 o.f3.length c5) := (blk_cell hbm 3).trans rfl
          have HSS := Aside0.mk hS4
          have HTT := Aside0.mk hT4
          have hbml := blk_lt hbm
          clear hD4 hX4 hdis4 hS4 hT4 hW4 hP5 hW5 hbk hbm
          have HW5b := Aside0.mk (wr_below HW3.out HW3.out.size (fun k hk => hk.elim (fun h => (HPr.out.sb k h).1) (fun h => by rw [h]; exact HPr.out.xbb)) HW5.out)
          have HO5 := Aside0.mk (HO3.out.move (fun k h1 h2 hl => HW5.out.2.2.2.2 k hl (fun hk => hk.elim (fun h => by have := HSlt.out k h; have := HSX.out; omega) (fun h => by have := HSX.out; omega))))
          have HBM5 := Aside0.mk (blk_far (blk_far HBM.out (p := ⟨xb, 0, none⟩) hne2 (.slice A6 r.1.length c6)) (p := ⟨xb, 1, none⟩) hne2 (.slice A7 r.2.1.length c7))
          have HNS := Aside0.mk (show ∀ k, wx.heap.size ≤ k → k < w2.heap.size → ¬ S' k ∧ ¬ T' k ∧ k ≠ xb ∧ k ≠ wo.heap.size + 1 ∧ w.heap.size ≤ k from fun k h1 h2 => by
            have e1 := HSX.out
            have e2 := HS23.out
            have e3 := HW.out.size
            exact ⟨fun h => (HSS.out k h).elim (fun h => by have := HSlt.out k h; omega) (fun h => by omega), fun h => (HTT.out k h).elim (fun h => by have := HTlt.out k h; omega) (fun h => by omega), by omega, by omega, by omega⟩)
          clear HO3 HBM HW5
          go_wp2_with fail
          go_loopw [71] (fun i wq => ∃ j : Nat, j ≤ o.f3.length ∧ i = .int .i64 j ∧ Aside0 (Below w.heap.size w wq) ∧ Aside0 (Pair w.heap.size wq g xb S' T' A6 c6 A7 c7 r.1 r.2.1 r.2.2 (40 + k + 1) (byF l + byP (ops.take k) + o.f3.length)) ∧ Aside0 (wq.heap[wo.heap.size + 1]? = some (.cells (opC o A5 c5) 82 (0, 0))) ∧ Aside0 (Own8 wq wx.heap.size w2.heap.size (.slice A5 o.f3.length c5) o.f3.length)) (fun i _ => o.f3.length - (intOf i).toNat)
          case atStart =>
            exact ⟨0, by omega, rfl, ⟨below_alloc' HW5b.out _ HW5b.out.size⟩, ⟨HP5.out.move (below_alloc (Below.refl _ _) _)⟩, ⟨blk_alloc HBM5.out _⟩, ⟨HO5.out.move (fun k _ _ hl => Below.heap_alloc _ _ _ hl)⟩⟩
          case round =>
            obtain ⟨j, hj, rfl, HQ, HPq, HBq, HOq⟩ := hrel
            have hm3 : wr.cell? ⟨wo.heap.size + 1, 3, none⟩ = some (.slice A5 o.f3.length c5) := (blk_cell HBq.out 3).trans rfl
            by_cases hjl : j < o.f3.length
            · rcases HOq.out with h0 | ⟨gb, cb, cur, hv, hgb, hnc, hh, hz⟩
              · omega
              injection hv with hA5 _ hcb
              subst hA5
              subst hcb
              obtain ⟨z0, hz0⟩ := hz j hjl
              have hcz : wr.cell? ⟨gb, j, none⟩ = some (.int .u8 z0) := (blk_cell hh j).trans hz0
              have hfz := blk_frozen hh j
              have HH := Aside0.mk hh
              have HZ := Aside0.mk hz
              have HGB := Aside0.mk hgb
              have HNG := Aside0.mk (HNS.out gb hgb.1 hgb.2)
              clear hh hz hz0
              go_wp2
              go_roundw
              case rel =>
                refine ⟨j + 1, by omega, by go_num, ⟨below_set HQ.out HNG.out.2.2.2.2⟩, ⟨HPq.out.off (wr_set wr gb j _) (fun k hk e => HNG.out.1 (e ▸ hk)) (fun k hk e => HNG.out.2.1 (e ▸ hk)) (fun e => HNG.out.2.2.1 e.symm)⟩, ⟨blk_far HBq.out (p := ⟨gb, j, none⟩) (fun e => HNG.out.2.2.2.1 e.symm) _⟩, ⟨Own8.set HGB.out hnc HH.out HZ.out⟩⟩
              case measure => simp [intOf]; omega
            · obtain rfl : j = o.f3.length := by omega
              go_wp2
              go_roundw
              case rel =>
                have h := HPq.out
                have hby := HBY.out
                exact ⟨k + 1, by omega, by go_num, HQ, ⟨S', T', A6, c6, A7, c7, r.1, r.2.1, r.2.2, h.dst, h.xst, h.dis, h.sb, h.tb, h.blk, h.xbb, by have := h.s1; omega, by have := h.s2; omega, by have := h.s3; omega⟩⟩
              case measure => simp [intOf]; omega
        · obtain rfl : k = ops.length := by omega
          have hz0 : wo.cell? ⟨xb, 0, none⟩ = some (.slice A2 L.length c2) := (blk_cell HPr.out.blk 0).trans rfl
          have hz1 : wo.cell? ⟨xb, 1, none⟩ = some (.slice A3 O.length c3) := (blk_cell HPr.out.blk 1).trans rfl
          have HZ := Aside0.mk (HPr.out.sz (by omega) (by have := HBd.out.2.2; have := byP_takeN ops ops.length; omega))
          obtain ⟨q, hq⟩ : ∃ q, q = findL (viewL L O) nm := ⟨_, rfl⟩
          have HQE := Aside0.mk hq
          have hqs : (q.isSome != q.isSome) = false := by cases q.isSome <;> rfl
          clear hq
          go_wp2_with fail
          refine (sRead wo S g n L O nm HPr.out.dst HZ.out hnmx).mono ?_
          rw [← HQE.out]
          rintro e w5 ⟨⟨v5, rfl, hr5⟩, hB5⟩
          obtain ⟨y, hy⟩ : ∃ y, y = q.getD [] := ⟨_, rfl⟩
          rw [← hy] at hr5
          have HYE := Aside0.mk hy
          clear hy
          obtain ⟨A5, c5, rfl⟩ := Kd.R_slice hr5
          have HP5 := Aside0.mk (HPr.out.move hB5)
          have hz0 : w5.cell? ⟨xb, 0, none⟩ = some (.slice A2 L.length c2) := (blk_cell HP5.out.blk 0).trans rfl
          have hz1 : w5.cell? ⟨xb, 1, none⟩ = some (.slice A3 O.length c3) := (blk_cell HP5.out.blk 1).trans rfl
          have HB5 := Aside0.mk (below_then HW.out HW.out.size hB5)
          have HS5 := Aside0.mk hB5.size
          have HR5 := Aside0.mk hr5
          clear hr5 hB5
          go_wp2_with fail
          refine (xRead w5 T A2 c2 A3 c3 n L O HP5.out.xst HZ.out nm).mono ?_
          rw [← HQE.out]
          rintro e w6 ⟨⟨v6, rfl, hr6⟩, hB6⟩
          rw [← HYE.out] at hr6
          obtain ⟨A6, c6, rfl⟩ := Kd.R_slice hr6
          have hC5 := Kd.C_below (Kd.R_reads' HR5.out).2.2 hB6
          have hcv5 : (convert 22 9 (.slice A5 y.length c5)).run Try.prog w6 = .ok (.string (strOfNums y)) w6 := Kd.C_string (P := Try.prog) (A := A5) (c := c5) Try.underlying22 Try.underlying5 Try.underlying9 hC5
          have hcv6 : (convert 22 9 (.slice A6 y.length c6)).run Try.prog w6 = .ok (.string (strOfNums y)) w6 := Kd.C_string (P := Try.prog) (A := A6) (c := c6) Try.underlying22 Try.underlying5 Try.underlying9 (Kd.R_reads' hr6).2.2
          have hne6 : ((strOfNums y).toList != (strOfNums y).toList) = false := by simp
          have HO6 := Aside0.mk ((Own8.of_R HR5.out).move (fun k _ _ hl => hB6.block k hl))
          have hft := RB.foot (ok := fun k => w5.heap.size ≤ k) hr6 (fun k hk => hk)
          have HF6 := Aside0.mk (Kd.F_bound hft.2.2)
          have HD6 := Aside0.mk (HP5.out.dst.move hB6)
          have HB6 := Aside0.mk (below_then HB5.out HB5.out.size hB6)
          have HSl := Aside0.mk HPr.out.dst.lt
          have hy5 := (Kd.R_reads' HR5.out).2.1
          have hym := Kd.C_max (Kd.R_reads' HR5.out).2.2
          clear hr6 hB6 hC5 hft HB5 HP5 HR5 hz0 hz1
          go_wp2_with fail
          go_loopw [107] (fun i wq => ∃ j : Nat, j ≤ y.length ∧ i = .int .i64 j ∧ Aside0 (Below w.heap.size w wq) ∧ Aside0 (DSt wq S g L O n) ∧ Aside0 (Own8 wq wo.heap.size w5.heap.size (.slice A5 y.length c5) y.length) ∧ Aside0 (Kd.F (Kd.int .u8) wq (fun k => w5.heap.size ≤ k ∧ k < w6.heap.size) A6 y.length y)) (fun i _ => y.length - (intOf i).toNat)
          case atStart => exact ⟨0, by omega, rfl, HB6, HD6, HO6, HF6⟩
          case round =>
            obtain ⟨j, hj, rfl, HQ, HDq, HOq, HFq⟩ := hrel
            by_cases hjl : j < y.length
            · rcases HOq.out with h0 | ⟨gb, cb, cur, hv, hgb, hnc, hh, hz⟩
              · omega
              injection hv with hA5 _ hcb
              subst hA5
              subst hcb
              obtain ⟨z0, hz0⟩ := hz j hjl
              have hcz : wr.cell? ⟨gb, j, none⟩ = some (.int .u8 z0) := (blk_cell hh j).trans hz0
              have hfz := blk_frozen hh j
              have HH := Aside0.mk hh
              have HZ' := Aside0.mk hz
              have HGB := Aside0.mk hgb
              clear hh hz hz0 hcv5 hcv6 hne6
              go_wp2
              go_roundw
              case rel =>
                refine ⟨j + 1, by omega, by go_num, ⟨below_set HQ.out (by have := HW.out.size; have := HGB.out; omega)⟩, ⟨HDq.out.off (wr_set wr gb j _) (fun k hk e => by have e' : k = gb := e; have := HSl.out k hk; have := HGB.out; omega)⟩, ⟨Own8.set HGB.out hnc HH.out HZ'.out⟩, ⟨Kd.F_far HFq.out (p := ⟨gb, j, none⟩) (fun k hk => by show k ≠ gb; have hk' : w5.heap.size ≤ k ∧ k < w6.heap.size := hk; have := HGB.out; omega) _⟩⟩
              case measure => simp [intOf]; omega
            · obtain rfl : j = y.length := by omega
              clear hcv5 hcv6
              go_wp2_with fail
              refine (sRead wr S g n L O nm HDq.out HZ.out hnmx).mono ?_
              rw [← HQE.out]
              rintro e w8 ⟨⟨v8, rfl, hr8⟩, hB8⟩
              rw [← HYE.out] at hr8
              obtain ⟨A8, c8, rfl⟩ := Kd.R_slice hr8
              have hcv8 : (convert 22 9 (.slice A8 y.length c8)).run Try.prog w8 = .ok (.string (strOfNums y)) w8 := Kd.C_string (P := Try.prog) (A := A8) (c := c8) Try.underlying22 Try.underlying5 Try.underlying9 (Kd.R_reads' hr8).2.2
              have hcv6 : (convert 22 9 (.slice A6 y.length c6)).run Try.prog w8 = .ok (.string (strOfNums y)) w8 := Kd.C_string (P := Try.prog) (A := A6) (c := c6) Try.underlying22 Try.underlying5 Try.underlying9 (Kd.F_now (Kd.F_below HFq.out hB8))
              have heq8 : ((strOfNums y).toList == (strOfNums y).toList) = true := by simp
              have HB8 := Aside0.mk (below_then HQ.out HQ.out.size hB8)
              clear hr8 hB8
              go_wp2_with fail
              refine (works_disk w8).mono ?_
              rintro e w9 ⟨rfl, hB9⟩
              have HB9 := Aside0.mk (below_then HB8.out HB8.out.size hB9)
              clear hB9
              go_wp2_with fail
              go_ret
              exact ⟨rfl, HB9.out⟩
end Go.Proofs.Ytfaniohoplbdoaa.My
/- The statement DiskRead returns true for all files, operations and names, and these read as before. Conditions: none. -/
namespace Go.Proofs.Ytfaniohoplbdoaa.diskRead
open Go.ChangeShapes Go.WideShapes Go.ChangeAt Go.RowKit
open Go.ChangeMaps (open_string shut_string)
open Go.Proofs.Ytfaniohoplbdoaa.My
set_option linter.unusedVariables false
set_option linter.unusedSimpArgs false

theorem own : ownKnob Try.prog.godebug = none := by kernel_rfl
theorem laidOut : laidOutB Try.prog = true := by kernel_rfl

set_option maxRecDepth 100000 in
theorem lifted (os : Os) (started : os.Started) (H : Type) (enc : TypeId × Value → H) :
    ReturnsInHanded {} Try.checked os 14 .any (Rows.diskReadSpec.pre6 enc Try.prog Try.f14 Rows.diskReadRow.domain false) (Rows.diskReadSpec.post enc Try.prog Try.f14 false true false false) := by
  refine returnsInHanded_of_change_sized (C := Try.checked) own started (by kernel_rfl) Try.func14
    (ChangeSpec.witness6 (enc := enc) (C := Try.checked) false ⟨#[], #[.slice none 0 0, .slice none 0 0, .string ⟨#[]⟩], []⟩ 8 (by kernel_rfl) (by kernel_rfl) (by kernel_rfl) (by kernel_rfl)) ?_
  intro W base args ds gs before hval0 hW hcnd hsz0 _
  have hsz : (DataW.weightsEach Try.prog (Try.f14.params.toList ++ Rows.diskReadSpec.plain.varTypes Try.prog) (ds ++ gs)).all (· ≤ reachBytes) = true := hsz0
  have hval : ∀ (j : Nat) t v, Try.f14.params[j]? = some t → args[j]? = some v → Value.okWide Try.prog W .any base t v := hval0
  have hW' := hW
  obtain ⟨p, q, hA0, hV, rfl, hfz, hnd⟩ := hW
  have hA : DataW.TrodAll enc Try.prog W 0 (fun _ => true) true Try.f14.params.toList args.toList ds p := hA0
  rw [Try.params14] at hA hval hsz
  obtain ⟨v0, vs0, d0, ds0, p0, q0, hargs, rfl, rfl, h0, r0⟩ := trodAll_cons hA
  obtain ⟨v1, vs1, d1, ds1, p1, q1, rfl, rfl, rfl, h1, r1⟩ := trodAll_cons r0
  obtain ⟨v2, vs2, d2, ds2, p2, q2, rfl, rfl, rfl, h2, r2⟩ := trodAll_cons r1
  obtain ⟨rfl, rfl, rfl⟩ := trodAll_nil r2
  obtain rfl : args = #[v0, v1, v2] := by cases args; simp_all
  obtain ⟨rfl, rfl⟩ := trodVars_none hV
  obtain ⟨a0, len0, cap0, rfl⟩ := okWide_slice Try.underlying42 (hval 0 42 v0 rfl rfl)
  obtain ⟨a1, len1, cap1, rfl⟩ := okWide_slice Try.underlying91 (hval 1 91 v1 rfl rfl)
  obtain ⟨s2, rfl, rfl, rfl, w2⟩ := open_string Try.underlying9 (hval 2 9 v2 rfl rfl) h2
  have k0 := h0
  have k1 := h1
  have lt0 : ∀ x ∈ p0, x.block < W.heap.size := by obtain ⟨m, hm⟩ := k0; exact DataW.trod_lt m _ _ _ hm
  have lt1 : ∀ x ∈ p1, x.block < W.heap.size := by obtain ⟨m, hm⟩ := k1; exact DataW.trod_lt m _ _ _ hm
  obtain ⟨l, rfl, hF⟩ := open_files_sized hsz (j := 0) rfl rfl h0
  obtain ⟨ops, rfl, hP⟩ := open_ops_sized hsz (j := 1) rfl rfl h1
  clear hA0 hval0 hsz0 hsz
  refine (law_read a0 cap0 l a1 cap1 ops s2 W w2 hF hP).mono fun e W' ⟨he, bel⟩ => ?_
  subst he
  exact ⟨_, rfl, _, _, _, [], _, [], hW', trodAll_mk1 (shut_bool Try.underlying4 _), (trodAll_cons_mk (Below.trod laidOut (by kernel_rfl) (of_decide_eq_true (by kernel_rfl)) k0 bel lt0) (trodAll_cons_mk (Below.trod laidOut (by kernel_rfl) (of_decide_eq_true (by kernel_rfl)) k1 bel lt1) (trodAll_cons_mk (shut_string Try.underlying9 w2) trodAll_mk0))), rfl, bel.frame _, fun h => by cases h⟩

theorem over : Rows.diskReadRow.holds Try.pinned (OpenSpec.ofChange Rows.diskReadSpec) :=
  OpenClaim.holds_of_wide 14 Try.f14 rfl rfl rfl rfl rfl rfl rfl ⟨rfl, rfl, rfl, rfl, rfl⟩ rfl rfl rfl rfl rfl (by kernel_rfl) Try.func14 (by kernel_rfl)
    (of_decide_eq_true (by kernel_rfl)) (by unfold Func.isWrapper; first | (rw [if_pos (by decide +kernel)]; kernel_rfl) | (rw [if_neg (by decide +kernel)]; exact ⟨rfl, rfl⟩))
    (fun os started H enc _ => lifted os started H enc)

theorem proved : Rows.DiskReadSaid := over
#print axioms proved
end Go.Proofs.Ytfaniohoplbdoaa.diskRead
