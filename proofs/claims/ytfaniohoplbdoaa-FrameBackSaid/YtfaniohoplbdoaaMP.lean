/- The statement FrameBack, walked. -/
import Derived.Test.YtfaniohoplbdoaaMO
namespace Go.Proofs.Ytfaniohoplbdoaa.My
open Go Go.RowKit Go.Proofs.YtfaniohoplbdoaaW.PrintWords Go.Proofs.YtfaniohoplbdoaaW.PrintLast Go.Proofs.YtfaniohoplbdoaaW.PrintMore
set_option linter.unusedVariables false
set_option linter.unusedSimpArgs false
/-- How many bytes the first n frames have. -/
def FL (l : List (List Int)) (n : Nat) : Nat := (framesL (l.take n)).length
theorem FL_mono (l : List (List Int)) {m n : Nat} (h : m ≤ n) : FL l m ≤ FL l n := by
  unfold FL
  rw [framesL_length, framesL_length, List.length_take, List.length_take]
  have := tot_take_le (l.take n) m
  rw [List.take_take, Nat.min_eq_left h] at this
  omega
/-- Of the first j ends, m are not behind k. -/
def Whole (l : List (List Int)) (k j m : Nat) : Prop := m ≤ j ∧ FL l m ≤ k ∧ (m = j ∨ k < FL l (m + 1))
theorem Whole.zero (l : List (List Int)) (k : Nat) : Whole l k 0 0 := ⟨by omega, by simp [FL, framesL], .inl rfl⟩
theorem Whole.step {l : List (List Int)} {k j m : Nat} (h : Whole l k j m) : (FL l (j + 1) ≤ k ∧ m = j ∧ Whole l k (j + 1) (m + 1)) ∨ (k < FL l (j + 1) ∧ Whole l k (j + 1) m) := by
  obtain ⟨h1, h2, h3⟩ := h
  by_cases h4 : FL l (j + 1) ≤ k
  · left
    rcases h3 with rfl | h3
    · exact ⟨h4, rfl, by omega, h4, .inl rfl⟩
    · have := FL_mono l (show m + 1 ≤ j + 1 by omega)
      omega
  · right
    refine ⟨by omega, by omega, h2, ?_⟩
    rcases h3 with rfl | h3
    · exact .inr (by omega)
    · exact .inr h3
theorem Whole.scan {l : List (List Int)} {k m : Nat} (h : Whole l k l.length m) (hk : k ≤ (framesL l).length) (hb : ∀ b ∈ l, b.length ≤ 1048576) : scanL ((framesL l).take k) = (l.take m, FL l m) := by
  obtain ⟨h1, h2, h3⟩ := h
  by_cases hm : m = l.length
  · subst hm
    unfold FL at h2 ⊢
    rw [List.take_length] at h2 ⊢
    rw [List.take_of_length_le (by omega)]
    have := scanL_frames l [] hb
    rw [List.append_nil] at this
    rw [this, scanL_short (by simp)]
    simp
  · have hlt : m < l.length := by omega
    have h4 : k < FL l (m + 1) := by rcases h3 with h | h; exact absurd h hm; exact h
    unfold FL at h2 h4 ⊢
    rw [framesL_take_succ hlt, List.length_append, frameL_length] at h4
    have hd : framesL l = framesL (l.take m) ++ (frameL l[m] ++ framesL (l.drop (m + 1))) := by
      rw [← List.append_assoc, ← framesL_take_succ hlt, ← framesL_append, List.take_append_drop]
    rw [hd, List.take_append, List.take_of_length_le h2, List.take_append_of_le_length (by rw [frameL_length]; omega)]
    rw [scanL_frames (l.take m) _ (fun b hb' => hb b (List.mem_of_mem_take hb')), scanL_torn _ (hb _ (List.getElem_mem hlt)) _ (by omega)]
    simp
theorem framesL_byt {l : List (List Int)} (h : ∀ b ∈ l, Byt b) : Byt (framesL l) := by
  induction l with
  | nil => exact Byt.nil
  | cons b l ih => rw [framesL_cons]; exact (frameL_byt (h b List.mem_cons_self)).append (ih fun x hx => h x (List.mem_cons_of_mem _ hx))
theorem CI.at_ {w : World} {A : Option Addr} {l : List Int} (h : CI w A l) (j : Nat) (hj : j < l.length) : ∃ ad, A = some ad ∧ w.cell? (ad.add j) = some (.int .i64 l[j]) := by
  obtain ⟨ad, e, hc⟩ := h.2.2 (by omega)
  obtain ⟨cs, hlen, hK, hcell⟩ := hc j l[j] (List.getElem?_eq_getElem hj)
  have hK' : cs = [.int .i64 l[j]] := hK
  subst hK'
  have := hcell 0 _ rfl
  rw [show j * Kd.sz (Kd.int .i64) + 0 = j from by show j * 1 + 0 = j; omega] at this
  exact ⟨ad, e, this⟩
theorem info22' : (Try.prog.info? 22).map (fun i => (i.zero, i.size, i.bytes)) = some (some (.slice none 0 0), 1, 24) := by kernel_rfl
theorem cutL_to (A : Option Addr) (c : Nat) (l : List (List Int)) (hi : Nat) (j : Int) (hj : j = (hi : Int)) (hc : l.length ≤ c) (h : hi ≤ l.length) :
    (∀ W : World, (Instr.slice 38 (.slice A l.length c) none (some (.int .i64 j)) none).run Try.prog W = .ok (.slice A (l.take hi).length c) W) ∧ ∀ w, CL w A l → CL w A (l.take hi) := by
  subst hj
  obtain ⟨i0, hi0, _, hsz, _⟩ := info_parts info22'
  have h1 := cut_to (P := Try.prog) 38 22 .i64 Try.underlying38 hi0 A l.length c (hi : Int) (by omega) (by omega) hc
  rw [Int.toNat_natCast] at h1
  refine ⟨fun W => ?_, fun w hC => Kd.C_take hC h⟩
  rw [h1 W, List.length_take, Nat.min_eq_left h]
theorem scan_at {w : World} {A : Option Addr} {c : Nat} {b : List Int} {y : List (List Int)} {n : Nat} (hC : CB w A b) (hc : b.length ≤ c) (hb : Byt b) (hl : b.length ≤ 1099511627776) (hs : scanL b = (y, n)) :
    Calls Try.prog 28 #[.slice A b.length c] w fun e w' => ∃ v, e = .returned (.tuple #[v, .int .i64 (n : Int)]) ∧ RL w' w.heap.size v y ∧ Below w.heap.size w w' :=
  calls_scan (fScan_calls A c b w hC hc hb hl) hs
set_option maxHeartbeats 1000000 in
set_option maxRecDepth 100000 in
theorem law_back (A : Option Addr) (c : Nat) (l : List (List Int)) (cut : Int) (w : World) (hC : CL w A l) (hc : l.length ≤ c) (hb : ∀ b ∈ l, Byt b) (h1 : l.length ≤ 140737488351232) (h2 : ∀ b ∈ l, b.length ≤ 140737488351232) :
    Calls Try.prog 9 #[.slice A l.length c, .int .i64 cut] w (LawPost w) := by
  have HL := Aside0.mk (large_calls A c l w hC h1 h2)
  have HC := Aside0.mk hC
  have HB := Aside0.mk hb
  clear hC hb h2
  by_cases hg : big l = true
  · rw [hg] at HL
    clear hg
    go_enter Try.func9, Try.ntmps9
    go_wp2_with (first | (go_at_call 44; with_reducible refine HL.out.mono ?_; rintro e w1 ⟨rfl, n1, rfl⟩) | (go_at_call 20; refine (works_calls _).mono ?_; rintro e w' ⟨rfl, hw⟩) | fail)
    go_ret
    exact ⟨rfl, below_then (pw_below_drewN (Below.refl _ _) n1) (Nat.le_refl _) hw⟩
  · have hg : big l = false := by simpa using hg
    rw [hg] at HL
    have hs : l.length + tot l ≤ 20000 := by simpa [big] using hg
    clear hg
    have hbl : ∀ b ∈ l, b.length ≤ 1048576 := by
      intro b hb
      have : b.length ≤ tot l := by
        unfold tot
        obtain ⟨s, t, rfl⟩ := List.append_of_mem hb
        simp
        omega
      omega
    have HBL := Aside0.mk hbl
    clear hbl
    obtain ⟨b, hbe⟩ : ∃ b, b = framesL l := ⟨_, rfl⟩
    have hbn : b.length ≤ 160000 := by
      rw [hbe, framesL_length]
      omega
    have HBB := Aside0.mk (show Byt b by rw [hbe]; exact framesL_byt HB.out)
    have HS := Aside0.mk (show scanL b = (l, b.length) by
      have := scanL_frames l [] HBL.out
      rw [List.append_nil] at this
      rw [hbe, this, scanL_short (by simp)]
      simp)
    have HAp := Aside0.mk (fun w' (hw : Below w.heap.size w w') => appended_calls A c l w' (Kd.C_below HC.out hw) HB.out hs)
    rw [← hbe] at HAp
    obtain ⟨m0, k, hkl, hkk, hmin, hmax⟩ := clamp cut b.length
    clear hkk
    have HBE := Aside0.mk hbe
    clear hbe
    have hq : ((b.length : Int) != (b.length : Int)) = false := by simp
    go_enter Try.func9, Try.ntmps9
    go_wp2_with fail
    with_reducible refine HL.out.mono ?_
    rintro e w1 ⟨rfl, n1, rfl⟩
    have HW1 := Aside0.mk (pw_below_drewN (Below.refl w.heap.size w) n1)
    go_wp2_with fail
    with_reducible refine (HAp.out _ HW1.out).mono ?_
    rintro e w2 ⟨v2, u2, rfl, hr2, hi2, hw2⟩
    obtain ⟨A2, c2, rfl, hc2, hC2⟩ := Kd.R_reads hr2
    obtain ⟨A3, c3, rfl, hc3, hC3⟩ := Kd.R_reads hi2
    have HC2 := Aside0.mk hC2
    have HC3 := Aside0.mk hC3
    have HW2 := Aside0.mk (below_then HW1.out HW1.out.size hw2)
    clear hr2 hi2 hw2 hC2 hC3 HL HAp
    go_wp2_with fail
    with_reducible refine (scan_at HC2.out hc2 HBB.out (by omega) HS.out).mono ?_
    rintro e w3 ⟨v3, rfl, hr3, hw3⟩
    obtain ⟨A4, c4, rfl, hc4, hC4⟩ := Kd.R_reads hr3
    have HC4 := Aside0.mk hC4
    have HW3 := Aside0.mk (below_then HW2.out HW2.out.size hw3)
    have HC2' := Aside0.mk (Kd.C_below HC2.out hw3)
    have HC3' := Aside0.mk (Kd.C_below HC3.out hw3)
    clear hr3 hw3 hC4 HC2 HC3
    go_wp2_with fail
    with_reducible refine (lists_true A4 c4 A c l w3 HC4.out (Kd.C_below HC.out HW3.out)).mono ?_
    rintro e w4 ⟨rfl, n4, rfl⟩
    have HLW := Aside0.mk (endsL_length l)
    go_wp2_with fail
    have HLW := Aside0.mk HLW.out
    go_loopw [11, 12, 52] (fun m e i wr => ∃ j mm : Nat, j ≤ l.length ∧ i = .int .i64 j ∧ m = .int .i64 mm ∧ e = .int .i64 (FL l mm : Nat) ∧ Aside0 (Whole l k j mm) ∧ Drawn0 w3 wr) (fun _ _ i _ => l.length - (intOf i).toNat)
    case atStart => exact ⟨0, 0, by omega, rfl, rfl, by simp [FL, framesL], ⟨Whole.zero l k⟩, ⟨n4, rfl⟩⟩
    case round =>
      obtain ⟨j, mm, hj, rfl, rfl, rfl, HWh, n5, rfl⟩ := hrel
      by_cases hlt : j < l.length
      · obtain ⟨ad, rfl, hcell⟩ := CI.at_ (Kd.C_drewN HC3'.out n5) j (by rw [HLW.out]; exact hlt)
        rw [endsL_get] at hcell
        rw [show ((framesL (l.take (j + 1))).length : Int) = ((FL l (j + 1) : Nat) : Int) from rfl] at hcell
        have hlt2 : j < (endsL l).length := by rw [HLW.out]; exact hlt
        rcases HWh.out.step with ⟨hle, rfl, hw⟩ | ⟨hle, hw⟩
        · have hle2 : FL l (mm + 1) ≤ k := hle
          have HW' := Aside0.mk hw
          clear hw hle
          go_wp2
          go_roundw
          case rel => exact ⟨mm + 1, mm + 1, by omega, by go_num, by go_num, rfl, HW', ⟨n5, rfl⟩⟩
          case measure => simp [intOf]; omega
        · have hle2 : ¬ FL l (j + 1) ≤ k := by omega
          have HW' := Aside0.mk hw
          clear hw hle
          go_wp2
          go_roundw
          case rel => exact ⟨j + 1, mm, by omega, by go_num, rfl, rfl, HW', ⟨n5, rfl⟩⟩
          case measure => simp [intOf]; omega
      · obtain rfl : j = l.length := by omega
        have hge : ¬ l.length < (endsL l).length := by rw [HLW.out]; omega
        obtain ⟨hcut, hCk⟩ := cutB_to A2 c2 b k k rfl hc2 hkl
        have hmm : mm ≤ l.length := HWh.out.1
        obtain ⟨hcut2, hCl⟩ := cutL_to A c l mm mm rfl hc hmm
        have HCk := Aside0.mk (fun W (h : CB W A2 b) => hCk W h)
        have HCl := Aside0.mk (fun W (h : CL W A l) => hCl W h)
        have HSk := Aside0.mk (show scanL (b.take k) = (l.take mm, FL l mm) by rw [HBE.out] at hkl ⊢; exact HWh.out.scan hkl HBL.out)
        have hbk : (b.take k).length ≤ c2 := by rw [List.length_take]; omega
        have hbk2 : (b.take k).length ≤ 160000 := by rw [List.length_take]; omega
        have HBk := Aside0.mk (show Byt (b.take k) from fun x hx => HBB.out x (List.mem_of_mem_take hx))
        clear hCk hCl
        generalize b.take k = bk at hcut HCk HSk hbk hbk2 HBk
        generalize l.take mm = lm at hcut2 HCl HSk
        have hqe : ((FL l mm : Int) == (FL l mm : Int)) = true := by simp
        go_wp2_with fail
        with_reducible refine (scan_at (HCk.out _ (Kd.C_drewN HC2'.out n5)) hbk HBk.out (by omega) HSk.out).mono ?_
        rintro e w6 ⟨v6, rfl, hr6, hw6⟩
        obtain ⟨A6, c6, rfl, hc6, hC6⟩ := Kd.R_reads hr6
        have HC6 := Aside0.mk hC6
        have HW6 := Aside0.mk (below_then (pw_below_drewN HW3.out n5) HW3.out.size hw6)
        clear hr6 hw6 hC6
        go_wp2_with fail
        with_reducible refine (lists_true A6 c6 A c lm w6 HC6.out (HCl.out _ (Kd.C_below HC.out HW6.out))).mono ?_
        rintro e w7 ⟨rfl, n7, rfl⟩
        go_wp2_with fail
        refine (works_calls _).mono ?_
        rintro e w' ⟨rfl, hw⟩
        go_wp2
        go_ret
        exact ⟨rfl, below_then (pw_below_drewN HW6.out n7) HW6.out.size hw⟩
end Go.Proofs.Ytfaniohoplbdoaa.My
