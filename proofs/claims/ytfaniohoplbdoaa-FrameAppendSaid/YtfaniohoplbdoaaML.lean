/- 'lists' on equal lists; the statement FrameScan, walked. -/
import Derived.Test.YtfaniohoplbdoaaMK
namespace Go.Proofs.Ytfaniohoplbdoaa.My
open Go Go.RowKit Go.Proofs.YtfaniohoplbdoaaW.PrintWords Go.Proofs.YtfaniohoplbdoaaW.PrintLast Go.Proofs.YtfaniohoplbdoaaW.PrintMore
set_option linter.unusedVariables false
set_option linter.unusedSimpArgs false
/-- A list of byte strings that is read. -/
abbrev CL (w : World) (A : Option Addr) (l : List (List Int)) : Prop := Kd.C kB w A l.length l
theorem CL.at_ {w : World} {A : Option Addr} {l : List (List Int)} (h : CL w A l) (j : Nat) (hj : j < l.length) :
    ∃ ad A' c', A = some ad ∧ w.cell? (ad.add j) = some (.slice A' l[j].length c') ∧ l[j].length ≤ c' ∧ CB w A' l[j] := by
  obtain ⟨ad, e, hc⟩ := h.2.2 (by omega)
  obtain ⟨cs, hlen, ⟨A', c', hcs, hl, hC⟩, hcell⟩ := hc j l[j] (List.getElem?_eq_getElem hj)
  subst hcs
  have := hcell 0 _ rfl
  rw [show j * Kd.sz kB + 0 = j from by show j * 1 + 0 = j; omega] at this
  exact ⟨ad, A', c', e, this, hl, hC⟩
set_option maxHeartbeats 1000000 in
theorem lists_true (A : Option Addr) (c : Nat) (A' : Option Addr) (c' : Nat) (l : List (List Int)) (w : World) (hC : CL w A l) (hC' : CL w A' l) :
    Calls Try.prog 30 #[.slice A l.length c, .slice A' l.length c'] w fun e w' => e = .returned (.bool true) ∧ Drawn0 w w' := by
  have hm := Kd.C_max hC
  have HC := Aside0.mk hC
  have HC' := Aside0.mk hC'
  clear hC hC'
  go_enter Try.func30, Try.ntmps30
  go_wp2
  go_loopw [13] (fun i wr => ∃ k : Nat, k ≤ l.length ∧ i = .int .i64 k ∧ Drawn0 w wr) (fun i _ => l.length - (intOf i).toNat)
  case atStart => exact ⟨0, by omega, rfl, Drawn0.refl w⟩
  case round =>
    obtain ⟨k, hk, rfl, n, rfl⟩ := hrel
    by_cases hlt : k < l.length
    · obtain ⟨ad, B, d, rfl, hcell, hd, hCB⟩ := CL.at_ (Kd.C_drewN HC.out (n + 1)) k hlt
      obtain ⟨ad', B', d', rfl, hcell', hd', hCB'⟩ := CL.at_ (Kd.C_drewN HC'.out (n + 1)) k hlt
      obtain ⟨y, hy⟩ : ∃ y, y = l[k] := ⟨_, rfl⟩
      rw [← hy] at hcell hcell' hCB hCB' hd hd'
      clear hy
      have hcv := Kd.C_string (P := Try.prog) (A := B) (c := d) Try.underlying22 Try.underlying5 Try.underlying9 hCB
      have hcv' := Kd.C_string (P := Try.prog) (A := B') (c := d') Try.underlying22 Try.underlying5 Try.underlying9 hCB'
      have hne : ((strOfNums y).toList != (strOfNums y).toList) = false := by simp
      go_wp2
      refine start_ (n := 11) (S := fun w' => w' = w.drewN (n + 1)) (ds := []) #[false, false, false, false, false, false, false, false, false, false, false] (by kernel_rfl) rfl rfl ?_ (fun hHeld => ?_)
      · rfl
      refine pure_ (i := 0) (N := some 16) (v := ?_) (a' := ?_) #[true, false, false, false, false, false, false, false, false, false, false] rfl rfl (by kernel_rfl) (fun _ _ _ h => h) (Or.inl ⟨by rfl, ?_⟩) ?_ ?_
      rotate_left
      · intro w'
        go_simp
        with_reducible rfl
      rotate_left
      · simp only [Act.put, List.setIfInBounds_toArray, List.set_cons_zero, List.set_cons_succ, i64_w, i32_w]
        rfl
      refine pure_ (i := 1) (N := some 17) (v := ?_) (a' := ?_) #[true, true, false, false, false, false, false, false, false, false, false] rfl rfl (by kernel_rfl) (fun _ _ _ h => h) (Or.inl ⟨by rfl, ?_⟩) ?_ ?_
      rotate_left
      · intro w'
        go_simp
        with_reducible rfl
      rotate_left
      · simp only [Act.put, List.setIfInBounds_toArray, List.set_cons_zero, List.set_cons_succ, i64_w, i32_w]
        rfl
      refine pure_ (i := 2) (N := some 18) (v := ?_) (a' := ?_) #[true, true, true, false, false, false, false, false, false, false, false] rfl rfl (by kernel_rfl) (fun _ _ _ h => h) (Or.inl ⟨by rfl, ?_⟩) ?_ ?_
      rotate_left
      · intro w'
        go_simp
        with_reducible rfl
      rotate_left
      · simp only [Act.put, List.setIfInBounds_toArray, List.set_cons_zero, List.set_cons_succ, i64_w, i32_w]
        rfl
      refine take_ (i := 3) (N := some 19) (v := ?_) (a' := ?_) #[true, true, true, true, false, false, false, false, false, false, false] rfl rfl (by kernel_rfl) (fun _ _ _ h => h) (Or.inl ⟨by rfl, ?_⟩) hHeld ?_ ?_
      rotate_left
      · rintro w' rfl
        go_simp
        with_reducible rfl
      rotate_left
      · simp only [Act.put, List.setIfInBounds_toArray, List.set_cons_zero, List.set_cons_succ, i64_w, i32_w]
        rfl
      refine take_ (i := 4) (N := some 20) (v := ?_) (a' := ?_) #[true, true, true, true, true, false, false, false, false, false, false] rfl rfl (by kernel_rfl) (fun _ _ _ h => h) (Or.inl ⟨by rfl, ?_⟩) hHeld ?_ ?_
      rotate_left
      · rintro w' rfl
        go_simp
        with_reducible rfl
      rotate_left
      · simp only [Act.put, List.setIfInBounds_toArray, List.set_cons_zero, List.set_cons_succ, i64_w, i32_w]
        rfl
      refine pure_ (i := 5) (N := some 21) (v := ?_) (a' := ?_) #[true, true, true, true, true, true, false, false, false, false, false] rfl rfl (by kernel_rfl) (fun _ _ _ h => h) (Or.inl ⟨by rfl, ?_⟩) ?_ ?_
      rotate_left
      · intro w'
        go_simp
        with_reducible rfl
      rotate_left
      · simp only [Act.put, List.setIfInBounds_toArray, List.set_cons_zero, List.set_cons_succ, i64_w, i32_w]
        rfl
      refine pure_ (i := 6) (N := some 22) (v := ?_) (a' := ?_) #[true, true, true, true, true, true, true, false, false, false, false] rfl rfl (by kernel_rfl) (fun _ _ _ h => h) (Or.inl ⟨by rfl, ?_⟩) ?_ ?_
      rotate_left
      · intro w'
        go_simp
        with_reducible rfl
      rotate_left
      · simp only [Act.put, List.setIfInBounds_toArray, List.set_cons_zero, List.set_cons_succ, i64_w, i32_w]
        rfl
      refine pure_ (i := 7) (N := some 23) (v := ?_) (a' := ?_) #[true, true, true, true, true, true, true, true, false, false, false] rfl rfl (by kernel_rfl) (fun _ _ _ h => h) (Or.inl ⟨by rfl, ?_⟩) ?_ ?_
      rotate_left
      · intro w'
        go_simp
        with_reducible rfl
      rotate_left
      · simp only [Act.put, List.setIfInBounds_toArray, List.set_cons_zero, List.set_cons_succ, i64_w, i32_w]
        rfl
      refine take_ (i := 8) (N := some 24) (v := ?_) (a' := ?_) #[true, true, true, true, true, true, true, true, true, false, false] rfl rfl (by kernel_rfl) (fun _ _ _ h => h) (Or.inl ⟨by rfl, ?_⟩) hHeld ?_ ?_
      rotate_left
      · rintro w' rfl
        go_simp
        with_reducible rfl
      rotate_left
      · simp only [Act.put, List.setIfInBounds_toArray, List.set_cons_zero, List.set_cons_succ, i64_w, i32_w]
        rfl
      refine take_ (i := 9) (N := some 25) (v := ?_) (a' := ?_) #[true, true, true, true, true, true, true, true, true, true, false] rfl rfl (by kernel_rfl) (fun _ _ _ h => h) (Or.inl ⟨by rfl, ?_⟩) hHeld ?_ ?_
      rotate_left
      · rintro w' rfl
        go_simp
        with_reducible rfl
      rotate_left
      · simp only [Act.put, List.setIfInBounds_toArray, List.set_cons_zero, List.set_cons_succ, i64_w, i32_w]
        rfl
      refine pure_ (i := 10) (N := some 26) (v := ?_) (a' := ?_) #[true, true, true, true, true, true, true, true, true, true, true] rfl rfl (by kernel_rfl) (fun _ _ _ h => h) (Or.inl ⟨by rfl, ?_⟩) ?_ ?_
      rotate_left
      · intro w'
        go_simp
        with_reducible rfl
      rotate_left
      · simp only [Act.put, List.setIfInBounds_toArray, List.set_cons_zero, List.set_cons_succ, i64_w, i32_w]
        rfl
      refine done_ (by kernel_rfl) ?_
      clear hcv hcv' hcell hcell'
      go_wp2
      go_roundw
      case rel => exact ⟨k + 1, by omega, by go_num, ⟨n + 1, hHeld⟩⟩
      case measure => simp [intOf]; omega
    · obtain rfl : k = l.length := by omega
      go_wp2
      go_ret
      exact ⟨rfl, ⟨_, rfl⟩⟩
theorem calls_scan {f : FuncId} {w : World} {A : Option Addr} {c : Nat} {l : List Int} {y : List (List Int)} {n : Nat} (h : Calls Try.prog f #[.slice A l.length c] w (ScanPost w l)) (hs : scanL l = (y, n)) :
    Calls Try.prog f #[.slice A l.length c] w fun e w' => ∃ v, e = .returned (.tuple #[v, .int .i64 (n : Int)]) ∧ RL w' w.heap.size v y ∧ Below w.heap.size w w' := by
  unfold ScanPost at h
  rw [hs] at h
  exact h
set_option maxHeartbeats 1000000 in
theorem law_scan (A : Option Addr) (c : Nat) (l : List Int) (w : World) (hC : CB w A l) (hc : l.length ≤ c) (hb : Byt l) : Calls Try.prog 7 #[.slice A l.length c] w (LawPost w) := by
  have hm := Kd.C_max hC
  by_cases h2 : 20000 < l.length
  · clear hC hb
    go_enter Try.func7, Try.ntmps7
    go_wp2_with (go_at_call 20; refine (works_calls _).mono ?_; rintro e w' ⟨rfl, hw⟩)
    go_ret
    exact ⟨rfl, hw⟩
  · obtain ⟨⟨y, n⟩, hp⟩ : ∃ p, scanL l = p := ⟨_, rfl⟩
    have HF := Aside0.mk (calls_scan (fScan_calls A c l w hC hc hb (by omega)) hp)
    have HR := Aside0.mk (fun w' (hw : Below w.heap.size w w') => calls_scan (rScan_calls A c l w' (Kd.C_below hC hw) hc hb (by omega)) hp)
    clear hp
    have hq1 : ((n : Int) == (n : Int)) = true := by simp
    clear hC hb
    go_enter Try.func7, Try.ntmps7
    go_wp2_with fail
    refine HF.out.mono ?_
    rintro e w1 ⟨v1, rfl, hr1, hw1⟩
    obtain ⟨A1, c1, rfl, hc1, hC1⟩ := Kd.R_reads hr1
    have HC1 := Aside0.mk hC1
    have HW1 := Aside0.mk hw1
    clear hr1 hC1 hw1
    go_wp2_with fail
    refine (HR.out _ HW1.out).mono ?_
    rintro e w2 ⟨v2, rfl, hr2, hw2⟩
    obtain ⟨A2, c2, rfl, hc2, hC2⟩ := Kd.R_reads hr2
    have HC2 := Aside0.mk hC2
    have HC12 := Aside0.mk (Kd.C_below HC1.out hw2)
    have HW2 := Aside0.mk (below_then HW1.out HW1.out.size hw2)
    clear hr2 hC2 hw2 HC1
    go_wp2_with fail
    refine (lists_true A1 c1 A2 c2 y w2 HC12.out HC2.out).mono ?_
    rintro e w3 ⟨rfl, n3, rfl⟩
    go_wp2_with fail
    refine (works_calls _).mono ?_
    rintro e w' ⟨rfl, hw⟩
    go_wp2
    go_ret
    exact ⟨rfl, below_then (pw_below_drewN HW2.out n3) HW2.out.size hw⟩
end Go.Proofs.Ytfaniohoplbdoaa.My
