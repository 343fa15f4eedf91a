/- balance. -/
import Derived.Test.YtdjfjmcnghfdkaaID
namespace Go.Proofs.Ytdjfjmcnghfdkaa.My
open Go Go.RowKit Go.Proofs.YtdjfjmcnghfdkaaW.PrintWords Go.Proofs.YtdjfjmcnghfdkaaW.PrintLast Go.Proofs.YtdjfjmcnghfdkaaW.PrintMore Go.Proofs.Ytdjfjmcnghfdkaa.PItreeActs
set_option linter.unusedVariables false
set_option linter.unusedSimpArgs false
theorem ptr_mono {f : Nat} {args : Array Value} {w : World} {T : BT} {u : Option Addr} {R : World → Prop} (ht : T.ptr = .pointer u) (h : Calls Try.prog f args w fun e w' => e = .returned T.ptr ∧ R w') : Calls Try.prog f args w fun e w' => e = .returned (.pointer u) ∧ R w' :=
  h.mono fun _ _ ⟨he, hr⟩ => ⟨he.trans (congrArg _ ht), hr⟩
abbrev BalPost (w : World) (T U : BT) : Ending → World → Prop := fun e w' => e = .returned T.ptr ∧ T.At w' ∧ Wr w w' (fun k => k ∈ U.blks)
set_option maxHeartbeats 1000000 in
set_option maxRecDepth 100000 in
theorem balance_l1 (b : Nat) (x : S30) (b' : Nat) (y : S30) (a c r : BT) (w : World) (h : Raw w b x (.nd (b', y) a c) r) (hn : (Tr.nd (b, x) (.nd (b', y) a c) r).blks.Nodup) (hh1 : a.ht ≤ 800000) (hh2 : c.ht ≤ 800000) (hh3 : r.ht ≤ 800000)
    (hd : r.ht + 1 < 1 + max a.ht c.ht) (hac : ¬ a.ht < c.ht) :
    Calls Try.prog 39 #[.pointer (some ⟨b, 0, none⟩)] w (BalPost w (.nd (b', y) a (.nd (b, x) c r)) (.nd (b, x) (.nd (b', y) a c) r)) := by
  skip
  obtain ⟨n1, n2, n3, n4, n5⟩ := blks_nodup_nd hn
  have HF := Aside0.mk (fix_calls b x (.nd (b', y) a c) r w h n3 n4 (by (try simp only [Tr.ht]); omega) (by (try simp only [Tr.ht]); omega))
  obtain ⟨na, hna⟩ : ∃ n, n = a.ht := ⟨_, rfl⟩
  obtain ⟨nc, hnc⟩ : ∃ n, n = c.ht := ⟨_, rfl⟩
  obtain ⟨nr, hnr⟩ : ∃ n, n = r.ht := ⟨_, rfl⟩
  obtain ⟨nl, hnl⟩ : ∃ n, n = (Tr.nd (b', y) a c).ht := ⟨_, rfl⟩
  have hnl' : nl = 1 + max na nc := by rw [hnl, hna, hnc]; simp only [Tr.ht] <;> omega
  rw [← hna, ← hnc, ← hnr] at hd
  rw [← hna, ← hnc] at hac
  have HH := Aside0.mk (And.intro hh1 (And.intro hh2 hh3))
  rw [← hna] at hh1
  rw [← hnc] at hh2
  rw [← hnr] at hh3
  have Q0 := Aside0.mk hn
  have QA := Aside0.mk hna
  have QC := Aside0.mk hnc
  have QR := Aside0.mk hnr
  have QL := Aside0.mk hnl
  have hnl0 : nl ≤ 900000 := by omega
  obtain ⟨va, hva⟩ := ptr_pointer a
  obtain ⟨vc, hvc⟩ := ptr_pointer c
  obtain ⟨vr, hvr⟩ := ptr_pointer r
  have HVA := Aside0.mk hva
  have HVC := Aside0.mk hvc
  have HVR := Aside0.mk hvr
  have hs1 : IntKind.i64.wrap ((nl : Int) - (nr : Int)) = (nl : Int) - (nr : Int) := by rw [i64_w]; unfold wrap64; omega
  have HS1 := Aside0.mk hs1
  have hd1 : decide (1 < (nl : Int) - (nr : Int)) = true := by simp only [decide_eq_true_eq, decide_eq_false_iff_not]; omega
  have hd2 : decide ((nl : Int) - (nr : Int) < -1) = false := by simp only [decide_eq_true_eq, decide_eq_false_iff_not]; omega
  have hd3 : decide (na < nc) = false := by simpa using hac
  have HD1 := Aside0.mk hd1
  have HD2 := Aside0.mk hd2
  have HD3 := Aside0.mk hd3
  clear hna hnc hnr hnl hnl' hd hac hn n1 n2 n3 n4 n5 hva hvc hvr h hs1 hd1 hd2 hd3
  go_enter Try.func39, Try.ntmps39
  go_wp2_with (first | (go_at_call 46; with_reducible refine HF.out.mono ?_; rintro e w1 ⟨rfl, hT, hw⟩; have HT := Aside0.mk hT; have HW := Aside0.mk hw; clear hT hw HF) | fail)
  have HqL := Aside0.mk (levels_calls (.nd (b', y) a c) w1.drew (HT.out.2.1.drewN 1))
  have HqR := Aside0.mk (levels_calls r w1.drew (HT.out.2.2.drewN 1))
  rw [HVR.out, ← QR.out] at HqR
  rw [← QL.out] at HqL
  have hs1 := HS1.out
  refine start_ (n := 12) (S := fun w' => (w'.cell? ⟨b, 3, none⟩ = some (.pointer (some ⟨b', 0, none⟩)) ∧ w'.cell? ⟨b, 4, none⟩ = some (.pointer vr))) (ds := []) #[false, false, false, false, false, false, false, false, false, false, false, false] (by kernel_rfl) rfl rfl ?_ (fun hHeld => ?_)
  · exact ⟨(blk_cell HT.out.1 3).trans (congrArg some rfl), (blk_cell HT.out.1 4).trans (congrArg some HVR.out)⟩
  refine pure_ (i := 0) (N := some 6) (v := ?_) (a' := ?_) #[true, false, false, false, false, false, false, false, false, false, false, false] rfl rfl (by kernel_rfl) (fun _ _ _ h => h) (Or.inl ⟨by rfl, ?_⟩) ?_ ?_
  rotate_left
  · intro w'
    go_simp
    with_reducible rfl
  rotate_left
  · simp only [Act.put, List.setIfInBounds_toArray, List.set_cons_zero, List.set_cons_succ, i64_w, i32_w]
    rfl
  refine pure_ (i := 1) (N := some 7) (v := ?_) (a' := ?_) #[true, true, false, false, false, false, false, false, false, false, false, false] rfl rfl (by kernel_rfl) (fun _ _ _ h => h) (Or.inl ⟨by rfl, ?_⟩) ?_ ?_
  rotate_left
  · intro w'
    go_simp
    with_reducible rfl
  rotate_left
  · simp only [Act.put, List.setIfInBounds_toArray, List.set_cons_zero, List.set_cons_succ, i64_w, i32_w]
    rfl
  refine pure_ (i := 2) (N := some 8) (v := ?_) (a' := ?_) #[true, true, true, false, false, false, false, false, false, false, false, false] rfl rfl (by kernel_rfl) (fun _ _ _ h => h) (Or.inl ⟨by rfl, ?_⟩) ?_ ?_
  rotate_left
  · intro w'
    go_simp
    with_reducible rfl
  rotate_left
  · simp only [Act.put, List.setIfInBounds_toArray, List.set_cons_zero, List.set_cons_succ, i64_w, i32_w]
    rfl
  refine take_ (i := 3) (N := some 9) (v := ?_) (a' := ?_) #[true, true, true, true, false, false, false, false, false, false, false, false] rfl rfl (by kernel_rfl) (fun _ _ _ h => h) (Or.inl ⟨by rfl, ?_⟩) hHeld ?_ ?_
  rotate_left
  · rintro w' ⟨s0, s1⟩
    go_simp
    with_reducible rfl
  rotate_left
  · simp only [Act.put, List.setIfInBounds_toArray, List.set_cons_zero, List.set_cons_succ, i64_w, i32_w]
    rfl
  refine pure_ (i := 5) (N := some 11) (v := ?_) (a' := ?_) #[true, true, true, true, false, true, false, false, false, false, false, false] rfl rfl (by kernel_rfl) (fun _ _ _ h => h) (Or.inl ⟨by rfl, ?_⟩) ?_ ?_
  rotate_left
  · intro w'
    go_simp
    with_reducible rfl
  rotate_left
  · simp only [Act.put, List.setIfInBounds_toArray, List.set_cons_zero, List.set_cons_succ, i64_w, i32_w]
    rfl
  refine pure_ (i := 6) (N := some 12) (v := ?_) (a' := ?_) #[true, true, true, true, false, true, true, false, false, false, false, false] rfl rfl (by kernel_rfl) (fun _ _ _ h => h) (Or.inl ⟨by rfl, ?_⟩) ?_ ?_
  rotate_left
  · intro w'
    go_simp
    with_reducible rfl
  rotate_left
  · simp only [Act.put, List.setIfInBounds_toArray, List.set_cons_zero, List.set_cons_succ, i64_w, i32_w]
    rfl
  refine pure_ (i := 7) (N := some 13) (v := ?_) (a' := ?_) #[true, true, true, true, false, true, true, true, false, false, false, false] rfl rfl (by kernel_rfl) (fun _ _ _ h => h) (Or.inl ⟨by rfl, ?_⟩) ?_ ?_
  rotate_left
  · intro w'
    go_simp
    with_reducible rfl
  rotate_left
  · simp only [Act.put, List.setIfInBounds_toArray, List.set_cons_zero, List.set_cons_succ, i64_w, i32_w]
    rfl
  refine take_ (i := 8) (N := some 14) (v := ?_) (a' := ?_) #[true, true, true, true, false, true, true, true, true, false, false, false] rfl rfl (by kernel_rfl) (fun _ _ _ h => h) (Or.inl ⟨by rfl, ?_⟩) hHeld ?_ ?_
  rotate_left
  · rintro w' ⟨s0, s1⟩
    go_simp
    with_reducible rfl
  rotate_left
  · simp only [Act.put, List.setIfInBounds_toArray, List.set_cons_zero, List.set_cons_succ, i64_w, i32_w]
    rfl
  refine one_ (i := 4) (N := some 10) #[true, true, true, true, true, true, true, true, true, false, false, false] rfl rfl (by kernel_rfl) (by decide) (fun K hK => ?_)
  refine goes_ Try.func34 (by kernel_rfl) rfl #[(.pointer (some ⟨b', 0, none⟩))] (by rfl) rfl rfl (by (try simp only [List.map_toArray, List.map_cons, List.map_nil]); first | done | rfl) ?_
  refine HqL.out.mono ?_
  rintro e _ ⟨rfl, rfl⟩
  refine ⟨_, rfl, hK.out _ _ ⟨(blk_cell HT.out.1 3).trans (congrArg some rfl), (blk_cell HT.out.1 4).trans (congrArg some HVR.out)⟩ (fun _ => ?_)⟩
  clear hK K
  refine norm_ (a' := ?_) ?_ ?_
  rotate_left
  · show Act.put _ (some 10) _ = _
    simp only [Act.put, List.setIfInBounds_toArray, List.set_cons_zero, List.set_cons_succ, i64_w, i32_w]
    rfl
  refine one_ (i := 9) (N := some 15) #[true, true, true, true, true, true, true, true, true, true, false, false] rfl rfl (by kernel_rfl) (by decide) (fun K hK => ?_)
  refine goes_ Try.func34 (by kernel_rfl) rfl #[(.pointer vr)] (by rfl) rfl rfl (by (try simp only [List.map_toArray, List.map_cons, List.map_nil]); first | done | rfl) ?_
  refine HqR.out.mono ?_
  rintro e _ ⟨rfl, rfl⟩
  refine ⟨_, rfl, hK.out _ _ ⟨(blk_cell HT.out.1 3).trans (congrArg some rfl), (blk_cell HT.out.1 4).trans (congrArg some HVR.out)⟩ (fun _ => ?_)⟩
  clear hK K
  refine norm_ (a' := ?_) ?_ ?_
  rotate_left
  · show Act.put _ (some 15) _ = _
    simp only [Act.put, List.setIfInBounds_toArray, List.set_cons_zero, List.set_cons_succ, i64_w, i32_w]
    rfl
  refine pure_ (i := 10) (N := some 16) (v := ?_) (a' := ?_) #[true, true, true, true, true, true, true, true, true, true, true, false] rfl rfl (by kernel_rfl) (fun _ _ _ h => h) (Or.inl ⟨by rfl, ?_⟩) ?_ ?_
  rotate_left
  · intro w'
    go_simp
    with_reducible rfl
  rotate_left
  · simp only [Act.put, List.setIfInBounds_toArray, List.set_cons_zero, List.set_cons_succ, i64_w, i32_w]
    rfl
  refine pure_ (i := 11) (N := some 3) (v := ?_) (a' := ?_) #[true, true, true, true, true, true, true, true, true, true, true, true] rfl rfl (by kernel_rfl) (fun _ _ _ h => h) (Or.inl ⟨by rfl, ?_⟩) ?_ ?_
  rotate_left
  · intro w'
    go_simp
    with_reducible rfl
  rotate_left
  · simp only [Act.put, List.setIfInBounds_toArray, List.set_cons_zero, List.set_cons_succ, i64_w, i32_w]
    rfl
  refine done_ (by kernel_rfl) ?_
  clear hs1
  have hd1 := HD1.out
  have hd2 := HD2.out
  go_wp2
  obtain ⟨w2, hw2⟩ : ∃ w2, w2 = w1.drew := ⟨_, rfl⟩
  rw [← hw2]
  have HT2 := Aside0.mk (show (Tr.nd (b, x) (.nd (b', y) a c) r).At w2 by rw [hw2]; exact HT.out.drewN 1)
  have HW2 := Aside0.mk (show Wr w w2 (fun k => k = b) by rw [hw2]; exact HW.out)
  clear hw2 HqL HqR hd1 hd2 HW HT
  have HqA := Aside0.mk (levels_calls a w2.drew (HT2.out.2.1.2.1.drewN 1))
  have HqC := Aside0.mk (levels_calls c w2.drew (HT2.out.2.1.2.2.drewN 1))
  rw [HVA.out, ← QA.out] at HqA
  rw [HVC.out, ← QC.out] at HqC
  have HS4 := Aside0.mk (show w2.drew.cell? ⟨b, 3, none⟩ = some (.pointer (some ⟨b', 0, none⟩)) ∧ w2.drew.cell? ⟨b', 3, none⟩ = some (.pointer va) ∧ w2.drew.cell? ⟨b', 4, none⟩ = some (.pointer vc) from
    ⟨(blk_cell HT2.out.1 3).trans rfl, (blk_cell HT2.out.2.1.1 3).trans (congrArg some HVA.out), (blk_cell HT2.out.2.1.1 4).trans (congrArg some HVC.out)⟩)
  have hd3 := HD3.out
  refine start_ (n := 17) (S := fun w' => (w'.cell? ⟨b, 3, none⟩ = some (.pointer (some ⟨b', 0, none⟩)) ∧ w'.cell? ⟨b', 3, none⟩ = some (.pointer va) ∧ w'.cell? ⟨b', 4, none⟩ = some (.pointer vc))) (ds := []) #[false, false, false, false, false, false, false, false, false, false, false, false, false, false, false, false, false] (by kernel_rfl) rfl rfl ?_ (fun hHeld => ?_)
  · exact HS4.out
  refine pure_ (i := 0) (N := some 20) (v := ?_) (a' := ?_) #[true, false, false, false, false, false, false, false, false, false, false, false, false, false, false, false, false] rfl rfl (by kernel_rfl) (fun _ _ _ h => h) (Or.inl ⟨by rfl, ?_⟩) ?_ ?_
  rotate_left
  · intro w'
    go_simp
    with_reducible rfl
  rotate_left
  · simp only [Act.put, List.setIfInBounds_toArray, List.set_cons_zero, List.set_cons_succ, i64_w, i32_w]
    rfl
  refine pure_ (i := 1) (N := some 21) (v := ?_) (a' := ?_) #[true, true, false, false, false, false, false, false, false, false, false, false, false, false, false, false, false] rfl rfl (by kernel_rfl) (fun _ _ _ h => h) (Or.inl ⟨by rfl, ?_⟩) ?_ ?_
  rotate_left
  · intro w'
    go_simp
    with_reducible rfl
  rotate_left
  · simp only [Act.put, List.setIfInBounds_toArray, List.set_cons_zero, List.set_cons_succ, i64_w, i32_w]
    rfl
  refine pure_ (i := 2) (N := some 22) (v := ?_) (a' := ?_) #[true, true, true, false, false, false, false, false, false, false, false, false, false, false, false, false, false] rfl rfl (by kernel_rfl) (fun _ _ _ h => h) (Or.inl ⟨by rfl, ?_⟩) ?_ ?_
  rotate_left
  · intro w'
    go_simp
    with_reducible rfl
  rotate_left
  · simp only [Act.put, List.setIfInBounds_toArray, List.set_cons_zero, List.set_cons_succ, i64_w, i32_w]
    rfl
  refine take_ (i := 3) (N := some 23) (v := ?_) (a' := ?_) #[true, true, true, true, false, false, false, false, false, false, false, false, false, false, false, false, false] rfl rfl (by kernel_rfl) (fun _ _ _ h => h) (Or.inl ⟨by rfl, ?_⟩) hHeld ?_ ?_
  rotate_left
  · rintro w' ⟨s0, s1, s2⟩
    go_simp
    with_reducible rfl
  rotate_left
  · simp only [Act.put, List.setIfInBounds_toArray, List.set_cons_zero, List.set_cons_succ, i64_w, i32_w]
    rfl
  refine pure_ (i := 4) (N := some 24) (v := ?_) (a' := ?_) #[true, true, true, true, true, false, false, false, false, false, false, false, false, false, false, false, false] rfl rfl (by kernel_rfl) (fun _ _ _ h => h) (Or.inl ⟨by rfl, ?_⟩) ?_ ?_
  rotate_left
  · intro w'
    go_simp
    with_reducible rfl
  rotate_left
  · simp only [Act.put, List.setIfInBounds_toArray, List.set_cons_zero, List.set_cons_succ, i64_w, i32_w]
    rfl
  refine pure_ (i := 5) (N := some 25) (v := ?_) (a' := ?_) #[true, true, true, true, true, true, false, false, false, false, false, false, false, false, false, false, false] rfl rfl (by kernel_rfl) (fun _ _ _ h => h) (Or.inl ⟨by rfl, ?_⟩) ?_ ?_
  rotate_left
  · intro w'
    go_simp
    with_reducible rfl
  rotate_left
  · simp only [Act.put, List.setIfInBounds_toArray, List.set_cons_zero, List.set_cons_succ, i64_w, i32_w]
    rfl
  refine take_ (i := 6) (N := some 26) (v := ?_) (a' := ?_) #[true, true, true, true, true, true, true, false, false, false, false, false, false, false, false, false, false] rfl rfl (by kernel_rfl) (fun _ _ _ h => h) (Or.inl ⟨by rfl, ?_⟩) hHeld ?_ ?_
  rotate_left
  · rintro w' ⟨s0, s1, s2⟩
    go_simp
    with_reducible rfl
  rotate_left
  · simp only [Act.put, List.setIfInBounds_toArray, List.set_cons_zero, List.set_cons_succ, i64_w, i32_w]
    rfl
  refine pure_ (i := 8) (N := some 28) (v := ?_) (a' := ?_) #[true, true, true, true, true, true, true, false, true, false, false, false, false, false, false, false, false] rfl rfl (by kernel_rfl) (fun _ _ _ h => h) (Or.inl ⟨by rfl, ?_⟩) ?_ ?_
  rotate_left
  · intro w'
    go_simp
    with_reducible rfl
  rotate_left
  · simp only [Act.put, List.setIfInBounds_toArray, List.set_cons_zero, List.set_cons_succ, i64_w, i32_w]
    rfl
  refine pure_ (i := 9) (N := some 29) (v := ?_) (a' := ?_) #[true, true, true, true, true, true, true, false, true, true, false, false, false, false, false, false, false] rfl rfl (by kernel_rfl) (fun _ _ _ h => h) (Or.inl ⟨by rfl, ?_⟩) ?_ ?_
  rotate_left
  · intro w'
    go_simp
    with_reducible rfl
  rotate_left
  · simp only [Act.put, List.setIfInBounds_toArray, List.set_cons_zero, List.set_cons_succ, i64_w, i32_w]
    rfl
  refine pure_ (i := 10) (N := some 30) (v := ?_) (a' := ?_) #[true, true, true, true, true, true, true, false, true, true, true, false, false, false, false, false, false] rfl rfl (by kernel_rfl) (fun _ _ _ h => h) (Or.inl ⟨by rfl, ?_⟩) ?_ ?_
  rotate_left
  · intro w'
    go_simp
    with_reducible rfl
  rotate_left
  · simp only [Act.put, List.setIfInBounds_toArray, List.set_cons_zero, List.set_cons_succ, i64_w, i32_w]
    rfl
  refine take_ (i := 11) (N := some 31) (v := ?_) (a' := ?_) #[true, true, true, true, true, true, true, false, true, true, true, true, false, false, false, false, false] rfl rfl (by kernel_rfl) (fun _ _ _ h => h) (Or.inl ⟨by rfl, ?_⟩) hHeld ?_ ?_
  rotate_left
  · rintro w' ⟨s0, s1, s2⟩
    go_simp
    with_reducible rfl
  rotate_left
  · simp only [Act.put, List.setIfInBounds_toArray, List.set_cons_zero, List.set_cons_succ, i64_w, i32_w]
    rfl
  refine pure_ (i := 12) (N := some 32) (v := ?_) (a' := ?_) #[true, true, true, true, true, true, true, false, true, true, true, true, true, false, false, false, false] rfl rfl (by kernel_rfl) (fun _ _ _ h => h) (Or.inl ⟨by rfl, ?_⟩) ?_ ?_
  rotate_left
  · intro w'
    go_simp
    with_reducible rfl
  rotate_left
  · simp only [Act.put, List.setIfInBounds_toArray, List.set_cons_zero, List.set_cons_succ, i64_w, i32_w]
    rfl
  refine pure_ (i := 13) (N := some 33) (v := ?_) (a' := ?_) #[true, true, true, true, true, true, true, false, true, true, true, true, true, true, false, false, false] rfl rfl (by kernel_rfl) (fun _ _ _ h => h) (Or.inl ⟨by rfl, ?_⟩) ?_ ?_
  rotate_left
  · intro w'
    go_simp
    with_reducible rfl
  rotate_left
  · simp only [Act.put, List.setIfInBounds_toArray, List.set_cons_zero, List.set_cons_succ, i64_w, i32_w]
    rfl
  refine take_ (i := 14) (N := some 34) (v := ?_) (a' := ?_) #[true, true, true, true, true, true, true, false, true, true, true, true, true, true, true, false, false] rfl rfl (by kernel_rfl) (fun _ _ _ h => h) (Or.inl ⟨by rfl, ?_⟩) hHeld ?_ ?_
  rotate_left
  · rintro w' ⟨s0, s1, s2⟩
    go_simp
    with_reducible rfl
  rotate_left
  · simp only [Act.put, List.setIfInBounds_toArray, List.set_cons_zero, List.set_cons_succ, i64_w, i32_w]
    rfl
  refine one_ (i := 7) (N := some 27) #[true, true, true, true, true, true, true, true, true, true, true, true, true, true, true, false, false] rfl rfl (by kernel_rfl) (by decide) (fun K hK => ?_)
  refine goes_ Try.func34 (by kernel_rfl) rfl #[.pointer va] (by rfl) rfl rfl (by (try simp only [List.map_toArray, List.map_cons, List.map_nil]); first | done | rfl) ?_
  refine HqA.out.mono ?_
  rintro e _ ⟨rfl, rfl⟩
  refine ⟨_, rfl, hK.out _ _ HS4.out (fun _ => ?_)⟩
  clear hK K
  refine norm_ (a' := ?_) ?_ ?_
  rotate_left
  · show Act.put _ (some 27) _ = _
    simp only [Act.put, List.setIfInBounds_toArray, List.set_cons_zero, List.set_cons_succ, i64_w, i32_w]
    rfl
  refine one_ (i := 15) (N := some 35) #[true, true, true, true, true, true, true, true, true, true, true, true, true, true, true, true, false] rfl rfl (by kernel_rfl) (by decide) (fun K hK => ?_)
  refine goes_ Try.func34 (by kernel_rfl) rfl #[.pointer vc] (by rfl) rfl rfl (by (try simp only [List.map_toArray, List.map_cons, List.map_nil]); first | done | rfl) ?_
  refine HqC.out.mono ?_
  rintro e _ ⟨rfl, rfl⟩
  refine ⟨_, rfl, hK.out _ _ HS4.out (fun _ => ?_)⟩
  clear hK K
  refine norm_ (a' := ?_) ?_ ?_
  rotate_left
  · show Act.put _ (some 35) _ = _
    simp only [Act.put, List.setIfInBounds_toArray, List.set_cons_zero, List.set_cons_succ, i64_w, i32_w]
    rfl
  refine pure_ (i := 16) (N := some 36) (v := ?_) (a' := ?_) #[true, true, true, true, true, true, true, true, true, true, true, true, true, true, true, true, true] rfl rfl (by kernel_rfl) (fun _ _ _ h => h) (Or.inl ⟨by rfl, ?_⟩) ?_ ?_
  rotate_left
  · intro w'
    go_simp
    with_reducible rfl
  rotate_left
  · simp only [Act.put, List.setIfInBounds_toArray, List.set_cons_zero, List.set_cons_succ, i64_w, i32_w]
    rfl
  refine done_ (by kernel_rfl) ?_
  clear HqA HqC HS4
  go_wp2_with (go_at_call 47; refine (rotate_up b x b' y a c r w2.drew (Raw.of_at (x := (b, x)) (HT2.out.drewN 1)) Q0.out (Nat.le_trans HH.out.1 (by decide)) (Nat.le_trans HH.out.2.1 (by decide)) (Nat.le_trans HH.out.2.2 (by decide))).mono ?_; rintro e w3 ⟨rfl, hT, hw⟩; have HE := Aside0.mk (And.intro hT hw); clear hT hw)
  go_ret
  exact ⟨rfl, HE.out.1, (HW2.out.mono (fun k hk => by rw [hk]; simp [Tr.blks_nd])).trans HE.out.2 (fun k hk => .inl (by rcases hk with rfl | rfl <;> simp [Tr.blks_nd]))⟩
set_option maxHeartbeats 1000000 in
set_option maxRecDepth 100000 in
theorem balance_r1 (b : Nat) (x : S30) (b' : Nat) (y : S30) (a c r : BT) (w : World) (h : Raw w b x r (.nd (b', y) c a)) (hn : (Tr.nd (b, x) r (.nd (b', y) c a)).blks.Nodup) (hh1 : a.ht ≤ 800000) (hh2 : c.ht ≤ 800000) (hh3 : r.ht ≤ 800000)
    (hd : r.ht + 1 < 1 + max c.ht a.ht) (hac : ¬ a.ht < c.ht) :
    Calls Try.prog 39 #[.pointer (some ⟨b, 0, none⟩)] w (BalPost w (.nd (b', y) (.nd (b, x) r c) a) (.nd (b, x) r (.nd (b', y) c a))) := by
  skip
  obtain ⟨n1, n2, n3, n4, n5⟩ := blks_nodup_nd hn
  have HF := Aside0.mk (fix_calls b x r (.nd (b', y) c a) w h n3 n4 (by (try simp only [Tr.ht]); omega) (by (try simp only [Tr.ht]); omega))
  obtain ⟨na, hna⟩ : ∃ n, n = a.ht := ⟨_, rfl⟩
  obtain ⟨nc, hnc⟩ : ∃ n, n = c.ht := ⟨_, rfl⟩
  obtain ⟨nr, hnr⟩ : ∃ n, n = r.ht := ⟨_, rfl⟩
  obtain ⟨nl, hnl⟩ : ∃ n, n = (Tr.nd (b', y) c a).ht := ⟨_, rfl⟩
  have hnl' : nl = 1 + max na nc := by rw [hnl, hna, hnc]; simp only [Tr.ht] <;> omega
  rw [← hna, ← hnc, ← hnr] at hd
  rw [← hna, ← hnc] at hac
  have HH := Aside0.mk (And.intro hh1 (And.intro hh2 hh3))
  rw [← hna] at hh1
  rw [← hnc] at hh2
  rw [← hnr] at hh3
  have Q0 := Aside0.mk hn
  have QA := Aside0.mk hna
  have QC := Aside0.mk hnc
  have QR := Aside0.mk hnr
  have QL := Aside0.mk hnl
  have hnl0 : nl ≤ 900000 := by omega
  obtain ⟨va, hva⟩ := ptr_pointer a
  obtain ⟨vc, hvc⟩ := ptr_pointer c
  obtain ⟨vr, hvr⟩ := ptr_pointer r
  have HVA := Aside0.mk hva
  have HVC := Aside0.mk hvc
  have HVR := Aside0.mk hvr
  have hs1 : IntKind.i64.wrap ((nr : Int) - (nl : Int)) = (nr : Int) - (nl : Int) := by rw [i64_w]; unfold wrap64; omega
  have HS1 := Aside0.mk hs1
  have hd1 : decide (1 < (nr : Int) - (nl : Int)) = false := by simp only [decide_eq_true_eq, decide_eq_false_iff_not]; omega
  have hd2 : decide ((nr : Int) - (nl : Int) < -1) = true := by simp only [decide_eq_true_eq, decide_eq_false_iff_not]; omega
  have hd3 : decide (na < nc) = false := by simpa using hac
  have HD1 := Aside0.mk hd1
  have HD2 := Aside0.mk hd2
  have HD3 := Aside0.mk hd3
  clear hna hnc hnr hnl hnl' hd hac hn n1 n2 n3 n4 n5 hva hvc hvr h hs1 hd1 hd2 hd3
  go_enter Try.func39, Try.ntmps39
  go_wp2_with (first | (go_at_call 46; with_reducible refine HF.out.mono ?_; rintro e w1 ⟨rfl, hT, hw⟩; have HT := Aside0.mk hT; have HW := Aside0.mk hw; clear hT hw HF) | fail)
  have HqL := Aside0.mk (levels_calls (.nd (b', y) c a) w1.drew (HT.out.2.2.drewN 1))
  have HqR := Aside0.mk (levels_calls r w1.drew (HT.out.2.1.drewN 1))
  rw [HVR.out, ← QR.out] at HqR
  rw [← QL.out] at HqL
  have hs1 := HS1.out
  refine start_ (n := 12) (S := fun w' => (w'.cell? ⟨b, 3, none⟩ = some (.pointer vr) ∧ w'.cell? ⟨b, 4, none⟩ = some (.pointer (some ⟨b', 0, none⟩)))) (ds := []) #[false, false, false, false, false, false, false, false, false, false, false, false] (by kernel_rfl) rfl rfl ?_ (fun hHeld => ?_)
  · exact ⟨(blk_cell HT.out.1 3).trans (congrArg some HVR.out), (blk_cell HT.out.1 4).trans (congrArg some rfl)⟩
  refine pure_ (i := 0) (N := some 6) (v := ?_) (a' := ?_) #[true, false, false, false, false, false, false, false, false, false, false, false] rfl rfl (by kernel_rfl) (fun _ _ _ h => h) (Or.inl ⟨by rfl, ?_⟩) ?_ ?_
  rotate_left
  · intro w'
    go_simp
    with_reducible rfl
  rotate_left
  · simp only [Act.put, List.setIfInBounds_toArray, List.set_cons_zero, List.set_cons_succ, i64_w, i32_w]
    rfl
  refine pure_ (i := 1) (N := some 7) (v := ?_) (a' := ?_) #[true, true, false, false, false, false, false, false, false, false, false, false] rfl rfl (by kernel_rfl) (fun _ _ _ h => h) (Or.inl ⟨by rfl, ?_⟩) ?_ ?_
  rotate_left
  · intro w'
    go_simp
    with_reducible rfl
  rotate_left
  · simp only [Act.put, List.setIfInBounds_toArray, List.set_cons_zero, List.set_cons_succ, i64_w, i32_w]
    rfl
  refine pure_ (i := 2) (N := some 8) (v := ?_) (a' := ?_) #[true, true, true, false, false, false, false, false, false, false, false, false] rfl rfl (by kernel_rfl) (fun _ _ _ h => h) (Or.inl ⟨by rfl, ?_⟩) ?_ ?_
  rotate_left
  · intro w'
    go_simp
    with_reducible rfl
  rotate_left
  · simp only [Act.put, List.setIfInBounds_toArray, List.set_cons_zero, List.set_cons_succ, i64_w, i32_w]
    rfl
  refine take_ (i := 3) (N := some 9) (v := ?_) (a' := ?_) #[true, true, true, true, false, false, false, false, false, false, false, false] rfl rfl (by kernel_rfl) (fun _ _ _ h => h) (Or.inl ⟨by rfl, ?_⟩) hHeld ?_ ?_
  rotate_left
  · rintro w' ⟨s0, s1⟩
    go_simp
    with_reducible rfl
  rotate_left
  · simp only [Act.put, List.setIfInBounds_toArray, List.set_cons_zero, List.set_cons_succ, i64_w, i32_w]
    rfl
  refine pure_ (i := 5) (N := some 11) (v := ?_) (a' := ?_) #[true, true, true, true, false, true, false, false, false, false, false, false] rfl rfl (by kernel_rfl) (fun _ _ _ h => h) (Or.inl ⟨by rfl, ?_⟩) ?_ ?_
  rotate_left
  · intro w'
    go_simp
    with_reducible rfl
  rotate_left
  · simp only [Act.put, List.setIfInBounds_toArray, List.set_cons_zero, List.set_cons_succ, i64_w, i32_w]
    rfl
  refine pure_ (i := 6) (N := some 12) (v := ?_) (a' := ?_) #[true, true, true, true, false, true, true, false, false, false, false, false] rfl rfl (by kernel_rfl) (fun _ _ _ h => h) (Or.inl ⟨by rfl, ?_⟩) ?_ ?_
  rotate_left
  · intro w'
    go_simp
    with_reducible rfl
  rotate_left
  · simp only [Act.put, List.setIfInBounds_toArray, List.set_cons_zero, List.set_cons_succ, i64_w, i32_w]
    rfl
  refine pure_ (i := 7) (N := some 13) (v := ?_) (a' := ?_) #[true, true, true, true, false, true, true, true, false, false, false, false] rfl rfl (by kernel_rfl) (fun _ _ _ h => h) (Or.inl ⟨by rfl, ?_⟩) ?_ ?_
  rotate_left
  · intro w'
    go_simp
    with_reducible rfl
  rotate_left
  · simp only [Act.put, List.setIfInBounds_toArray, List.set_cons_zero, List.set_cons_succ, i64_w, i32_w]
    rfl
  refine take_ (i := 8) (N := some 14) (v := ?_) (a' := ?_) #[true, true, true, true, false, true, true, true, true, false, false, false] rfl rfl (by kernel_rfl) (fun _ _ _ h => h) (Or.inl ⟨by rfl, ?_⟩) hHeld ?_ ?_
  rotate_left
  · rintro w' ⟨s0, s1⟩
    go_simp
    with_reducible rfl
  rotate_left
  · simp only [Act.put, List.setIfInBounds_toArray, List.set_cons_zero, List.set_cons_succ, i64_w, i32_w]
    rfl
  refine one_ (i := 4) (N := some 10) #[true, true, true, true, true, true, true, true, true, false, false, false] rfl rfl (by kernel_rfl) (by decide) (fun K hK => ?_)
  refine goes_ Try.func34 (by kernel_rfl) rfl #[(.pointer vr)] (by rfl) rfl rfl (by (try simp only [List.map_toArray, List.map_cons, List.map_nil]); first | done | rfl) ?_
  refine HqR.out.mono ?_
  rintro e _ ⟨rfl, rfl⟩
  refine ⟨_, rfl, hK.out _ _ ⟨(blk_cell HT.out.1 3).trans (congrArg some HVR.out), (blk_cell HT.out.1 4).trans (congrArg some rfl)⟩ (fun _ => ?_)⟩
  clear hK K
  refine norm_ (a' := ?_) ?_ ?_
  rotate_left
  · show Act.put _ (some 10) _ = _
    simp only [Act.put, List.setIfInBounds_toArray, List.set_cons_zero, List.set_cons_succ, i64_w, i32_w]
    rfl
  refine one_ (i := 9) (N := some 15) #[true, true, true, true, true, true, true, true, true, true, false, false] rfl rfl (by kernel_rfl) (by decide) (fun K hK => ?_)
  refine goes_ Try.func34 (by kernel_rfl) rfl #[(.pointer (some ⟨b', 0, none⟩))] (by rfl) rfl rfl (by (try simp only [List.map_toArray, List.map_cons, List.map_nil]); first | done | rfl) ?_
  refine HqL.out.mono ?_
  rintro e _ ⟨rfl, rfl⟩
  refine ⟨_, rfl, hK.out _ _ ⟨(blk_cell HT.out.1 3).trans (congrArg some HVR.out), (blk_cell HT.out.1 4).trans (congrArg some rfl)⟩ (fun _ => ?_)⟩
  clear hK K
  refine norm_ (a' := ?_) ?_ ?_
  rotate_left
  · show Act.put _ (some 15) _ = _
    simp only [Act.put, List.setIfInBounds_toArray, List.set_cons_zero, List.set_cons_succ, i64_w, i32_w]
    rfl
  refine pure_ (i := 10) (N := some 16) (v := ?_) (a' := ?_) #[true, true, true, true, true, true, true, true, true, true, true, false] rfl rfl (by kernel_rfl) (fun _ _ _ h => h) (Or.inl ⟨by rfl, ?_⟩) ?_ ?_
  rotate_left
  · intro w'
    go_simp
    with_reducible rfl
  rotate_left
  · simp only [Act.put, List.setIfInBounds_toArray, List.set_cons_zero, List.set_cons_succ, i64_w, i32_w]
    rfl
  refine pure_ (i := 11) (N := some 3) (v := ?_) (a' := ?_) #[true, true, true, true, true, true, true, true, true, true, true, true] rfl rfl (by kernel_rfl) (fun _ _ _ h => h) (Or.inl ⟨by rfl, ?_⟩) ?_ ?_
  rotate_left
  · intro w'
    go_simp
    with_reducible rfl
  rotate_left
  · simp only [Act.put, List.setIfInBounds_toArray, List.set_cons_zero, List.set_cons_succ, i64_w, i32_w]
    rfl
  refine done_ (by kernel_rfl) ?_
  clear hs1
  have hd1 := HD1.out
  have hd2 := HD2.out
  go_wp2
  obtain ⟨w2, hw2⟩ : ∃ w2, w2 = w1.drew := ⟨_, rfl⟩
  rw [← hw2]
  have HT2 := Aside0.mk (show (Tr.nd (b, x) r (.nd (b', y) c a)).At w2 by rw [hw2]; exact HT.out.drewN 1)
  have HW2 := Aside0.mk (show Wr w w2 (fun k => k = b) by rw [hw2]; exact HW.out)
  clear hw2 HqL HqR hd1 hd2 HW HT
  have HqA := Aside0.mk (levels_calls a w2.drew (HT2.out.2.2.2.2.drewN 1))
  have HqC := Aside0.mk (levels_calls c w2.drew (HT2.out.2.2.2.1.drewN 1))
  rw [HVA.out, ← QA.out] at HqA
  rw [HVC.out, ← QC.out] at HqC
  have HS4 := Aside0.mk (show w2.drew.cell? ⟨b, 4, none⟩ = some (.pointer (some ⟨b', 0, none⟩)) ∧ w2.drew.cell? ⟨b', 4, none⟩ = some (.pointer va) ∧ w2.drew.cell? ⟨b', 3, none⟩ = some (.pointer vc) from
    ⟨(blk_cell HT2.out.1 4).trans rfl, (blk_cell HT2.out.2.2.1 4).trans (congrArg some HVA.out), (blk_cell HT2.out.2.2.1 3).trans (congrArg some HVC.out)⟩)
  have hd3 := HD3.out
  refine start_ (n := 17) (S := fun w' => (w'.cell? ⟨b, 4, none⟩ = some (.pointer (some ⟨b', 0, none⟩)) ∧ w'.cell? ⟨b', 4, none⟩ = some (.pointer va) ∧ w'.cell? ⟨b', 3, none⟩ = some (.pointer vc))) (ds := []) #[false, false, false, false, false, false, false, false, false, false, false, false, false, false, false, false, false] (by kernel_rfl) rfl rfl ?_ (fun hHeld => ?_)
  · exact HS4.out
  refine pure_ (i := 0) (N := some 50) (v := ?_) (a' := ?_) #[true, false, false, false, false, false, false, false, false, false, false, false, false, false, false, false, false] rfl rfl (by kernel_rfl) (fun _ _ _ h => h) (Or.inl ⟨by rfl, ?_⟩) ?_ ?_
  rotate_left
  · intro w'
    go_simp
    with_reducible rfl
  rotate_left
  · simp only [Act.put, List.setIfInBounds_toArray, List.set_cons_zero, List.set_cons_succ, i64_w, i32_w]
    rfl
  refine pure_ (i := 1) (N := some 51) (v := ?_) (a' := ?_) #[true, true, false, false, false, false, false, false, false, false, false, false, false, false, false, false, false] rfl rfl (by kernel_rfl) (fun _ _ _ h => h) (Or.inl ⟨by rfl, ?_⟩) ?_ ?_
  rotate_left
  · intro w'
    go_simp
    with_reducible rfl
  rotate_left
  · simp only [Act.put, List.setIfInBounds_toArray, List.set_cons_zero, List.set_cons_succ, i64_w, i32_w]
    rfl
  refine pure_ (i := 2) (N := some 52) (v := ?_) (a' := ?_) #[true, true, true, false, false, false, false, false, false, false, false, false, false, false, false, false, false] rfl rfl (by kernel_rfl) (fun _ _ _ h => h) (Or.inl ⟨by rfl, ?_⟩) ?_ ?_
  rotate_left
  · intro w'
    go_simp
    with_reducible rfl
  rotate_left
  · simp only [Act.put, List.setIfInBounds_toArray, List.set_cons_zero, List.set_cons_succ, i64_w, i32_w]
    rfl
  refine take_ (i := 3) (N := some 53) (v := ?_) (a' := ?_) #[true, true, true, true, false, false, false, false, false, false, false, false, false, false, false, false, false] rfl rfl (by kernel_rfl) (fun _ _ _ h => h) (Or.inl ⟨by rfl, ?_⟩) hHeld ?_ ?_
  rotate_left
  · rintro w' ⟨s0, s1, s2⟩
    go_simp
    with_reducible rfl
  rotate_left
  · simp only [Act.put, List.setIfInBounds_toArray, List.set_cons_zero, List.set_cons_succ, i64_w, i32_w]
    rfl
  refine pure_ (i := 4) (N := some 54) (v := ?_) (a' := ?_) #[true, true, true, true, true, false, false, false, false, false, false, false, false, false, false, false, false] rfl rfl (by kernel_rfl) (fun _ _ _ h => h) (Or.inl ⟨by rfl, ?_⟩) ?_ ?_
  rotate_left
  · intro w'
    go_simp
    with_reducible rfl
  rotate_left
  · simp only [Act.put, List.setIfInBounds_toArray, List.set_cons_zero, List.set_cons_succ, i64_w, i32_w]
    rfl
  refine pure_ (i := 5) (N := some 55) (v := ?_) (a' := ?_) #[true, true, true, true, true, true, false, false, false, false, false, false, false, false, false, false, false] rfl rfl (by kernel_rfl) (fun _ _ _ h => h) (Or.inl ⟨by rfl, ?_⟩) ?_ ?_
  rotate_left
  · intro w'
    go_simp
    with_reducible rfl
  rotate_left
  · simp only [Act.put, List.setIfInBounds_toArray, List.set_cons_zero, List.set_cons_succ, i64_w, i32_w]
    rfl
  refine take_ (i := 6) (N := some 56) (v := ?_) (a' := ?_) #[true, true, true, true, true, true, true, false, false, false, false, false, false, false, false, false, false] rfl rfl (by kernel_rfl) (fun _ _ _ h => h) (Or.inl ⟨by rfl, ?_⟩) hHeld ?_ ?_
  rotate_left
  · rintro w' ⟨s0, s1, s2⟩
    go_simp
    with_reducible rfl
  rotate_left
  · simp only [Act.put, List.setIfInBounds_toArray, List.set_cons_zero, List.set_cons_succ, i64_w, i32_w]
    rfl
  refine pure_ (i := 8) (N := some 58) (v := ?_) (a' := ?_) #[true, true, true, true, true, true, true, false, true, false, false, false, false, false, false, false, false] rfl rfl (by kernel_rfl) (fun _ _ _ h => h) (Or.inl ⟨by rfl, ?_⟩) ?_ ?_
  rotate_left
  · intro w'
    go_simp
    with_reducible rfl
  rotate_left
  · simp only [Act.put, List.setIfInBounds_toArray, List.set_cons_zero, List.set_cons_succ, i64_w, i32_w]
    rfl
  refine pure_ (i := 9) (N := some 59) (v := ?_) (a' := ?_) #[true, true, true, true, true, true, true, false, true, true, false, false, false, false, false, false, false] rfl rfl (by kernel_rfl) (fun _ _ _ h => h) (Or.inl ⟨by rfl, ?_⟩) ?_ ?_
  rotate_left
  · intro w'
    go_simp
    with_reducible rfl
  rotate_left
  · simp only [Act.put, List.setIfInBounds_toArray, List.set_cons_zero, List.set_cons_succ, i64_w, i32_w]
    rfl
  refine pure_ (i := 10) (N := some 60) (v := ?_) (a' := ?_) #[true, true, true, true, true, true, true, false, true, true, true, false, false, false, false, false, false] rfl rfl (by kernel_rfl) (fun _ _ _ h => h) (Or.inl ⟨by rfl, ?_⟩) ?_ ?_
  rotate_left
  · intro w'
    go_simp
    with_reducible rfl
  rotate_left
  · simp only [Act.put, List.setIfInBounds_toArray, List.set_cons_zero, List.set_cons_succ, i64_w, i32_w]
    rfl
  refine take_ (i := 11) (N := some 61) (v := ?_) (a' := ?_) #[true, true, true, true, true, true, true, false, true, true, true, true, false, false, false, false, false] rfl rfl (by kernel_rfl) (fun _ _ _ h => h) (Or.inl ⟨by rfl, ?_⟩) hHeld ?_ ?_
  rotate_left
  · rintro w' ⟨s0, s1, s2⟩
    go_simp
    with_reducible rfl
  rotate_left
  · simp only [Act.put, List.setIfInBounds_toArray, List.set_cons_zero, List.set_cons_succ, i64_w, i32_w]
    rfl
  refine pure_ (i := 12) (N := some 62) (v := ?_) (a' := ?_) #[true, true, true, true, true, true, true, false, true, true, true, true, true, false, false, false, false] rfl rfl (by kernel_rfl) (fun _ _ _ h => h) (Or.inl ⟨by rfl, ?_⟩) ?_ ?_
  rotate_left
  · intro w'
    go_simp
    with_reducible rfl
  rotate_left
  · simp only [Act.put, List.setIfInBounds_toArray, List.set_cons_zero, List.set_cons_succ, i64_w, i32_w]
    rfl
  refine pure_ (i := 13) (N := some 63) (v := ?_) (a' := ?_) #[true, true, true, true, true, true, true, false, true, true, true, true, true, true, false, false, false] rfl rfl (by kernel_rfl) (fun _ _ _ h => h) (Or.inl ⟨by rfl, ?_⟩) ?_ ?_
  rotate_left
  · intro w'
    go_simp
    with_reducible rfl
  rotate_left
  · simp only [Act.put, List.setIfInBounds_toArray, List.set_cons_zero, List.set_cons_succ, i64_w, i32_w]
    rfl
  refine take_ (i := 14) (N := some 64) (v := ?_) (a' := ?_) #[true, true, true, true, true, true, true, false, true, true, true, true, true, true, true, false, false] rfl rfl (by kernel_rfl) (fun _ _ _ h => h) (Or.inl ⟨by rfl, ?_⟩) hHeld ?_ ?_
  rotate_left
  · rintro w' ⟨s0, s1, s2⟩
    go_simp
    with_reducible rfl
  rotate_left
  · simp only [Act.put, List.setIfInBounds_toArray, List.set_cons_zero, List.set_cons_succ, i64_w, i32_w]
    rfl
  refine one_ (i := 7) (N := some 57) #[true, true, true, true, true, true, true, true, true, true, true, true, true, true, true, false, false] rfl rfl (by kernel_rfl) (by decide) (fun K hK => ?_)
  refine goes_ Try.func34 (by kernel_rfl) rfl #[.pointer va] (by rfl) rfl rfl (by (try simp only [List.map_toArray, List.map_cons, List.map_nil]); first | done | rfl) ?_
  refine HqA.out.mono ?_
  rintro e _ ⟨rfl, rfl⟩
  refine ⟨_, rfl, hK.out _ _ HS4.out (fun _ => ?_)⟩
  clear hK K
  refine norm_ (a' := ?_) ?_ ?_
  rotate_left
  · show Act.put _ (some 57) _ = _
    simp only [Act.put, List.setIfInBounds_toArray, List.set_cons_zero, List.set_cons_succ, i64_w, i32_w]
    rfl
  refine one_ (i := 15) (N := some 65) #[true, true, true, true, true, true, true, true, true, true, true, true, true, true, true, true, false] rfl rfl (by kernel_rfl) (by decide) (fun K hK => ?_)
  refine goes_ Try.func34 (by kernel_rfl) rfl #[.pointer vc] (by rfl) rfl rfl (by (try simp only [List.map_toArray, List.map_cons, List.map_nil]); first | done | rfl) ?_
  refine HqC.out.mono ?_
  rintro e _ ⟨rfl, rfl⟩
  refine ⟨_, rfl, hK.out _ _ HS4.out (fun _ => ?_)⟩
  clear hK K
  refine norm_ (a' := ?_) ?_ ?_
  rotate_left
  · show Act.put _ (some 65) _ = _
    simp only [Act.put, List.setIfInBounds_toArray, List.set_cons_zero, List.set_cons_succ, i64_w, i32_w]
    rfl
  refine pure_ (i := 16) (N := some 66) (v := ?_) (a' := ?_) #[true, true, true, true, true, true, true, true, true, true, true, true, true, true, true, true, true] rfl rfl (by kernel_rfl) (fun _ _ _ h => h) (Or.inl ⟨by rfl, ?_⟩) ?_ ?_
  rotate_left
  · intro w'
    go_simp
    with_reducible rfl
  rotate_left
  · simp only [Act.put, List.setIfInBounds_toArray, List.set_cons_zero, List.set_cons_succ, i64_w, i32_w]
    rfl
  refine done_ (by kernel_rfl) ?_
  clear HqA HqC HS4
  go_wp2_with (go_at_call 47; refine (rotate_dn b x b' y a c r w2.drew (Raw.of_at (x := (b, x)) (HT2.out.drewN 1)) Q0.out (Nat.le_trans HH.out.1 (by decide)) (Nat.le_trans HH.out.2.1 (by decide)) (Nat.le_trans HH.out.2.2 (by decide))).mono ?_; rintro e w3 ⟨rfl, hT, hw⟩; have HE := Aside0.mk (And.intro hT hw); clear hT hw)
  go_ret
  exact ⟨rfl, HE.out.1, (HW2.out.mono (fun k hk => by rw [hk]; simp [Tr.blks_nd])).trans HE.out.2 (fun k hk => .inl (by rcases hk with rfl | rfl <;> simp [Tr.blks_nd]))⟩
set_option maxHeartbeats 1000000 in
set_option maxRecDepth 100000 in
theorem balance_l2 (b : Nat) (x : S30) (b' : Nat) (y : S30) (a c r : BT) (b'' : Nat) (z : S30) (c1 c2 : BT) (hc : c = .nd (b'', z) c1 c2) (w : World) (h : Raw w b x (.nd (b', y) a c) r) (hn : (Tr.nd (b, x) (.nd (b', y) a c) r).blks.Nodup) (hh1 : a.ht ≤ 800000) (hh2 : c.ht ≤ 800000) (hh3 : r.ht ≤ 800000)
    (hd : r.ht + 1 < 1 + max a.ht c.ht) (hac : a.ht < c.ht) :
    Calls Try.prog 39 #[.pointer (some ⟨b, 0, none⟩)] w (BalPost w (.nd (b'', z) (.nd (b', y) a c1) (.nd (b, x) c2 r)) (.nd (b, x) (.nd (b', y) a c) r)) := by
  have HC := Aside0.mk hc; clear hc
  obtain ⟨n1, n2, n3, n4, n5⟩ := blks_nodup_nd hn
  have HF := Aside0.mk (fix_calls b x (.nd (b', y) a c) r w h n3 n4 (by (try simp only [Tr.ht]); omega) (by (try simp only [Tr.ht]); omega))
  obtain ⟨na, hna⟩ : ∃ n, n = a.ht := ⟨_, rfl⟩
  obtain ⟨nc, hnc⟩ : ∃ n, n = c.ht := ⟨_, rfl⟩
  obtain ⟨nr, hnr⟩ : ∃ n, n = r.ht := ⟨_, rfl⟩
  obtain ⟨nl, hnl⟩ : ∃ n, n = (Tr.nd (b', y) a c).ht := ⟨_, rfl⟩
  have hnl' : nl = 1 + max na nc := by rw [hnl, hna, hnc]; simp only [Tr.ht] <;> omega
  rw [← hna, ← hnc, ← hnr] at hd
  rw [← hna, ← hnc] at hac
  have HH := Aside0.mk (And.intro hh1 (And.intro hh2 hh3))
  rw [← hna] at hh1
  rw [← hnc] at hh2
  rw [← hnr] at hh3
  have Q0 := Aside0.mk hn
  have QA := Aside0.mk hna
  have QC := Aside0.mk hnc
  have QR := Aside0.mk hnr
  have QL := Aside0.mk hnl
  have hnl0 : nl ≤ 900000 := by omega
  obtain ⟨va, hva⟩ := ptr_pointer a
  obtain ⟨vc, hvc⟩ := ptr_pointer c
  obtain ⟨vr, hvr⟩ := ptr_pointer r
  have HVA := Aside0.mk hva
  have HVC := Aside0.mk hvc
  have HVR := Aside0.mk hvr
  have hs1 : IntKind.i64.wrap ((nl : Int) - (nr : Int)) = (nl : Int) - (nr : Int) := by rw [i64_w]; unfold wrap64; omega
  have HS1 := Aside0.mk hs1
  have hd1 : decide (1 < (nl : Int) - (nr : Int)) = true := by simp only [decide_eq_true_eq, decide_eq_false_iff_not]; omega
  have hd2 : decide ((nl : Int) - (nr : Int) < -1) = false := by simp only [decide_eq_true_eq, decide_eq_false_iff_not]; omega
  have hd3 : decide (na < nc) = true := by simpa using hac
  have HD1 := Aside0.mk hd1
  have HD2 := Aside0.mk hd2
  have HD3 := Aside0.mk hd3
  clear hna hnc hnr hnl hnl' hd hac hn n1 n2 n3 n4 n5 hva hvc hvr h hs1 hd1 hd2 hd3
  go_enter Try.func39, Try.ntmps39
  go_wp2_with (first | (go_at_call 46; with_reducible refine HF.out.mono ?_; rintro e w1 ⟨rfl, hT, hw⟩; have HT := Aside0.mk hT; have HW := Aside0.mk hw; clear hT hw HF) | fail)
  have HqL := Aside0.mk (levels_calls (.nd (b', y) a c) w1.drew (HT.out.2.1.drewN 1))
  have HqR := Aside0.mk (levels_calls r w1.drew (HT.out.2.2.drewN 1))
  rw [HVR.out, ← QR.out] at HqR
  rw [← QL.out] at HqL
  have hs1 := HS1.out
  refine start_ (n := 12) (S := fun w' => (w'.cell? ⟨b, 3, none⟩ = some (.pointer (some ⟨b', 0, none⟩)) ∧ w'.cell? ⟨b, 4, none⟩ = some (.pointer vr))) (ds := []) #[false, false, false, false, false, false, false, false, false, false, false, false] (by kernel_rfl) rfl rfl ?_ (fun hHeld => ?_)
  · exact ⟨(blk_cell HT.out.1 3).trans (congrArg some rfl), (blk_cell HT.out.1 4).trans (congrArg some HVR.out)⟩
  refine pure_ (i := 0) (N := some 6) (v := ?_) (a' := ?_) #[true, false, false, false, false, false, false, false, false, false, false, false] rfl rfl (by kernel_rfl) (fun _ _ _ h => h) (Or.inl ⟨by rfl, ?_⟩) ?_ ?_
  rotate_left
  · intro w'
    go_simp
    with_reducible rfl
  rotate_left
  · simp only [Act.put, List.setIfInBounds_toArray, List.set_cons_zero, List.set_cons_succ, i64_w, i32_w]
    rfl
  refine pure_ (i := 1) (N := some 7) (v := ?_) (a' := ?_) #[true, true, false, false, false, false, false, false, false, false, false, false] rfl rfl (by kernel_rfl) (fun _ _ _ h => h) (Or.inl ⟨by rfl, ?_⟩) ?_ ?_
  rotate_left
  · intro w'
    go_simp
    with_reducible rfl
  rotate_left
  · simp only [Act.put, List.setIfInBounds_toArray, List.set_cons_zero, List.set_cons_succ, i64_w, i32_w]
    rfl
  refine pure_ (i := 2) (N := some 8) (v := ?_) (a' := ?_) #[true, true, true, false, false, false, false, false, false, false, false, false] rfl rfl (by kernel_rfl) (fun _ _ _ h => h) (Or.inl ⟨by rfl, ?_⟩) ?_ ?_
  rotate_left
  · intro w'
    go_simp
    with_reducible rfl
  rotate_left
  · simp only [Act.put, List.setIfInBounds_toArray, List.set_cons_zero, List.set_cons_succ, i64_w, i32_w]
    rfl
  refine take_ (i := 3) (N := some 9) (v := ?_) (a' := ?_) #[true, true, true, true, false, false, false, false, false, false, false, false] rfl rfl (by kernel_rfl) (fun _ _ _ h => h) (Or.inl ⟨by rfl, ?_⟩) hHeld ?_ ?_
  rotate_left
  · rintro w' ⟨s0, s1⟩
    go_simp
    with_reducible rfl
  rotate_left
  · simp only [Act.put, List.setIfInBounds_toArray, List.set_cons_zero, List.set_cons_succ, i64_w, i32_w]
    rfl
  refine pure_ (i := 5) (N := some 11) (v := ?_) (a' := ?_) #[true, true, true, true, false, true, false, false, false, false, false, false] rfl rfl (by kernel_rfl) (fun _ _ _ h => h) (Or.inl ⟨by rfl, ?_⟩) ?_ ?_
  rotate_left
  · intro w'
    go_simp
    with_reducible rfl
  rotate_left
  · simp only [Act.put, List.setIfInBounds_toArray, List.set_cons_zero, List.set_cons_succ, i64_w, i32_w]
    rfl
  refine pure_ (i := 6) (N := some 12) (v := ?_) (a' := ?_) #[true, true, true, true, false, true, true, false, false, false, false, false] rfl rfl (by kernel_rfl) (fun _ _ _ h => h) (Or.inl ⟨by rfl, ?_⟩) ?_ ?_
  rotate_left
  · intro w'
    go_simp
    with_reducible rfl
  rotate_left
  · simp only [Act.put, List.setIfInBounds_toArray, List.set_cons_zero, List.set_cons_succ, i64_w, i32_w]
    rfl
  refine pure_ (i := 7) (N := some 13) (v := ?_) (a' := ?_) #[true, true, true, true, false, true, true, true, false, false, false, false] rfl rfl (by kernel_rfl) (fun _ _ _ h => h) (Or.inl ⟨by rfl, ?_⟩) ?_ ?_
  rotate_left
  · intro w'
    go_simp
    with_reducible rfl
  rotate_left
  · simp only [Act.put, List.setIfInBounds_toArray, List.set_cons_zero, List.set_cons_succ, i64_w, i32_w]
    rfl
  refine take_ (i := 8) (N := some 14) (v := ?_) (a' := ?_) #[true, true, true, true, false, true, true, true, true, false, false, false] rfl rfl (by kernel_rfl) (fun _ _ _ h => h) (Or.inl ⟨by rfl, ?_⟩) hHeld ?_ ?_
  rotate_left
  · rintro w' ⟨s0, s1⟩
    go_simp
    with_reducible rfl
  rotate_left
  · simp only [Act.put, List.setIfInBounds_toArray, List.set_cons_zero, List.set_cons_succ, i64_w, i32_w]
    rfl
  refine one_ (i := 4) (N := some 10) #[true, true, true, true, true, true, true, true, true, false, false, false] rfl rfl (by kernel_rfl) (by decide) (fun K hK => ?_)
  refine goes_ Try.func34 (by kernel_rfl) rfl #[(.pointer (some ⟨b', 0, none⟩))] (by rfl) rfl rfl (by (try simp only [List.map_toArray, List.map_cons, List.map_nil]); first | done | rfl) ?_
  refine HqL.out.mono ?_
  rintro e _ ⟨rfl, rfl⟩
  refine ⟨_, rfl, hK.out _ _ ⟨(blk_cell HT.out.1 3).trans (congrArg some rfl), (blk_cell HT.out.1 4).trans (congrArg some HVR.out)⟩ (fun _ => ?_)⟩
  clear hK K
  refine norm_ (a' := ?_) ?_ ?_
  rotate_left
  · show Act.put _ (some 10) _ = _
    simp only [Act.put, List.setIfInBounds_toArray, List.set_cons_zero, List.set_cons_succ, i64_w, i32_w]
    rfl
  refine one_ (i := 9) (N := some 15) #[true, true, true, true, true, true, true, true, true, true, false, false] rfl rfl (by kernel_rfl) (by decide) (fun K hK => ?_)
  refine goes_ Try.func34 (by kernel_rfl) rfl #[(.pointer vr)] (by rfl) rfl rfl (by (try simp only [List.map_toArray, List.map_cons, List.map_nil]); first | done | rfl) ?_
  refine HqR.out.mono ?_
  rintro e _ ⟨rfl, rfl⟩
  refine ⟨_, rfl, hK.out _ _ ⟨(blk_cell HT.out.1 3).trans (congrArg some rfl), (blk_cell HT.out.1 4).trans (congrArg some HVR.out)⟩ (fun _ => ?_)⟩
  clear hK K
  refine norm_ (a' := ?_) ?_ ?_
  rotate_left
  · show Act.put _ (some 15) _ = _
    simp only [Act.put, List.setIfInBounds_toArray, List.set_cons_zero, List.set_cons_succ, i64_w, i32_w]
    rfl
  refine pure_ (i := 10) (N := some 16) (v := ?_) (a' := ?_) #[true, true, true, true, true, true, true, true, true, true, true, false] rfl rfl (by kernel_rfl) (fun _ _ _ h => h) (Or.inl ⟨by rfl, ?_⟩) ?_ ?_
  rotate_left
  · intro w'
    go_simp
    with_reducible rfl
  rotate_left
  · simp only [Act.put, List.setIfInBounds_toArray, List.set_cons_zero, List.set_cons_succ, i64_w, i32_w]
    rfl
  refine pure_ (i := 11) (N := some 3) (v := ?_) (a' := ?_) #[true, true, true, true, true, true, true, true, true, true, true, true] rfl rfl (by kernel_rfl) (fun _ _ _ h => h) (Or.inl ⟨by rfl, ?_⟩) ?_ ?_
  rotate_left
  · intro w'
    go_simp
    with_reducible rfl
  rotate_left
  · simp only [Act.put, List.setIfInBounds_toArray, List.set_cons_zero, List.set_cons_succ, i64_w, i32_w]
    rfl
  refine done_ (by kernel_rfl) ?_
  clear hs1
  have hd1 := HD1.out
  have hd2 := HD2.out
  go_wp2
  obtain ⟨w2, hw2⟩ : ∃ w2, w2 = w1.drew := ⟨_, rfl⟩
  rw [← hw2]
  have HT2 := Aside0.mk (show (Tr.nd (b, x) (.nd (b', y) a c) r).At w2 by rw [hw2]; exact HT.out.drewN 1)
  have HW2 := Aside0.mk (show Wr w w2 (fun k => k = b) by rw [hw2]; exact HW.out)
  clear hw2 HqL HqR hd1 hd2 HW HT
  have HqA := Aside0.mk (levels_calls a w2.drew (HT2.out.2.1.2.1.drewN 1))
  have HqC := Aside0.mk (levels_calls c w2.drew (HT2.out.2.1.2.2.drewN 1))
  rw [HVA.out, ← QA.out] at HqA
  rw [HVC.out, ← QC.out] at HqC
  have HS4 := Aside0.mk (show w2.drew.cell? ⟨b, 3, none⟩ = some (.pointer (some ⟨b', 0, none⟩)) ∧ w2.drew.cell? ⟨b', 3, none⟩ = some (.pointer va) ∧ w2.drew.cell? ⟨b', 4, none⟩ = some (.pointer vc) from
    ⟨(blk_cell HT2.out.1 3).trans rfl, (blk_cell HT2.out.2.1.1 3).trans (congrArg some HVA.out), (blk_cell HT2.out.2.1.1 4).trans (congrArg some HVC.out)⟩)
  have hd3 := HD3.out
  refine start_ (n := 17) (S := fun w' => (w'.cell? ⟨b, 3, none⟩ = some (.pointer (some ⟨b', 0, none⟩)) ∧ w'.cell? ⟨b', 3, none⟩ = some (.pointer va) ∧ w'.cell? ⟨b', 4, none⟩ = some (.pointer vc))) (ds := []) #[false, false, false, false, false, false, false, false, false, false, false, false, false, false, false, false, false] (by kernel_rfl) rfl rfl ?_ (fun hHeld => ?_)
  · exact HS4.out
  refine pure_ (i := 0) (N := some 20) (v := ?_) (a' := ?_) #[true, false, false, false, false, false, false, false, false, false, false, false, false, false, false, false, false] rfl rfl (by kernel_rfl) (fun _ _ _ h => h) (Or.inl ⟨by rfl, ?_⟩) ?_ ?_
  rotate_left
  · intro w'
    go_simp
    with_reducible rfl
  rotate_left
  · simp only [Act.put, List.setIfInBounds_toArray, List.set_cons_zero, List.set_cons_succ, i64_w, i32_w]
    rfl
  refine pure_ (i := 1) (N := some 21) (v := ?_) (a' := ?_) #[true, true, false, false, false, false, false, false, false, false, false, false, false, false, false, false, false] rfl rfl (by kernel_rfl) (fun _ _ _ h => h) (Or.inl ⟨by rfl, ?_⟩) ?_ ?_
  rotate_left
  · intro w'
    go_simp
    with_reducible rfl
  rotate_left
  · simp only [Act.put, List.setIfInBounds_toArray, List.set_cons_zero, List.set_cons_succ, i64_w, i32_w]
    rfl
  refine pure_ (i := 2) (N := some 22) (v := ?_) (a' := ?_) #[true, true, true, false, false, false, false, false, false, false, false, false, false, false, false, false, false] rfl rfl (by kernel_rfl) (fun _ _ _ h => h) (Or.inl ⟨by rfl, ?_⟩) ?_ ?_
  rotate_left
  · intro w'
    go_simp
    with_reducible rfl
  rotate_left
  · simp only [Act.put, List.setIfInBounds_toArray, List.set_cons_zero, List.set_cons_succ, i64_w, i32_w]
    rfl
  refine take_ (i := 3) (N := some 23) (v := ?_) (a' := ?_) #[true, true, true, true, false, false, false, false, false, false, false, false, false, false, false, false, false] rfl rfl (by kernel_rfl) (fun _ _ _ h => h) (Or.inl ⟨by rfl, ?_⟩) hHeld ?_ ?_
  rotate_left
  · rintro w' ⟨s0, s1, s2⟩
    go_simp
    with_reducible rfl
  rotate_left
  · simp only [Act.put, List.setIfInBounds_toArray, List.set_cons_zero, List.set_cons_succ, i64_w, i32_w]
    rfl
  refine pure_ (i := 4) (N := some 24) (v := ?_) (a' := ?_) #[true, true, true, true, true, false, false, false, false, false, false, false, false, false, false, false, false] rfl rfl (by kernel_rfl) (fun _ _ _ h => h) (Or.inl ⟨by rfl, ?_⟩) ?_ ?_
  rotate_left
  · intro w'
    go_simp
    with_reducible rfl
  rotate_left
  · simp only [Act.put, List.setIfInBounds_toArray, List.set_cons_zero, List.set_cons_succ, i64_w, i32_w]
    rfl
  refine pure_ (i := 5) (N := some 25) (v := ?_) (a' := ?_) #[true, true, true, true, true, true, false, false, false, false, false, false, false, false, false, false, false] rfl rfl (by kernel_rfl) (fun _ _ _ h => h) (Or.inl ⟨by rfl, ?_⟩) ?_ ?_
  rotate_left
  · intro w'
    go_simp
    with_reducible rfl
  rotate_left
  · simp only [Act.put, List.setIfInBounds_toArray, List.set_cons_zero, List.set_cons_succ, i64_w, i32_w]
    rfl
  refine take_ (i := 6) (N := some 26) (v := ?_) (a' := ?_) #[true, true, true, true, true, true, true, false, false, false, false, false, false, false, false, false, false] rfl rfl (by kernel_rfl) (fun _ _ _ h => h) (Or.inl ⟨by rfl, ?_⟩) hHeld ?_ ?_
  rotate_left
  · rintro w' ⟨s0, s1, s2⟩
    go_simp
    with_reducible rfl
  rotate_left
  · simp only [Act.put, List.setIfInBounds_toArray, List.set_cons_zero, List.set_cons_succ, i64_w, i32_w]
    rfl
  refine pure_ (i := 8) (N := some 28) (v := ?_) (a' := ?_) #[true, true, true, true, true, true, true, false, true, false, false, false, false, false, false, false, false] rfl rfl (by kernel_rfl) (fun _ _ _ h => h) (Or.inl ⟨by rfl, ?_⟩) ?_ ?_
  rotate_left
  · intro w'
    go_simp
    with_reducible rfl
  rotate_left
  · simp only [Act.put, List.setIfInBounds_toArray, List.set_cons_zero, List.set_cons_succ, i64_w, i32_w]
    rfl
  refine pure_ (i := 9) (N := some 29) (v := ?_) (a' := ?_) #[true, true, true, true, true, true, true, false, true, true, false, false, false, false, false, false, false] rfl rfl (by kernel_rfl) (fun _ _ _ h => h) (Or.inl ⟨by rfl, ?_⟩) ?_ ?_
  rotate_left
  · intro w'
    go_simp
    with_reducible rfl
  rotate_left
  · simp only [Act.put, List.setIfInBounds_toArray, List.set_cons_zero, List.set_cons_succ, i64_w, i32_w]
    rfl
  refine pure_ (i := 10) (N := some 30) (v := ?_) (a' := ?_) #[true, true, true, true, true, true, true, false, true, true, true, false, false, false, false, false, false] rfl rfl (by kernel_rfl) (fun _ _ _ h => h) (Or.inl ⟨by rfl, ?_⟩) ?_ ?_
  rotate_left
  · intro w'
    go_simp
    with_reducible rfl
  rotate_left
  · simp only [Act.put, List.setIfInBounds_toArray, List.set_cons_zero, List.set_cons_succ, i64_w, i32_w]
    rfl
  refine take_ (i := 11) (N := some 31) (v := ?_) (a' := ?_) #[true, true, true, true, true, true, true, false, true, true, true, true, false, false, false, false, false] rfl rfl (by kernel_rfl) (fun _ _ _ h => h) (Or.inl ⟨by rfl, ?_⟩) hHeld ?_ ?_
  rotate_left
  · rintro w' ⟨s0, s1, s2⟩
    go_simp
    with_reducible rfl
  rotate_left
  · simp only [Act.put, List.setIfInBounds_toArray, List.set_cons_zero, List.set_cons_succ, i64_w, i32_w]
    rfl
  refine pure_ (i := 12) (N := some 32) (v := ?_) (a' := ?_) #[true, true, true, true, true, true, true, false, true, true, true, true, true, false, false, false, false] rfl rfl (by kernel_rfl) (fun _ _ _ h => h) (Or.inl ⟨by rfl, ?_⟩) ?_ ?_
  rotate_left
  · intro w'
    go_simp
    with_reducible rfl
  rotate_left
  · simp only [Act.put, List.setIfInBounds_toArray, List.set_cons_zero, List.set_cons_succ, i64_w, i32_w]
    rfl
  refine pure_ (i := 13) (N := some 33) (v := ?_) (a' := ?_) #[true, true, true, true, true, true, true, false, true, true, true, true, true, true, false, false, false] rfl rfl (by kernel_rfl) (fun _ _ _ h => h) (Or.inl ⟨by rfl, ?_⟩) ?_ ?_
  rotate_left
  · intro w'
    go_simp
    with_reducible rfl
  rotate_left
  · simp only [Act.put, List.setIfInBounds_toArray, List.set_cons_zero, List.set_cons_succ, i64_w, i32_w]
    rfl
  refine take_ (i := 14) (N := some 34) (v := ?_) (a' := ?_) #[true, true, true, true, true, true, true, false, true, true, true, true, true, true, true, false, false] rfl rfl (by kernel_rfl) (fun _ _ _ h => h) (Or.inl ⟨by rfl, ?_⟩) hHeld ?_ ?_
  rotate_left
  · rintro w' ⟨s0, s1, s2⟩
    go_simp
    with_reducible rfl
  rotate_left
  · simp only [Act.put, List.setIfInBounds_toArray, List.set_cons_zero, List.set_cons_succ, i64_w, i32_w]
    rfl
  refine one_ (i := 7) (N := some 27) #[true, true, true, true, true, true, true, true, true, true, true, true, true, true, true, false, false] rfl rfl (by kernel_rfl) (by decide) (fun K hK => ?_)
  refine goes_ Try.func34 (by kernel_rfl) rfl #[.pointer va] (by rfl) rfl rfl (by (try simp only [List.map_toArray, List.map_cons, List.map_nil]); first | done | rfl) ?_
  refine HqA.out.mono ?_
  rintro e _ ⟨rfl, rfl⟩
  refine ⟨_, rfl, hK.out _ _ HS4.out (fun _ => ?_)⟩
  clear hK K
  refine norm_ (a' := ?_) ?_ ?_
  rotate_left
  · show Act.put _ (some 27) _ = _
    simp only [Act.put, List.setIfInBounds_toArray, List.set_cons_zero, List.set_cons_succ, i64_w, i32_w]
    rfl
  refine one_ (i := 15) (N := some 35) #[true, true, true, true, true, true, true, true, true, true, true, true, true, true, true, true, false] rfl rfl (by kernel_rfl) (by decide) (fun K hK => ?_)
  refine goes_ Try.func34 (by kernel_rfl) rfl #[.pointer vc] (by rfl) rfl rfl (by (try simp only [List.map_toArray, List.map_cons, List.map_nil]); first | done | rfl) ?_
  refine HqC.out.mono ?_
  rintro e _ ⟨rfl, rfl⟩
  refine ⟨_, rfl, hK.out _ _ HS4.out (fun _ => ?_)⟩
  clear hK K
  refine norm_ (a' := ?_) ?_ ?_
  rotate_left
  · show Act.put _ (some 35) _ = _
    simp only [Act.put, List.setIfInBounds_toArray, List.set_cons_zero, List.set_cons_succ, i64_w, i32_w]
    rfl
  refine pure_ (i := 16) (N := some 36) (v := ?_) (a' := ?_) #[true, true, true, true, true, true, true, true, true, true, true, true, true, true, true, true, true] rfl rfl (by kernel_rfl) (fun _ _ _ h => h) (Or.inl ⟨by rfl, ?_⟩) ?_ ?_
  rotate_left
  · intro w'
    go_simp
    with_reducible rfl
  rotate_left
  · simp only [Act.put, List.setIfInBounds_toArray, List.set_cons_zero, List.set_cons_succ, i64_w, i32_w]
    rfl
  refine done_ (by kernel_rfl) ?_
  clear HqA HqC HS4
  have hc := HC.out
  subst hc
  obtain ⟨n1, n2, n3, n4, n5⟩ := blks_nodup_nd Q0.out
  have e4 : vc = some ⟨b'', 0, none⟩ := by have := HVC.out; simp only [Tr.ptr, Value.pointer.injEq] at this; exact this.symm
  have HK := Aside0.mk (ptr_mono (u := some ⟨b'', 0, none⟩) rfl (rotate_dn b' y b'' z c2 c1 a w2.drew (Raw.of_at (x := (b', y)) (HT2.out.drewN 1).2.1) n1 (by have := HH.out.2.1; simp only [Tr.ht] at this; omega) (by have := HH.out.2.1; simp only [Tr.ht] at this; omega) (by have := HH.out.1; omega)))
  have hbw := (HT2.out.drewN 1).1
  have HBW := Aside0.mk hbw
  have hnb : ¬ (b = b' ∨ b = b'') := by have := n3; simp only [Tr.blks_nd, List.mem_append, List.mem_cons, not_or] at this; exact not_or.2 ⟨this.2.1, this.2.2.2.1⟩
  have hRw := (HT2.out.drewN 1).2.2
  have HRO := Aside0.mk (fun (w3 : World) (hw : Wr w2.drew w3 (fun k => k = b' ∨ k = b'')) => hRw.wr hw (fun k hk e => n5 k (by rcases e with rfl | rfl <;> simp [Tr.blks_nd]) hk))
  have HNB := Aside0.mk hnb
  have hq0 := Q0.out
  have HQ1 := Aside0.mk (show (Tr.nd (b, x) (.nd (b'', z) (.nd (b', y) a c1) c2) r).blks.Nodup by simpa [Tr.blks_nd, List.append_assoc] using hq0)
  clear n1 n2 n3 n4 n5 e4 hbw hnb hRw hq0
  go_wp2_with (first
    | (go_at_call 47; with_reducible refine HK.out.mono ?_; rintro e w3 ⟨rfl, hT, hw⟩
       have HE := Aside0.mk (And.intro hT hw)
       have hb3 : w3.heap[b]? = some (.cells (nodeC x (.pointer (some ⟨b', 0, none⟩)) r.ptr ((Tr.nd (b, x) (.nd (b', y) a (.nd (b'', z) c1 c2)) r).ht : Nat) (Tr.nd (b, x) (.nd (b', y) a (.nd (b'', z) c1 c2)) r).sk.en) 69 (0, 0)) := hw.keep HBW.out HNB.out
       have HB3 := Aside0.mk hb3
       have hc3 : w3.cell? ⟨b, 3, none⟩ = some (.pointer (some ⟨b', 0, none⟩)) := (blk_cell hb3 3).trans rfl
       have hf3 := blk_frozen hb3 3
       have HR3 := Aside0.mk (HRO.out w3 hw)
       clear hT hw hb3 HK)
    | (go_at_call 47
       have hb4 := blk_put (cs := nodeC x (.pointer (some ⟨b', 0, none⟩)) r.ptr ((Tr.nd (b, x) (.nd (b', y) a (.nd (b'', z) c1 c2)) r).ht : Nat) (Tr.nd (b, x) (.nd (b', y) a (.nd (b'', z) c1 c2)) r).sk.en) HB3.out 3 (.pointer (some ⟨b'', 0, none⟩)) rfl
       refine (rotate_up b x b'' z (.nd (b', y) a c1) c2 r (w3.setCell ⟨b, 3, none⟩ (.pointer (some ⟨b'', 0, none⟩))) ⟨⟨_, _, hb4⟩, HE.out.1.wr ((Wr.refl w3 (fun k => k = b)).set (S := fun k => k = b) rfl 3 _) (fun k hk e => (blks_nodup_nd HQ1.out).2.2.1 (e ▸ hk)), HR3.out.wr ((Wr.refl w3 (fun k => k = b)).set (S := fun k => k = b) rfl 3 _) (fun k hk e => (blks_nodup_nd HQ1.out).2.2.2.1 (e ▸ hk))⟩ HQ1.out (by have := HH.out.1; have := HH.out.2.1; simp only [Tr.ht] at *; omega) (by have := HH.out.2.1; simp only [Tr.ht] at this; omega) (Nat.le_trans HH.out.2.2 (by decide))).mono ?_
       rintro e w5 ⟨rfl, hT, hw⟩
       have HE2 := Aside0.mk (And.intro hT hw); clear hT hw hb4))
  go_ret
  refine ⟨rfl, HE2.out.1, ?_⟩
  exact (((((HW2.out.drewN 1).mono (S' := fun k => k ∈ (Tr.nd (b, x) (.nd (b', y) a (.nd (b'', z) c1 c2)) r).blks) (fun k hk => by rw [hk]; simp [Tr.blks_nd])).trans HE.out.2 (fun k hk => .inl (by rcases hk with rfl | rfl <;> simp [Tr.blks_nd]))).set (g := b) (by simp [Tr.blks_nd]) 3 _).trans HE2.out.2 (fun k hk => .inl (by rcases hk with rfl | rfl <;> simp [Tr.blks_nd])))
set_option maxHeartbeats 1000000 in
set_option maxRecDepth 100000 in
theorem balance_r2 (b : Nat) (x : S30) (b' : Nat) (y : S30) (a c r : BT) (b'' : Nat) (z : S30) (c1 c2 : BT) (hc : c = .nd (b'', z) c2 c1) (w : World) (h : Raw w b x r (.nd (b', y) c a)) (hn : (Tr.nd (b, x) r (.nd (b', y) c a)).blks.Nodup) (hh1 : a.ht ≤ 800000) (hh2 : c.ht ≤ 800000) (hh3 : r.ht ≤ 800000)
    (hd : r.ht + 1 < 1 + max c.ht a.ht) (hac : a.ht < c.ht) :
    Calls Try.prog 39 #[.pointer (some ⟨b, 0, none⟩)] w (BalPost w (.nd (b'', z) (.nd (b, x) r c2) (.nd (b', y) c1 a)) (.nd (b, x) r (.nd (b', y) c a))) := by
  have HC := Aside0.mk hc; clear hc
  obtain ⟨n1, n2, n3, n4, n5⟩ := blks_nodup_nd hn
  have HF := Aside0.mk (fix_calls b x r (.nd (b', y) c a) w h n3 n4 (by (try simp only [Tr.ht]); omega) (by (try simp only [Tr.ht]); omega))
  obtain ⟨na, hna⟩ : ∃ n, n = a.ht := ⟨_, rfl⟩
  obtain ⟨nc, hnc⟩ : ∃ n, n = c.ht := ⟨_, rfl⟩
  obtain ⟨nr, hnr⟩ : ∃ n, n = r.ht := ⟨_, rfl⟩
  obtain ⟨nl, hnl⟩ : ∃ n, n = (Tr.nd (b', y) c a).ht := ⟨_, rfl⟩
  have hnl' : nl = 1 + max na nc := by rw [hnl, hna, hnc]; simp only [Tr.ht] <;> omega
  rw [← hna, ← hnc, ← hnr] at hd
  rw [← hna, ← hnc] at hac
  have HH := Aside0.mk (And.intro hh1 (And.intro hh2 hh3))
  rw [← hna] at hh1
  rw [← hnc] at hh2
  rw [← hnr] at hh3
  have Q0 := Aside0.mk hn
  have QA := Aside0.mk hna
  have QC := Aside0.mk hnc
  have QR := Aside0.mk hnr
  have QL := Aside0.mk hnl
  have hnl0 : nl ≤ 900000 := by omega
  obtain ⟨va, hva⟩ := ptr_pointer a
  obtain ⟨vc, hvc⟩ := ptr_pointer c
  obtain ⟨vr, hvr⟩ := ptr_pointer r
  have HVA := Aside0.mk hva
  have HVC := Aside0.mk hvc
  have HVR := Aside0.mk hvr
  have hs1 : IntKind.i64.wrap ((nr : Int) - (nl : Int)) = (nr : Int) - (nl : Int) := by rw [i64_w]; unfold wrap64; omega
  have HS1 := Aside0.mk hs1
  have hd1 : decide (1 < (nr : Int) - (nl : Int)) = false := by simp only [decide_eq_true_eq, decide_eq_false_iff_not]; omega
  have hd2 : decide ((nr : Int) - (nl : Int) < -1) = true := by simp only [decide_eq_true_eq, decide_eq_false_iff_not]; omega
  have hd3 : decide (na < nc) = true := by simpa using hac
  have HD1 := Aside0.mk hd1
  have HD2 := Aside0.mk hd2
  have HD3 := Aside0.mk hd3
  clear hna hnc hnr hnl hnl' hd hac hn n1 n2 n3 n4 n5 hva hvc hvr h hs1 hd1 hd2 hd3
  go_enter Try.func39, Try.ntmps39
  go_wp2_with (first | (go_at_call 46; with_reducible refine HF.out.mono ?_; rintro e w1 ⟨rfl, hT, hw⟩; have HT := Aside0.mk hT; have HW := Aside0.mk hw; clear hT hw HF) | fail)
  have HqL := Aside0.mk (levels_calls (.nd (b', y) c a) w1.drew (HT.out.2.2.drewN 1))
  have HqR := Aside0.mk (levels_calls r w1.drew (HT.out.2.1.drewN 1))
  rw [HVR.out, ← QR.out] at HqR
  rw [← QL.out] at HqL
  have hs1 := HS1.out
  refine start_ (n := 12) (S := fun w' => (w'.cell? ⟨b, 3, none⟩ = some (.pointer vr) ∧ w'.cell? ⟨b, 4, none⟩ = some (.pointer (some ⟨b', 0, none⟩)))) (ds := []) #[false, false, false, false, false, false, false, false, false, false, false, false] (by kernel_rfl) rfl rfl ?_ (fun hHeld => ?_)
  · exact ⟨(blk_cell HT.out.1 3).trans (congrArg some HVR.out), (blk_cell HT.out.1 4).trans (congrArg some rfl)⟩
  refine pure_ (i := 0) (N := some 6) (v := ?_) (a' := ?_) #[true, false, false, false, false, false, false, false, false, false, false, false] rfl rfl (by kernel_rfl) (fun _ _ _ h => h) (Or.inl ⟨by rfl, ?_⟩) ?_ ?_
  rotate_left
  · intro w'
    go_simp
    with_reducible rfl
  rotate_left
  · simp only [Act.put, List.setIfInBounds_toArray, List.set_cons_zero, List.set_cons_succ, i64_w, i32_w]
    rfl
  refine pure_ (i := 1) (N := some 7) (v := ?_) (a' := ?_) #[true, true, false, false, false, false, false, false, false, false, false, false] rfl rfl (by kernel_rfl) (fun _ _ _ h => h) (Or.inl ⟨by rfl, ?_⟩) ?_ ?_
  rotate_left
  · intro w'
    go_simp
    with_reducible rfl
  rotate_left
  · simp only [Act.put, List.setIfInBounds_toArray, List.set_cons_zero, List.set_cons_succ, i64_w, i32_w]
    rfl
  refine pure_ (i := 2) (N := some 8) (v := ?_) (a' := ?_) #[true, true, true, false, false, false, false, false, false, false, false, false] rfl rfl (by kernel_rfl) (fun _ _ _ h => h) (Or.inl ⟨by rfl, ?_⟩) ?_ ?_
  rotate_left
  · intro w'
    go_simp
    with_reducible rfl
  rotate_left
  · simp only [Act.put, List.setIfInBounds_toArray, List.set_cons_zero, List.set_cons_succ, i64_w, i32_w]
    rfl
  refine take_ (i := 3) (N := some 9) (v := ?_) (a' := ?_) #[true, true, true, true, false, false, false, false, false, false, false, false] rfl rfl (by kernel_rfl) (fun _ _ _ h => h) (Or.inl ⟨by rfl, ?_⟩) hHeld ?_ ?_
  rotate_left
  · rintro w' ⟨s0, s1⟩
    go_simp
    with_reducible rfl
  rotate_left
  · simp only [Act.put, List.setIfInBounds_toArray, List.set_cons_zero, List.set_cons_succ, i64_w, i32_w]
    rfl
  refine pure_ (i := 5) (N := some 11) (v := ?_) (a' := ?_) #[true, true, true, true, false, true, false, false, false, false, false, false] rfl rfl (by kernel_rfl) (fun _ _ _ h => h) (Or.inl ⟨by rfl, ?_⟩) ?_ ?_
  rotate_left
  · intro w'
    go_simp
    with_reducible rfl
  rotate_left
  · simp only [Act.put, List.setIfInBounds_toArray, List.set_cons_zero, List.set_cons_succ, i64_w, i32_w]
    rfl
  refine pure_ (i := 6) (N := some 12) (v := ?_) (a' := ?_) #[true, true, true, true, false, true, true, false, false, false, false, false] rfl rfl (by kernel_rfl) (fun _ _ _ h => h) (Or.inl ⟨by rfl, ?_⟩) ?_ ?_
  rotate_left
  · intro w'
    go_simp
    with_reducible rfl
  rotate_left
  · simp only [Act.put, List.setIfInBounds_toArray, List.set_cons_zero, List.set_cons_succ, i64_w, i32_w]
    rfl
  refine pure_ (i := 7) (N := some 13) (v := ?_) (a' := ?_) #[true, true, true, true, false, true, true, true, false, false, false, false] rfl rfl (by kernel_rfl) (fun _ _ _ h => h) (Or.inl ⟨by rfl, ?_⟩) ?_ ?_
  rotate_left
  · intro w'
    go_simp
    with_reducible rfl
  rotate_left
  · simp only [Act.put, List.setIfInBounds_toArray, List.set_cons_zero, List.set_cons_succ, i64_w, i32_w]
    rfl
  refine take_ (i := 8) (N := some 14) (v := ?_) (a' := ?_) #[true, true, true, true, false, true, true, true, true, false, false, false] rfl rfl (by kernel_rfl) (fun _ _ _ h => h) (Or.inl ⟨by rfl, ?_⟩) hHeld ?_ ?_
  rotate_left
  · rintro w' ⟨s0, s1⟩
    go_simp
    with_reducible rfl
  rotate_left
  · simp only [Act.put, List.setIfInBounds_toArray, List.set_cons_zero, List.set_cons_succ, i64_w, i32_w]
    rfl
  refine one_ (i := 4) (N := some 10) #[true, true, true, true, true, true, true, true, true, false, false, false] rfl rfl (by kernel_rfl) (by decide) (fun K hK => ?_)
  refine goes_ Try.func34 (by kernel_rfl) rfl #[(.pointer vr)] (by rfl) rfl rfl (by (try simp only [List.map_toArray, List.map_cons, List.map_nil]); first | done | rfl) ?_
  refine HqR.out.mono ?_
  rintro e _ ⟨rfl, rfl⟩
  refine ⟨_, rfl, hK.out _ _ ⟨(blk_cell HT.out.1 3).trans (congrArg some HVR.out), (blk_cell HT.out.1 4).trans (congrArg some rfl)⟩ (fun _ => ?_)⟩
  clear hK K
  refine norm_ (a' := ?_) ?_ ?_
  rotate_left
  · show Act.put _ (some 10) _ = _
    simp only [Act.put, List.setIfInBounds_toArray, List.set_cons_zero, List.set_cons_succ, i64_w, i32_w]
    rfl
  refine one_ (i := 9) (N := some 15) #[true, true, true, true, true, true, true, true, true, true, false, false] rfl rfl (by kernel_rfl) (by decide) (fun K hK => ?_)
  refine goes_ Try.func34 (by kernel_rfl) rfl #[(.pointer (some ⟨b', 0, none⟩))] (by rfl) rfl rfl (by (try simp only [List.map_toArray, List.map_cons, List.map_nil]); first | done | rfl) ?_
  refine HqL.out.mono ?_
  rintro e _ ⟨rfl, rfl⟩
  refine ⟨_, rfl, hK.out _ _ ⟨(blk_cell HT.out.1 3).trans (congrArg some HVR.out), (blk_cell HT.out.1 4).trans (congrArg some rfl)⟩ (fun _ => ?_)⟩
  clear hK K
  refine norm_ (a' := ?_) ?_ ?_
  rotate_left
  · show Act.put _ (some 15) _ = _
    simp only [Act.put, List.setIfInBounds_toArray, List.set_cons_zero, List.set_cons_succ, i64_w, i32_w]
    rfl
  refine pure_ (i := 10) (N := some 16) (v := ?_) (a' := ?_) #[true, true, true, true, true, true, true, true, true, true, true, false] rfl rfl (by kernel_rfl) (fun _ _ _ h => h) (Or.inl ⟨by rfl, ?_⟩) ?_ ?_
  rotate_left
  · intro w'
    go_simp
    with_reducible rfl
  rotate_left
  · simp only [Act.put, List.setIfInBounds_toArray, List.set_cons_zero, List.set_cons_succ, i64_w, i32_w]
    rfl
  refine pure_ (i := 11) (N := some 3) (v := ?_) (a' := ?_) #[true, true, true, true, true, true, true, true, true, true, true, true] rfl rfl (by kernel_rfl) (fun _ _ _ h => h) (Or.inl ⟨by rfl, ?_⟩) ?_ ?_
  rotate_left
  · intro w'
    go_simp
    with_reducible rfl
  rotate_left
  · simp only [Act.put, List.setIfInBounds_toArray, List.set_cons_zero, List.set_cons_succ, i64_w, i32_w]
    rfl
  refine done_ (by kernel_rfl) ?_
  clear hs1
  have hd1 := HD1.out
  have hd2 := HD2.out
  go_wp2
  obtain ⟨w2, hw2⟩ : ∃ w2, w2 = w1.drew := ⟨_, rfl⟩
  rw [← hw2]
  have HT2 := Aside0.mk (show (Tr.nd (b, x) r (.nd (b', y) c a)).At w2 by rw [hw2]; exact HT.out.drewN 1)
  have HW2 := Aside0.mk (show Wr w w2 (fun k => k = b) by rw [hw2]; exact HW.out)
  clear hw2 HqL HqR hd1 hd2 HW HT
  have HqA := Aside0.mk (levels_calls a w2.drew (HT2.out.2.2.2.2.drewN 1))
  have HqC := Aside0.mk (levels_calls c w2.drew (HT2.out.2.2.2.1.drewN 1))
  rw [HVA.out, ← QA.out] at HqA
  rw [HVC.out, ← QC.out] at HqC
  have HS4 := Aside0.mk (show w2.drew.cell? ⟨b, 4, none⟩ = some (.pointer (some ⟨b', 0, none⟩)) ∧ w2.drew.cell? ⟨b', 4, none⟩ = some (.pointer va) ∧ w2.drew.cell? ⟨b', 3, none⟩ = some (.pointer vc) from
    ⟨(blk_cell HT2.out.1 4).trans rfl, (blk_cell HT2.out.2.2.1 4).trans (congrArg some HVA.out), (blk_cell HT2.out.2.2.1 3).trans (congrArg some HVC.out)⟩)
  have hd3 := HD3.out
  refine start_ (n := 17) (S := fun w' => (w'.cell? ⟨b, 4, none⟩ = some (.pointer (some ⟨b', 0, none⟩)) ∧ w'.cell? ⟨b', 4, none⟩ = some (.pointer va) ∧ w'.cell? ⟨b', 3, none⟩ = some (.pointer vc))) (ds := []) #[false, false, false, false, false, false, false, false, false, false, false, false, false, false, false, false, false] (by kernel_rfl) rfl rfl ?_ (fun hHeld => ?_)
  · exact HS4.out
  refine pure_ (i := 0) (N := some 50) (v := ?_) (a' := ?_) #[true, false, false, false, false, false, false, false, false, false, false, false, false, false, false, false, false] rfl rfl (by kernel_rfl) (fun _ _ _ h => h) (Or.inl ⟨by rfl, ?_⟩) ?_ ?_
  rotate_left
  · intro w'
    go_simp
    with_reducible rfl
  rotate_left
  · simp only [Act.put, List.setIfInBounds_toArray, List.set_cons_zero, List.set_cons_succ, i64_w, i32_w]
    rfl
  refine pure_ (i := 1) (N := some 51) (v := ?_) (a' := ?_) #[true, true, false, false, false, false, false, false, false, false, false, false, false, false, false, false, false] rfl rfl (by kernel_rfl) (fun _ _ _ h => h) (Or.inl ⟨by rfl, ?_⟩) ?_ ?_
  rotate_left
  · intro w'
    go_simp
    with_reducible rfl
  rotate_left
  · simp only [Act.put, List.setIfInBounds_toArray, List.set_cons_zero, List.set_cons_succ, i64_w, i32_w]
    rfl
  refine pure_ (i := 2) (N := some 52) (v := ?_) (a' := ?_) #[true, true, true, false, false, false, false, false, false, false, false, false, false, false, false, false, false] rfl rfl (by kernel_rfl) (fun _ _ _ h => h) (Or.inl ⟨by rfl, ?_⟩) ?_ ?_
  rotate_left
  · intro w'
    go_simp
    with_reducible rfl
  rotate_left
  · simp only [Act.put, List.setIfInBounds_toArray, List.set_cons_zero, List.set_cons_succ, i64_w, i32_w]
    rfl
  refine take_ (i := 3) (N := some 53) (v := ?_) (a' := ?_) #[true, true, true, true, false, false, false, false, false, false, false, false, false, false, false, false, false] rfl rfl (by kernel_rfl) (fun _ _ _ h => h) (Or.inl ⟨by rfl, ?_⟩) hHeld ?_ ?_
  rotate_left
  · rintro w' ⟨s0, s1, s2⟩
    go_simp
    with_reducible rfl
  rotate_left
  · simp only [Act.put, List.setIfInBounds_toArray, List.set_cons_zero, List.set_cons_succ, i64_w, i32_w]
    rfl
  refine pure_ (i := 4) (N := some 54) (v := ?_) (a' := ?_) #[true, true, true, true, true, false, false, false, false, false, false, false, false, false, false, false, false] rfl rfl (by kernel_rfl) (fun _ _ _ h => h) (Or.inl ⟨by rfl, ?_⟩) ?_ ?_
  rotate_left
  · intro w'
    go_simp
    with_reducible rfl
  rotate_left
  · simp only [Act.put, List.setIfInBounds_toArray, List.set_cons_zero, List.set_cons_succ, i64_w, i32_w]
    rfl
  refine pure_ (i := 5) (N := some 55) (v := ?_) (a' := ?_) #[true, true, true, true, true, true, false, false, false, false, false, false, false, false, false, false, false] rfl rfl (by kernel_rfl) (fun _ _ _ h => h) (Or.inl ⟨by rfl, ?_⟩) ?_ ?_
  rotate_left
  · intro w'
    go_simp
    with_reducible rfl
  rotate_left
  · simp only [Act.put, List.setIfInBounds_toArray, List.set_cons_zero, List.set_cons_succ, i64_w, i32_w]
    rfl
  refine take_ (i := 6) (N := some 56) (v := ?_) (a' := ?_) #[true, true, true, true, true, true, true, false, false, false, false, false, false, false, false, false, false] rfl rfl (by kernel_rfl) (fun _ _ _ h => h) (Or.inl ⟨by rfl, ?_⟩) hHeld ?_ ?_
  rotate_left
  · rintro w' ⟨s0, s1, s2⟩
    go_simp
    with_reducible rfl
  rotate_left
  · simp only [Act.put, List.setIfInBounds_toArray, List.set_cons_zero, List.set_cons_succ, i64_w, i32_w]
    rfl
  refine pure_ (i := 8) (N := some 58) (v := ?_) (a' := ?_) #[true, true, true, true, true, true, true, false, true, false, false, false, false, false, false, false, false] rfl rfl (by kernel_rfl) (fun _ _ _ h => h) (Or.inl ⟨by rfl, ?_⟩) ?_ ?_
  rotate_left
  · intro w'
    go_simp
    with_reducible rfl
  rotate_left
  · simp only [Act.put, List.setIfInBounds_toArray, List.set_cons_zero, List.set_cons_succ, i64_w, i32_w]
    rfl
  refine pure_ (i := 9) (N := some 59) (v := ?_) (a' := ?_) #[true, true, true, true, true, true, true, false, true, true, false, false, false, false, false, false, false] rfl rfl (by kernel_rfl) (fun _ _ _ h => h) (Or.inl ⟨by rfl, ?_⟩) ?_ ?_
  rotate_left
  · intro w'
    go_simp
    with_reducible rfl
  rotate_left
  · simp only [Act.put, List.setIfInBounds_toArray, List.set_cons_zero, List.set_cons_succ, i64_w, i32_w]
    rfl
  refine pure_ (i := 10) (N := some 60) (v := ?_) (a' := ?_) #[true, true, true, true, true, true, true, false, true, true, true, false, false, false, false, false, false] rfl rfl (by kernel_rfl) (fun _ _ _ h => h) (Or.inl ⟨by rfl, ?_⟩) ?_ ?_
  rotate_left
  · intro w'
    go_simp
    with_reducible rfl
  rotate_left
  · simp only [Act.put, List.setIfInBounds_toArray, List.set_cons_zero, List.set_cons_succ, i64_w, i32_w]
    rfl
  refine take_ (i := 11) (N := some 61) (v := ?_) (a' := ?_) #[true, true, true, true, true, true, true, false, true, true, true, true, false, false, false, false, false] rfl rfl (by kernel_rfl) (fun _ _ _ h => h) (Or.inl ⟨by rfl, ?_⟩) hHeld ?_ ?_
  rotate_left
  · rintro w' ⟨s0, s1, s2⟩
    go_simp
    with_reducible rfl
  rotate_left
  · simp only [Act.put, List.setIfInBounds_toArray, List.set_cons_zero, List.set_cons_succ, i64_w, i32_w]
    rfl
  refine pure_ (i := 12) (N := some 62) (v := ?_) (a' := ?_) #[true, true, true, true, true, true, true, false, true, true, true, true, true, false, false, false, false] rfl rfl (by kernel_rfl) (fun _ _ _ h => h) (Or.inl ⟨by rfl, ?_⟩) ?_ ?_
  rotate_left
  · intro w'
    go_simp
    with_reducible rfl
  rotate_left
  · simp only [Act.put, List.setIfInBounds_toArray, List.set_cons_zero, List.set_cons_succ, i64_w, i32_w]
    rfl
  refine pure_ (i := 13) (N := some 63) (v := ?_) (a' := ?_) #[true, true, true, true, true, true, true, false, true, true, true, true, true, true, false, false, false] rfl rfl (by kernel_rfl) (fun _ _ _ h => h) (Or.inl ⟨by rfl, ?_⟩) ?_ ?_
  rotate_left
  · intro w'
    go_simp
    with_reducible rfl
  rotate_left
  · simp only [Act.put, List.setIfInBounds_toArray, List.set_cons_zero, List.set_cons_succ, i64_w, i32_w]
    rfl
  refine take_ (i := 14) (N := some 64) (v := ?_) (a' := ?_) #[true, true, true, true, true, true, true, false, true, true, true, true, true, true, true, false, false] rfl rfl (by kernel_rfl) (fun _ _ _ h => h) (Or.inl ⟨by rfl, ?_⟩) hHeld ?_ ?_
  rotate_left
  · rintro w' ⟨s0, s1, s2⟩
    go_simp
    with_reducible rfl
  rotate_left
  · simp only [Act.put, List.setIfInBounds_toArray, List.set_cons_zero, List.set_cons_succ, i64_w, i32_w]
    rfl
  refine one_ (i := 7) (N := some 57) #[true, true, true, true, true, true, true, true, true, true, true, true, true, true, true, false, false] rfl rfl (by kernel_rfl) (by decide) (fun K hK => ?_)
  refine goes_ Try.func34 (by kernel_rfl) rfl #[.pointer va] (by rfl) rfl rfl (by (try simp only [List.map_toArray, List.map_cons, List.map_nil]); first | done | rfl) ?_
  refine HqA.out.mono ?_
  rintro e _ ⟨rfl, rfl⟩
  refine ⟨_, rfl, hK.out _ _ HS4.out (fun _ => ?_)⟩
  clear hK K
  refine norm_ (a' := ?_) ?_ ?_
  rotate_left
  · show Act.put _ (some 57) _ = _
    simp only [Act.put, List.setIfInBounds_toArray, List.set_cons_zero, List.set_cons_succ, i64_w, i32_w]
    rfl
  refine one_ (i := 15) (N := some 65) #[true, true, true, true, true, true, true, true, true, true, true, true, true, true, true, true, false] rfl rfl (by kernel_rfl) (by decide) (fun K hK => ?_)
  refine goes_ Try.func34 (by kernel_rfl) rfl #[.pointer vc] (by rfl) rfl rfl (by (try simp only [List.map_toArray, List.map_cons, List.map_nil]); first | done | rfl) ?_
  refine HqC.out.mono ?_
  rintro e _ ⟨rfl, rfl⟩
  refine ⟨_, rfl, hK.out _ _ HS4.out (fun _ => ?_)⟩
  clear hK K
  refine norm_ (a' := ?_) ?_ ?_
  rotate_left
  · show Act.put _ (some 65) _ = _
    simp only [Act.put, List.setIfInBounds_toArray, List.set_cons_zero, List.set_cons_succ, i64_w, i32_w]
    rfl
  refine pure_ (i := 16) (N := some 66) (v := ?_) (a' := ?_) #[true, true, true, true, true, true, true, true, true, true, true, true, true, true, true, true, true] rfl rfl (by kernel_rfl) (fun _ _ _ h => h) (Or.inl ⟨by rfl, ?_⟩) ?_ ?_
  rotate_left
  · intro w'
    go_simp
    with_reducible rfl
  rotate_left
  · simp only [Act.put, List.setIfInBounds_toArray, List.set_cons_zero, List.set_cons_succ, i64_w, i32_w]
    rfl
  refine done_ (by kernel_rfl) ?_
  clear HqA HqC HS4
  have hc := HC.out
  subst hc
  obtain ⟨n1, n2, n3, n4, n5⟩ := blks_nodup_nd Q0.out
  have e4 : vc = some ⟨b'', 0, none⟩ := by have := HVC.out; simp only [Tr.ptr, Value.pointer.injEq] at this; exact this.symm
  have HK := Aside0.mk (ptr_mono (u := some ⟨b'', 0, none⟩) rfl (rotate_up b' y b'' z c2 c1 a w2.drew (Raw.of_at (x := (b', y)) (HT2.out.drewN 1).2.2) n2 (by have := HH.out.2.1; simp only [Tr.ht] at this; omega) (by have := HH.out.2.1; simp only [Tr.ht] at this; omega) (by have := HH.out.1; omega)))
  have hbw := (HT2.out.drewN 1).1
  have HBW := Aside0.mk hbw
  have hnb : ¬ (b = b' ∨ b = b'') := by have := n4; simp only [Tr.blks_nd, List.mem_append, List.mem_cons, not_or] at this; exact not_or.2 ⟨this.2.1, this.1.2.1⟩
  have hRw := (HT2.out.drewN 1).2.1
  have HRO := Aside0.mk (fun (w3 : World) (hw : Wr w2.drew w3 (fun k => k = b' ∨ k = b'')) => hRw.wr hw (fun k hk e => n5 k hk (by rcases e with rfl | rfl <;> simp [Tr.blks_nd])))
  have HNB := Aside0.mk hnb
  have hq0 := Q0.out
  have HQ1 := Aside0.mk (show (Tr.nd (b, x) r (.nd (b'', z) c2 (.nd (b', y) c1 a))).blks.Nodup by simpa [Tr.blks_nd, List.append_assoc] using hq0)
  clear n1 n2 n3 n4 n5 e4 hbw hnb hRw hq0
  go_wp2_with (first
    | (go_at_call 47; with_reducible refine HK.out.mono ?_; rintro e w3 ⟨rfl, hT, hw⟩
       have HE := Aside0.mk (And.intro hT hw)
       have hb3 : w3.heap[b]? = some (.cells (nodeC x r.ptr (.pointer (some ⟨b', 0, none⟩)) ((Tr.nd (b, x) r (.nd (b', y) (.nd (b'', z) c2 c1) a)).ht : Nat) (Tr.nd (b, x) r (.nd (b', y) (.nd (b'', z) c2 c1) a)).sk.en) 69 (0, 0)) := hw.keep HBW.out HNB.out
       have HB3 := Aside0.mk hb3
       have hc3 : w3.cell? ⟨b, 4, none⟩ = some (.pointer (some ⟨b', 0, none⟩)) := (blk_cell hb3 4).trans rfl
       have hf3 := blk_frozen hb3 4
       have HR3 := Aside0.mk (HRO.out w3 hw)
       clear hT hw hb3 HK)
    | (go_at_call 47
       have hb4 := blk_put (cs := nodeC x r.ptr (.pointer (some ⟨b', 0, none⟩)) ((Tr.nd (b, x) r (.nd (b', y) (.nd (b'', z) c2 c1) a)).ht : Nat) (Tr.nd (b, x) r (.nd (b', y) (.nd (b'', z) c2 c1) a)).sk.en) HB3.out 4 (.pointer (some ⟨b'', 0, none⟩)) rfl
       refine (rotate_dn b x b'' z (.nd (b', y) c1 a) c2 r (w3.setCell ⟨b, 4, none⟩ (.pointer (some ⟨b'', 0, none⟩))) ⟨⟨_, _, hb4⟩, HR3.out.wr ((Wr.refl w3 (fun k => k = b)).set (S := fun k => k = b) rfl 4 _) (fun k hk e => (blks_nodup_nd HQ1.out).2.2.1 (e ▸ hk)), HE.out.1.wr ((Wr.refl w3 (fun k => k = b)).set (S := fun k => k = b) rfl 4 _) (fun k hk e => (blks_nodup_nd HQ1.out).2.2.2.1 (e ▸ hk))⟩ HQ1.out (by have := HH.out.1; have := HH.out.2.1; simp only [Tr.ht] at *; omega) (by have := HH.out.2.1; simp only [Tr.ht] at this; omega) (Nat.le_trans HH.out.2.2 (by decide))).mono ?_
       rintro e w5 ⟨rfl, hT, hw⟩
       have HE2 := Aside0.mk (And.intro hT hw); clear hT hw hb4))
  go_ret
  refine ⟨rfl, HE2.out.1, ?_⟩
  exact (((((HW2.out.drewN 1).mono (S' := fun k => k ∈ (Tr.nd (b, x) r (.nd (b', y) (.nd (b'', z) c2 c1) a)).blks) (fun k hk => by rw [hk]; simp [Tr.blks_nd])).trans HE.out.2 (fun k hk => .inl (by rcases hk with rfl | rfl <;> simp [Tr.blks_nd]))).set (g := b) (by simp [Tr.blks_nd]) 4 _).trans HE2.out.2 (fun k hk => .inl (by rcases hk with rfl | rfl <;> simp [Tr.blks_nd])))
end Go.Proofs.Ytdjfjmcnghfdkaa.My
