/- balance, whole. -/
import Derived.Test.YtdjfjmcnghfdkaaIE
namespace Go.Proofs.Ytdjfjmcnghfdkaa.My
open Go Go.RowKit Go.Proofs.YtdjfjmcnghfdkaaW.PrintWords Go.Proofs.YtdjfjmcnghfdkaaW.PrintLast Go.Proofs.YtdjfjmcnghfdkaaW.PrintMore Go.Proofs.Ytdjfjmcnghfdkaa.PItreeActs
set_option linter.unusedVariables false
set_option linter.unusedSimpArgs false
set_option maxHeartbeats 1000000 in
set_option maxRecDepth 100000 in
theorem balance_m (b : Nat) (x : S30) (l r : BT) (w : World) (h : Raw w b x l r) (hn : (Tr.nd (b, x) l r).blks.Nodup) (hh1 : l.ht ≤ 900000) (hh2 : r.ht ≤ 900000) (hd1 : l.ht ≤ r.ht + 1) (hd2 : r.ht ≤ l.ht + 1) :
    Calls Try.prog 39 #[.pointer (some ⟨b, 0, none⟩)] w (BalPost w (.nd (b, x) l r) (.nd (b, x) l r)) := by
  obtain ⟨n1, n2, n3, n4, n5⟩ := blks_nodup_nd hn
  have HF := Aside0.mk (fix_calls b x l r w h n3 n4 (by omega) (by omega))
  obtain ⟨nl, hnl⟩ : ∃ n, n = l.ht := ⟨_, rfl⟩
  obtain ⟨nr, hnr⟩ : ∃ n, n = r.ht := ⟨_, rfl⟩
  rw [← hnl, ← hnr] at hd1 hd2
  rw [← hnl] at hh1
  rw [← hnr] at hh2
  have QL := Aside0.mk hnl
  have QR := Aside0.mk hnr
  obtain ⟨vl, hvl⟩ := ptr_pointer l
  obtain ⟨vr, hvr⟩ := ptr_pointer r
  have HVL := Aside0.mk hvl
  have HVR := Aside0.mk hvr
  have HS1 := Aside0.mk (show IntKind.i64.wrap ((nl : Int) - (nr : Int)) = (nl : Int) - (nr : Int) by rw [i64_w]; unfold wrap64; omega)
  have HD1 := Aside0.mk (show decide (1 < (nl : Int) - (nr : Int)) = false by simp only [decide_eq_false_iff_not]; omega)
  have HD2 := Aside0.mk (show decide ((nl : Int) - (nr : Int) < -1) = false by simp only [decide_eq_false_iff_not]; omega)
  clear hnl hnr hd1 hd2 hn n1 n2 n3 n4 n5 hvl hvr h
  go_enter Try.func39, Try.ntmps39
  go_wp2_with (first | (go_at_call 46; with_reducible refine HF.out.mono ?_; rintro e w1 ⟨rfl, hT, hw⟩; have HT := Aside0.mk hT; have HW := Aside0.mk hw; clear hT hw HF) | fail)
  have HqL := Aside0.mk (levels_calls l w1.drew (HT.out.2.1.drewN 1))
  have HqR := Aside0.mk (levels_calls r w1.drew (HT.out.2.2.drewN 1))
  rw [HVL.out, ← QL.out] at HqL
  rw [HVR.out, ← QR.out] at HqR
  have hs1 := HS1.out
  refine start_ (n := 12) (S := fun w' => (w'.cell? ⟨b, 3, none⟩ = some (.pointer vl) ∧ w'.cell? ⟨b, 4, none⟩ = some (.pointer vr))) (ds := []) #[false, false, false, false, false, false, false, false, false, false, false, false] (by kernel_rfl) rfl rfl ?_ (fun hHeld => ?_)
  · exact ⟨(blk_cell HT.out.1 3).trans (congrArg some HVL.out), (blk_cell HT.out.1 4).trans (congrArg some HVR.out)⟩
  refine pure_ (i := 0) (N := some 6) (v := ?_) (a' := ?_) #[true, false, false, false, false, false, false, false, false, false, false, false] rfl rfl (by kernel_rfl) (fun _ _ _ h => h) (Or.inl ⟨by rfl, ?_⟩) ?_ ?_
  rotate_left
  · intro w'
    go_simp
    with_reducible rfl
  rotate_left
  · simp only [Act.put, List.setIfInBounds_toArray, List.set_cons_zero, List.set_cons_succ, i64_w, i32_w]
    rfl
  refine pure_ (i := 1) (N := some 7) (v := ?_) (a' := ?_) #[true, true, false, false, false, false, false, false, false, false, false, false] rfl rfl (by kernel_rfl) (fun _ _ _ h => h) (Or.inl ⟨by rfl, ?_⟩) ?_ ?_
  rotate_left
  · intro w'
    go_simp
    with_reducible rfl
  rotate_left
  · simp only [Act.put, List.setIfInBounds_toArray, List.set_cons_zero, List.set_cons_succ, i64_w, i32_w]
    rfl
  refine pure_ (i := 2) (N := some 8) (v := ?_) (a' := ?_) #[true, true, true, false, false, false, false, false, false, false, false, false] rfl rfl (by kernel_rfl) (fun _ _ _ h => h) (Or.inl ⟨by rfl, ?_⟩) ?_ ?_
  rotate_left
  · intro w'
    go_simp
    with_reducible rfl
  rotate_left
  · simp only [Act.put, List.setIfInBounds_toArray, List.set_cons_zero, List.set_cons_succ, i64_w, i32_w]
    rfl
  refine take_ (i := 3) (N := some 9) (v := ?_) (a' := ?_) #[true, true, true, true, false, false, false, false, false, false, false, false] rfl rfl (by kernel_rfl) (fun _ _ _ h => h) (Or.inl ⟨by rfl, ?_⟩) hHeld ?_ ?_
  rotate_left
  · rintro w' ⟨s0, s1⟩
    go_simp
    with_reducible rfl
  rotate_left
  · simp only [Act.put, List.setIfInBounds_toArray, List.set_cons_zero, List.set_cons_succ, i64_w, i32_w]
    rfl
  refine pure_ (i := 5) (N := some 11) (v := ?_) (a' := ?_) #[true, true, true, true, false, true, false, false, false, false, false, false] rfl rfl (by kernel_rfl) (fun _ _ _ h => h) (Or.inl ⟨by rfl, ?_⟩) ?_ ?_
  rotate_left
  · intro w'
    go_simp
    with_reducible rfl
  rotate_left
  · simp only [Act.put, List.setIfInBounds_toArray, List.set_cons_zero, List.set_cons_succ, i64_w, i32_w]
    rfl
  refine pure_ (i := 6) (N := some 12) (v := ?_) (a' := ?_) #[true, true, true, true, false, true, true, false, false, false, false, false] rfl rfl (by kernel_rfl) (fun _ _ _ h => h) (Or.inl ⟨by rfl, ?_⟩) ?_ ?_
  rotate_left
  · intro w'
    go_simp
    with_reducible rfl
  rotate_left
  · simp only [Act.put, List.setIfInBounds_toArray, List.set_cons_zero, List.set_cons_succ, i64_w, i32_w]
    rfl
  refine pure_ (i := 7) (N := some 13) (v := ?_) (a' := ?_) #[true, true, true, true, false, true, true, true, false, false, false, false] rfl rfl (by kernel_rfl) (fun _ _ _ h => h) (Or.inl ⟨by rfl, ?_⟩) ?_ ?_
  rotate_left
  · intro w'
    go_simp
    with_reducible rfl
  rotate_left
  · simp only [Act.put, List.setIfInBounds_toArray, List.set_cons_zero, List.set_cons_succ, i64_w, i32_w]
    rfl
  refine take_ (i := 8) (N := some 14) (v := ?_) (a' := ?_) #[true, true, true, true, false, true, true, true, true, false, false, false] rfl rfl (by kernel_rfl) (fun _ _ _ h => h) (Or.inl ⟨by rfl, ?_⟩) hHeld ?_ ?_
  rotate_left
  · rintro w' ⟨s0, s1⟩
    go_simp
    with_reducible rfl
  rotate_left
  · simp only [Act.put, List.setIfInBounds_toArray, List.set_cons_zero, List.set_cons_succ, i64_w, i32_w]
    rfl
  refine one_ (i := 4) (N := some 10) #[true, true, true, true, true, true, true, true, true, false, false, false] rfl rfl (by kernel_rfl) (by decide) (fun K hK => ?_)
  refine goes_ Try.func34 (by kernel_rfl) rfl #[.pointer vl] (by rfl) rfl rfl (by (try simp only [List.map_toArray, List.map_cons, List.map_nil]); first | done | rfl) ?_
  refine HqL.out.mono ?_
  rintro e _ ⟨rfl, rfl⟩
  refine ⟨_, rfl, hK.out _ _ ⟨(blk_cell HT.out.1 3).trans (congrArg some HVL.out), (blk_cell HT.out.1 4).trans (congrArg some HVR.out)⟩ (fun _ => ?_)⟩
  clear hK K
  refine norm_ (a' := ?_) ?_ ?_
  rotate_left
  · show Act.put _ (some 10) _ = _
    simp only [Act.put, List.setIfInBounds_toArray, List.set_cons_zero, List.set_cons_succ, i64_w, i32_w]
    rfl
  refine one_ (i := 9) (N := some 15) #[true, true, true, true, true, true, true, true, true, true, false, false] rfl rfl (by kernel_rfl) (by decide) (fun K hK => ?_)
  refine goes_ Try.func34 (by kernel_rfl) rfl #[.pointer vr] (by rfl) rfl rfl (by (try simp only [List.map_toArray, List.map_cons, List.map_nil]); first | done | rfl) ?_
  refine HqR.out.mono ?_
  rintro e _ ⟨rfl, rfl⟩
  refine ⟨_, rfl, hK.out _ _ ⟨(blk_cell HT.out.1 3).trans (congrArg some HVL.out), (blk_cell HT.out.1 4).trans (congrArg some HVR.out)⟩ (fun _ => ?_)⟩
  clear hK K
  refine norm_ (a' := ?_) ?_ ?_
  rotate_left
  · show Act.put _ (some 15) _ = _
    simp only [Act.put, List.setIfInBounds_toArray, List.set_cons_zero, List.set_cons_succ, i64_w, i32_w]
    rfl
  refine pure_ (i := 10) (N := some 16) (v := ?_) (a' := ?_) #[true, true, true, true, true, true, true, true, true, true, true, false] rfl rfl (by kernel_rfl) (fun _ _ _ h => h) (Or.inl ⟨by rfl, ?_⟩) ?_ ?_
  rotate_left
  · intro w'
    go_simp
    with_reducible rfl
  rotate_left
  · simp only [Act.put, List.setIfInBounds_toArray, List.set_cons_zero, List.set_cons_succ, i64_w, i32_w]
    rfl
  refine pure_ (i := 11) (N := some 3) (v := ?_) (a' := ?_) #[true, true, true, true, true, true, true, true, true, true, true, true] rfl rfl (by kernel_rfl) (fun _ _ _ h => h) (Or.inl ⟨by rfl, ?_⟩) ?_ ?_
  rotate_left
  · intro w'
    go_simp
    with_reducible rfl
  rotate_left
  · simp only [Act.put, List.setIfInBounds_toArray, List.set_cons_zero, List.set_cons_succ, i64_w, i32_w]
    rfl
  refine done_ (by kernel_rfl) ?_
  clear hs1
  have hd1 := HD1.out
  have hd2 := HD2.out
  go_wp2
  go_ret
  exact ⟨rfl, HT.out.drewN 1, (HW.out.mono (fun k hk => by rw [hk]; simp [Tr.blks_nd])).drewN 1⟩
theorem balance_calls (b : Nat) (x : S30) (l r : BT) (w : World) (h : Raw w b x l r) (hn : (Tr.nd (b, x) l r).blks.Nodup) (hh1 : l.ht ≤ 700000) (hh2 : r.ht ≤ 700000) :
    Calls Try.prog 39 #[.pointer (some ⟨b, 0, none⟩)] w (BalPost w (Tr.bal (b, x) l r) (.nd (b, x) l r)) := by
  unfold Tr.bal
  split
  · rename_i hd
    match l with
    | .nil => simp [Tr.ht] at hd
    | .nd (b', y) a c =>
      simp only [Tr.ht] at hh1 hd
      by_cases hac : (Tr.nd (b', y) a c).lft.ht < (Tr.nd (b', y) a c).rgt.ht
      · rw [if_pos hac]
        match c with
        | .nil => simp [Tr.ht, Tr.lft, Tr.rgt] at hac
        | .nd (b'', z) c1 c2 => exact balance_l2 b x b' y a _ r b'' z c1 c2 rfl w h hn (by omega) (by omega) (by omega) (by omega) hac
      · rw [if_neg hac]
        exact balance_l1 b x b' y a c r w h hn (by omega) (by omega) (by omega) (by omega) hac
  · split
    · rename_i hd
      match r with
      | .nil => simp [Tr.ht] at hd
      | .nd (b', y) c a =>
        simp only [Tr.ht] at hh2 hd
        by_cases hac : (Tr.nd (b', y) c a).rgt.ht < (Tr.nd (b', y) c a).lft.ht
        · rw [if_pos hac]
          match c with
          | .nil => simp [Tr.ht, Tr.lft, Tr.rgt] at hac
          | .nd (b'', z) c2 c1 => exact balance_r2 b x b' y a _ l b'' z c1 c2 rfl w h hn (by omega) (by omega) (by omega) (by omega) hac
        · rw [if_neg hac]
          exact balance_r1 b x b' y a c l w h hn (by omega) (by omega) (by omega) (by omega) hac
    · exact balance_m b x l r w h hn (by omega) (by omega) (by omega) (by omega)
end Go.Proofs.Ytdjfjmcnghfdkaa.My
