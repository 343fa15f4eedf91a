/- frame.Next and the reference's Next. -/
import Derived.Test.YtfaniohoplbdoaaMD
namespace Go.Proofs.Ytfaniohoplbdoaa.My
open Go Go.RowKit Go.Proofs.YtfaniohoplbdoaaW.PrintWords Go.Proofs.YtfaniohoplbdoaaW.PrintLast Go.Proofs.YtfaniohoplbdoaaW.PrintMore
set_option linter.unusedVariables false
set_option linter.unusedSimpArgs false

/-! ### slices of bytes that are read: cut -/
theorem cutB_from (A : Option Addr) (c : Nat) (l : List Int) (lo : Nat) (j : Int) (hj : j = (lo : Int)) (hc : l.length ≤ c) (h : lo ≤ l.length) :
    ∃ A', (∀ W : World, (Instr.slice 22 (.slice A l.length c) (some (.int .i64 j)) none none).run Try.prog W = .ok (.slice A' (l.drop lo).length (c - lo)) W) ∧ ∀ w, CB w A l → CB w A' (l.drop lo) := by
  subst hj
  obtain ⟨i0, hi0, _, hsz, _⟩ := info_parts info5
  have h1 := cut_from (P := Try.prog) 22 5 .i64 Try.underlying22 hi0 1 hsz A l.length c (lo : Int) (by omega) (by omega)
  rw [Int.toNat_natCast] at h1
  refine ⟨_, fun W => ?_, fun w hC => Kd.C_drop hC h hc⟩
  rw [h1 W, List.length_drop]
  rfl
theorem cutB_to (A : Option Addr) (c : Nat) (l : List Int) (hi : Nat) (j : Int) (hj : j = (hi : Int)) (hc : l.length ≤ c) (h : hi ≤ l.length) :
    (∀ W : World, (Instr.slice 22 (.slice A l.length c) none (some (.int .i64 j)) none).run Try.prog W = .ok (.slice A (l.take hi).length c) W) ∧ ∀ w, CB w A l → CB w A (l.take hi) := by
  subst hj
  obtain ⟨i0, hi0, _, hsz, _⟩ := info_parts info5
  have h1 := cut_to (P := Try.prog) 22 5 .i64 Try.underlying22 hi0 A l.length c (hi : Int) (by omega) (by omega) hc
  rw [Int.toNat_natCast] at h1
  refine ⟨fun W => ?_, fun w hC => Kd.C_take hC h⟩
  rw [h1 W, List.length_take, Nat.min_eq_left h]
theorem cutB_mid (A : Option Addr) (c : Nat) (l : List Int) (lo n : Nat) (j k : Int) (hj : j = (lo : Int)) (hk : k = ((lo + n : Nat) : Int)) (hc : l.length ≤ c) (h : lo + n ≤ l.length) :
    ∃ A', (∀ W : World, (Instr.slice 22 (.slice A l.length c) (some (.int .i64 j)) (some (.int .i64 k)) none).run Try.prog W = .ok (.slice A' ((l.drop lo).take n).length (c - lo)) W) ∧ ∀ w, CB w A l → CB w A' ((l.drop lo).take n) := by
  subst hj
  subst hk
  obtain ⟨i0, hi0, _, hsz, _⟩ := info_parts info5
  have h1 := cut_mid (P := Try.prog) 22 5 .i64 .i64 Try.underlying22 hi0 1 hsz A l.length c (lo : Int) ((lo + n : Nat) : Int) (by omega) (by omega) (by omega) hc
  rw [Int.toNat_natCast, Int.toNat_natCast] at h1
  refine ⟨_, fun W => ?_, fun w hC => Kd.C_take (Kd.C_drop hC (by omega) hc) (by rw [List.length_drop]; omega)⟩
  rw [h1 W, List.length_take, List.length_drop, show min n (l.length - lo) = lo + n - lo from by omega]
  rfl
theorem splice_whole {z m : List Int} (h : z.length ≤ m.length) : splice (bts z) 0 (bts m) = bts m := by
  unfold splice
  rw [List.take_zero, List.nil_append, List.drop_of_length_le (by rw [Nat.zero_add, bts_len, bts_len]; exact h), List.append_nil]
abbrev NextPost (w : World) (l : List Int) (at_ : Int) : Ending → World → Prop := fun e w' => ∃ v, e = .returned (.tuple #[v, .int .i64 (nextL l at_).2.1, .int .i64 (nextL l at_).2.2]) ∧ RB w' w.heap.size v (nextL l at_).1 ∧ Below w.heap.size w w'
theorem NextPost.err {w : World} {l : List Int} {at_ c : Int} (h : nextL l at_ = ([], 0, c)) (w' : World) (hw : Below w.heap.size w w') : NextPost w l at_ (.returned (.tuple #[.slice none 0 0, .int .i64 0, .int .i64 c])) w' := by
  unfold NextPost
  rw [h]
  exact ⟨_, rfl, Kd.R_nil _ _ _ _ _, hw⟩
theorem fNext_range (A : Option Addr) (c : Nat) (l : List Int) (at_ : Int) (w : World) (hm : l.length ≤ 9223372036854775807) (h : at_ < 0 ∨ (l.length : Int) < at_) :
    Calls Try.prog 26 #[.slice A l.length c, .int .i64 at_] w (NextPost w l at_) := by
  have hn : nextL l at_ = ([], 0, 6) := by unfold nextL; rw [if_pos h]
  have HN := Aside0.mk hn
  clear hn
  by_cases h0 : at_ < 0
  · go_enter Try.func26, Try.ntmps26
    go_wp2
    go_ret3
    exact NextPost.err HN.out _ (by repeat (first | exact Below.refl _ _ | apply pw_below_drewN | apply below_drew))
  · have h1 : (l.length : Int) < at_ := by omega
    clear h
    go_enter Try.func26, Try.ntmps26
    go_wp2
    go_ret3
    exact NextPost.err HN.out _ (by repeat (first | exact Below.refl _ _ | apply pw_below_drewN | apply below_drew))
set_option maxHeartbeats 1000000 in
set_option maxRecDepth 100000 in
theorem fNext_in (A : Option Addr) (c : Nat) (l : List Int) (k : Nat) (w : World) (hC : CB w A l) (hc : l.length ≤ c) (hb : Byt l) (hk : k ≤ l.length) :
    Calls Try.prog 26 #[.slice A l.length c, .int .i64 (k : Int)] w (NextPost w l (k : Int)) := by
  have hm := Kd.C_max hC
  have hn : nextL l (k : Int) = if (peek (l.drop k)).1 = 0 then ((peek (l.drop k)).2, (k : Int) + 8 + (num4 (l.drop k) : Int), 0) else ([], 0, (peek (l.drop k)).1) := by
    unfold nextL
    rw [if_neg (by omega), Int.toNat_natCast]
  have HN := Aside0.mk hn
  obtain ⟨A7, hcut, hC7⟩ := cutB_from A c l k k rfl hc hk
  have HC := Aside0.mk (hC7 w hC)
  have HB := Aside0.mk (hb.drop k)
  have hfc : (l.drop k).length ≤ c - k := by rw [List.length_drop]; omega
  have hfl : k + (l.drop k).length ≤ 9223372036854775807 := by rw [List.length_drop]; omega
  have hkl : ¬ (k : Int) < 0 := by omega
  clear hC7 hC hb hn
  generalize l.drop k = f at hcut HC HB hfc hfl HN
  by_cases h8 : f.length < 8
  · have hp : peek f = (2, []) := by unfold peek; rw [if_pos h8]
    have HP := Aside0.mk hp
    clear hp
    go_enter Try.func26, Try.ntmps26
    go_wp2
    go_ret3
    exact NextPost.err (by rw [HN.out, HP.out]; rfl) _ (by repeat (first | exact Below.refl _ _ | apply pw_below_drewN | apply below_drew))
  have HG := Aside0.mk (get_calls A7 (c - k) f w HC.out hfc HB.out (by omega))
  have hlt := num4_lt HB.out
  by_cases h20 : 1048576 < num4 f
  · have hp : peek f = (5, []) := by unfold peek; rw [if_neg h8, if_pos h20]
    have HP := Aside0.mk hp
    clear hp
    go_enter Try.func26, Try.ntmps26
    go_wp2_with (go_at_call 73; refine HG.out.mono ?_; rintro e w' ⟨rfl, n, rfl⟩)
    go_ret3
    exact NextPost.err (by rw [HN.out, HP.out]; rfl) _ (by repeat (first | exact Below.refl _ _ | apply pw_below_drewN | apply below_drew))
  by_cases hs : f.length - 8 < num4 f
  · have hp : peek f = (2, []) := by unfold peek; rw [if_neg h8, if_neg h20, if_pos hs]
    have HP := Aside0.mk hp
    clear hp
    go_enter Try.func26, Try.ntmps26
    go_wp2_with (go_at_call 73; refine HG.out.mono ?_; rintro e w' ⟨rfl, n, rfl⟩)
    go_ret3
    exact NextPost.err (by rw [HN.out, HP.out]; rfl) _ (by repeat (first | exact Below.refl _ _ | apply pw_below_drewN | apply below_drew))
  obtain ⟨A4, hcut4, hC4⟩ := cutB_from A7 (c - k) f 4 4 rfl hfc (by omega)
  obtain ⟨hcut5, hC5⟩ := cutB_to A7 (c - k) f 4 4 rfl hfc (by omega)
  obtain ⟨A6, hcut6, hC6⟩ := cutB_mid A7 (c - k) f 8 (num4 f) 8 (8 + (num4 f : Int)) rfl (by omega) hfc (by omega)
  obtain ⟨A8, hcut8, hC8⟩ := cutB_from A7 (c - k) f 8 8 rfl hfc (by omega)
  have HC4 := Aside0.mk (hC4 w HC.out)
  have HC5 := Aside0.mk (hC5 w HC.out)
  have HC6 := Aside0.mk (hC6 w HC.out)
  have HC8 := Aside0.mk (hC8 w HC.out)
  clear hC4 hC5 hC6 hC8
  have HL8 := Aside0.mk (show num4 f ≤ (f.drop 8).length by rw [List.length_drop]; omega)
  have HT := Aside0.mk (show ((f.drop 8).take (num4 f)).length = num4 f by rw [List.length_take, List.length_drop]; omega)
  have HP := Aside0.mk (show peek f = if num4 (f.drop 4) = sumL (f.take 4 ++ (f.drop 8).take (num4 f)) then (0, (f.drop 8).take (num4 f)) else (4, []) by unfold peek; rw [if_neg h8, if_neg h20, if_neg hs])
  have HG4 := Aside0.mk (fun w' (hw : Below w.heap.size w w') => get_calls A4 (c - k - 4) (f.drop 4) w' (Kd.C_below HC4.out hw) (by rw [List.length_drop]; omega) (HB.out.drop 4) (by rw [List.length_drop]; omega))
  have HS := Aside0.mk (fun w' (hw : Below w.heap.size w w') => fsum_calls A7 (c - k) (f.take 4) A6 (c - k - 8) ((f.drop 8).take (num4 f)) w' (Kd.C_below HC5.out hw) (by rw [List.length_take]; omega) (HB.out.take 4) (Kd.C_below HC6.out hw) (by rw [HT.out]; omega) ((HB.out.drop 8).take _))
  obtain ⟨m, hm6⟩ : ∃ m, m = (f.drop 8).take (num4 f) := ⟨_, rfl⟩
  rw [← hm6] at hcut6 HC6 HT HP HS
  have HM := Aside0.mk hm6
  clear hm6
  generalize f.drop 8 = f8 at hcut8 HC8 HL8 HM
  generalize f.drop 4 = f4 at hcut4 HC4 HG4 HP
  generalize f.take 4 = f5 at hcut5 HC5 HS HP
  go_enter Try.func26, Try.ntmps26
  go_wp2_with (go_at_call 73; refine HG.out.mono ?_; rintro e w' ⟨rfl, n, rfl⟩)
  clear HG
  refine start_ (n := 12) (S := fun _ => True) (ds := []) #[false, false, false, false, false, false, false, false, false, false, false, false] (by kernel_rfl) rfl rfl ?_ (fun hHeld => ?_)
  · trivial
  have hw8 : wrap64 (8 + (num4 f : Int)) = 8 + (num4 f : Int) := by unfold wrap64; omega
  refine pure_ (i := 0) (N := some 37) (v := ?_) (a' := ?_) #[true, false, false, false, false, false, false, false, false, false, false, false] rfl rfl (by kernel_rfl) (fun _ _ _ h => h) (Or.inl ⟨by rfl, ?_⟩) ?_ ?_
  rotate_left
  · intro w'
    go_simp
    with_reducible rfl
  rotate_left
  · simp only [Act.put, List.setIfInBounds_toArray, List.set_cons_zero, List.set_cons_succ, i64_w, i32_w]
    rfl
  refine pure_ (i := 1) (N := some 38) (v := ?_) (a' := ?_) #[true, true, false, false, false, false, false, false, false, false, false, false] rfl rfl (by kernel_rfl) (fun _ _ _ h => h) (Or.inl ⟨by rfl, ?_⟩) ?_ ?_
  rotate_left
  · intro w'
    go_simp
    with_reducible rfl
  rotate_left
  · simp only [Act.put, List.setIfInBounds_toArray, List.set_cons_zero, List.set_cons_succ, i64_w, i32_w]
    rfl
  refine pure_ (i := 3) (N := some 40) (v := ?_) (a' := ?_) #[true, true, false, true, false, false, false, false, false, false, false, false] rfl rfl (by kernel_rfl) (fun _ _ _ h => h) (Or.inl ⟨by rfl, ?_⟩) ?_ ?_
  rotate_left
  · intro w'
    go_simp
    with_reducible rfl
  rotate_left
  · simp only [Act.put, List.setIfInBounds_toArray, List.set_cons_zero, List.set_cons_succ, i64_w, i32_w]
    rfl
  refine pure_ (i := 4) (N := some 41) (v := ?_) (a' := ?_) #[true, true, false, true, true, false, false, false, false, false, false, false] rfl rfl (by kernel_rfl) (fun _ _ _ h => h) (Or.inl ⟨by rfl, ?_⟩) ?_ ?_
  rotate_left
  · intro w'
    go_simp
    with_reducible rfl
  rotate_left
  · simp only [Act.put, List.setIfInBounds_toArray, List.set_cons_zero, List.set_cons_succ, i64_w, i32_w]
    rfl
  refine pure_ (i := 5) (N := some 42) (v := ?_) (a' := ?_) #[true, true, false, true, true, true, false, false, false, false, false, false] rfl rfl (by kernel_rfl) (fun _ _ _ h => h) (Or.inl ⟨by rfl, ?_⟩) ?_ ?_
  rotate_left
  · intro w'
    go_simp
    with_reducible rfl
  rotate_left
  · simp only [Act.put, List.setIfInBounds_toArray, List.set_cons_zero, List.set_cons_succ, i64_w, i32_w]
    rfl
  refine pure_ (i := 6) (N := some 43) (v := ?_) (a' := ?_) #[true, true, false, true, true, true, true, false, false, false, false, false] rfl rfl (by kernel_rfl) (fun _ _ _ h => h) (Or.inl ⟨by rfl, ?_⟩) ?_ ?_
  rotate_left
  · intro w'
    go_simp
    with_reducible rfl
  rotate_left
  · simp only [Act.put, List.setIfInBounds_toArray, List.set_cons_zero, List.set_cons_succ, i64_w, i32_w]
    rfl
  refine pure_ (i := 7) (N := some 44) (v := ?_) (a' := ?_) #[true, true, false, true, true, true, true, true, false, false, false, false] rfl rfl (by kernel_rfl) (fun _ _ _ h => h) (Or.inl ⟨by rfl, ?_⟩) ?_ ?_
  rotate_left
  · intro w'
    go_simp
    with_reducible rfl
  rotate_left
  · simp only [Act.put, List.setIfInBounds_toArray, List.set_cons_zero, List.set_cons_succ, i64_w, i32_w]
    rfl
  refine pure_ (i := 8) (N := some 45) (v := ?_) (a' := ?_) #[true, true, false, true, true, true, true, true, true, false, false, false] rfl rfl (by kernel_rfl) (fun _ _ _ h => h) (Or.inl ⟨by rfl, ?_⟩) ?_ ?_
  rotate_left
  · intro w'
    go_simp
    with_reducible rfl
  rotate_left
  · simp only [Act.put, List.setIfInBounds_toArray, List.set_cons_zero, List.set_cons_succ, i64_w, i32_w]
    rfl
  refine one_ (i := 2) (N := some 39) #[true, true, true, true, true, true, true, true, true, false, false, false] rfl rfl (by kernel_rfl) (by decide) (fun K hK => ?_)
  refine goes_ Try.func73 (by kernel_rfl) rfl #[.slice A4 f4.length (c - k - 4)] (by rfl) rfl rfl (by (try simp only [List.map_toArray, List.map_cons, List.map_nil]); first | done | rfl) ?_
  refine (HG4.out _ (by repeat (first | exact Below.refl _ _ | apply pw_below_drewN | apply below_drew))).mono ?_
  rintro e w' ⟨rfl, n2, rfl⟩
  refine ⟨_, rfl, hK.out _ _ trivial (fun _ => ?_)⟩
  clear hK K hw8
  refine norm_ (a' := ?_) ?_ ?_
  rotate_left
  · show Act.put _ (some 39) _ = _
    simp only [Act.put, List.setIfInBounds_toArray, List.set_cons_zero, List.set_cons_succ, i64_w, i32_w]
    rfl
  refine one_ (i := 9) (N := some 46) #[true, true, true, true, true, true, true, true, true, true, false, false] rfl rfl (by kernel_rfl) (by decide) (fun K hK => ?_)
  refine goes_ Try.func71 (by kernel_rfl) rfl #[.slice A7 f5.length (c - k), .slice A6 m.length (c - k - 8)] (by rfl) rfl rfl (by (try simp only [List.map_toArray, List.map_cons, List.map_nil]); first | done | rfl) ?_
  refine (HS.out _ (by repeat (first | exact Below.refl _ _ | apply pw_below_drewN | apply below_drew))).mono ?_
  rintro e w' ⟨rfl, n3, rfl⟩
  refine ⟨_, rfl, hK.out _ _ trivial (fun _ => ?_)⟩
  clear hK K
  refine norm_ (a' := ?_) ?_ ?_
  rotate_left
  · show Act.put _ (some 46) _ = _
    simp only [Act.put, List.setIfInBounds_toArray, List.set_cons_zero, List.set_cons_succ, i64_w, i32_w]
    rfl
  refine pure_ (i := 10) (N := some 47) (v := ?_) (a' := ?_) #[true, true, true, true, true, true, true, true, true, true, true, false] rfl rfl (by kernel_rfl) (fun _ _ _ h => h) (Or.inl ⟨by rfl, ?_⟩) ?_ ?_
  rotate_left
  · intro w'
    go_simp
    with_reducible rfl
  rotate_left
  · simp only [Act.put, List.setIfInBounds_toArray, List.set_cons_zero, List.set_cons_succ, i64_w, i32_w]
    rfl
  refine pure_ (i := 11) (N := some 36) (v := ?_) (a' := ?_) #[true, true, true, true, true, true, true, true, true, true, true, true] rfl rfl (by kernel_rfl) (fun _ _ _ h => h) (Or.inl ⟨by rfl, ?_⟩) ?_ ?_
  rotate_left
  · intro w'
    go_simp
    with_reducible rfl
  rotate_left
  · simp only [Act.put, List.setIfInBounds_toArray, List.set_cons_zero, List.set_cons_succ, i64_w, i32_w]
    rfl
  refine done_ (by kernel_rfl) ?_
  have hmk := print_make (P := Try.prog) 22 5 .u8 1 Try.underlying22 info5 (by decide) (num4 f) (by omega)
  rw [made_bts] at hmk
  by_cases hq : num4 f4 = sumL (f5 ++ m)
  · have hb1 : ((num4 f4 : Int) != (sumL (f5 ++ m) : Int)) = false := by rw [hq]; simp
    have HQ := Aside0.mk hq
    clear hq
    go_wp2_with (with_reducible refine wpList_copy_splice rfl (.tmp 50) (.tmp 52) 22 22 rfl 5 Try.underlying22 (by kernel_rfl) _ _ _ _ _ _ rfl rfl w.heap.size 0 (bts (List.replicate (num4 f) 0)) 5 ?g1 (bts m) ?g2 ?g3 ?g4 (bts_one m) w.heap.size w ?g6 (Nat.le_refl _) ?_)
    case g1 => exact heap_alloc_new _ _
    case g2 => rw [bts_len, HT.out]; exact (Nat.min_eq_right HL8.out).symm
    case g3 =>
      have hsrc : 0 < (bts m).length → ∃ ad, A8 = some ad ∧ ∀ j v, (bts m)[j]? = some v → ((w.drewN (n + 1 + n2 + n3)).alloc (Obj.cells (bts (List.replicate (num4 f) 0)).toArray 5)).cell? (ad.add j) = some v := by
        have h1 := Kd.C_take HC8.out HL8.out
        rw [← HM.out] at h1
        exact CB.src (Kd.C_alloc (Kd.C_drewN h1 _) _)
      first | exact fun hp => ⟨rfl, hsrc hp⟩ | exact hsrc
    case g4 => rw [bts_len, bts_len, HT.out, List.length_replicate]; omega
    case g6 => exact below_alloc (pw_below_drewN (Below.refl _ _) _) _
    intro w5 hg5 hb5
    have hg5' := hg5.out
    rw [splice_whole (by rw [HT.out, List.length_replicate]; exact Nat.le_refl _)] at hg5'
    have hr := RB_of_blk (base := w.heap.size) (l := m) hg5' (Nat.le_refl _) (by rw [HT.out]; omega)
    rw [HT.out] at hr
    have HR := Aside0.mk hr
    have HB5 := Aside0.mk hb5
    have hpk : nextL l (k : Int) = (m, (k : Int) + 8 + (num4 f : Int), 0) := by rw [HN.out, HP.out, if_pos HQ.out]; rfl
    have HK := Aside0.mk hpk
    clear hg5 hg5' hb5 hr hpk hmk
    have hkw : ((num4 f : Nat) : Int) ≤ f.length - 8 := by omega
    go_wp2
    go_ret3
    unfold NextPost
    rw [HK.out]
    exact ⟨_, rfl, HR.out, HB5.out⟩
  · have hb1 : ((num4 f4 : Int) != (sumL (f5 ++ m) : Int)) = true := by simp; omega
    rw [if_neg hq] at HP
    clear hq
    go_wp2
    go_ret3
    exact NextPost.err (by rw [HN.out, HP.out]; rfl) _ (by repeat (first | exact Below.refl _ _ | apply pw_below_drewN | apply below_drew))
end Go.Proofs.Ytfaniohoplbdoaa.My
