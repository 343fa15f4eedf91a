/- The reference of layer 10: Next. -/
import Derived.Test.YtfaniohoplbdoaaMG
import Derived.Test.YtfaniohoplbdoaaPFrameNextx1
namespace Go.Proofs.Ytfaniohoplbdoaa.My
open Go Go.RowKit Go.Proofs.YtfaniohoplbdoaaW.PrintWords Go.Proofs.YtfaniohoplbdoaaW.PrintLast Go.Proofs.YtfaniohoplbdoaaW.PrintMore
set_option linter.unusedVariables false
set_option linter.unusedSimpArgs false
theorem app_bts_step {ops : Array Oper} {o : Oper} {a : Act} {Q : Exit → Act → World → Prop} {Kc : Act → World → Prop} {w0 W : World} (base : Nat) (hw : Region.wanted o (yielded ops a.tmps) = true) (s x : Operand)
    (ho : o.op = .call { callee := .builtin .append, args := #[s, x], argTypes := #[22, 22] }) (v : Value) (xs ys : List Int) (A : Option Addr) (c : Nat) (hs : a.eval s = v) (hx : a.eval x = .slice A ys.length c)
    (HO : RB W base v xs) (HR : CB W A ys) (HB : Below base w0 W) (hbase : base ≤ W.heap.size) (hl : xs.length + ys.length ≤ 140737488355328)
    (h : ∀ (zs : List Int) v1 w1, Aside0 (zs = xs ++ ys) → Aside0 (RB w1 base v1 zs) → Aside0 (Below base w0 w1) → Kc (a.put o.dst v1) w1) : if Region.wanted o (yielded ops a.tmps) = true then Oper.wp Try.prog o a W Kc Q else Kc (a.put o.dst undef) W :=
  Kd.R_append_rows_step (Kd.int .u8) base hw s x 22 5 (.int .u8 0) 1 ho Try.underlying22 info5 rfl (by decide) (by decide) v xs ys A ys.length c (fun _ => True) (fun _ => False) hs hx HO HR (fun _ _ h => h) (fun _ h => h.elim) (fun _ _ => trivial) HB hbase (by omega)
    (fun v1 w1 h1 h2 _ _ => h _ v1 w1 ⟨rfl⟩ ⟨h1⟩ ⟨h2⟩)
theorem lit_bts_step {ops : Array Oper} {o : Oper} {a : Act} {Q : Exit → Act → World → Prop} {Kc : Act → World → Prop} {W : World} (hw : Region.wanted o (yielded ops a.tmps) = true) (ho : o.op = .buildSlice 22 0 #[])
    (h : ∀ v1 w1, Aside0 (RB w1 W.heap.size v1 []) → Aside0 (Below W.heap.size W w1) → Kc (a.put o.dst v1) w1) : if Region.wanted o (yielded ops a.tmps) = true then Oper.wp Try.prog o a W Kc Q else Kc (a.put o.dst undef) W := by
  rw [if_pos hw]
  unfold Oper.wp execOp
  rw [ho]
  go_simp
  exact h _ _ ⟨RB_new W⟩ ⟨below_alloc (Below.refl _ _) _⟩
theorem number_calls (A : Option Addr) (c : Nat) (l : List Int) (w : World) (hC : CB w A l) (hc : l.length ≤ c) (hb : Byt l) (h4 : 4 ≤ l.length) :
    Calls Try.prog 74 #[.slice A l.length c] w fun e w' => e = .returned (.int .u32 (num4 l : Nat)) ∧ Drawn0 w w' := by
  refine PFrameNext.bitemporalref10_number.calls A c l _ w hC hc ?_
  obtain ⟨x, y, z, t, r, hx, hy, hz, ht, rfl⟩ := four_of hb h4
  unfold PFrameNext.bitemporalref10_number.f
  simp only [List.length_cons]
  rw [if_pos (by omega), if_pos (by omega), if_pos (by omega), if_pos (by omega)]
  simp only [rd, num4, List.getD_cons_zero, List.getD_cons_succ, Int.toNat_natCast, show Int.toNat 0 = 0 from rfl, show Int.toNat 1 = 1 from rfl, show Int.toNat 2 = 2 from rfl, show Int.toNat 3 = 3 from rfl]
  congr 1
  omega
theorem rNext_range (A : Option Addr) (c : Nat) (l : List Int) (at_ : Int) (w : World) (hm : l.length ≤ 9223372036854775807) (h : at_ < 0 ∨ (l.length : Int) < at_) :
    Calls Try.prog 27 #[.slice A l.length c, .int .i64 at_] w (NextPost w l at_) := by
  have hn : nextL l at_ = ([], 0, 6) := by unfold nextL; rw [if_pos h]
  have HN := Aside0.mk hn
  clear hn
  by_cases h0 : at_ < 0
  · go_enter Try.func27, Try.ntmps27
    go_wp2
    go_ret3
    exact NextPost.err HN.out _ (Below.refl _ _)
  · have h1 : (l.length : Int) < at_ := by omega
    clear h
    go_enter Try.func27, Try.ntmps27
    go_wp2
    go_ret3
    exact NextPost.err HN.out _ (Below.refl _ _)
set_option maxHeartbeats 1000000 in
set_option maxRecDepth 100000 in
theorem rNext_in (A : Option Addr) (c : Nat) (l : List Int) (k : Nat) (w : World) (hC : CB w A l) (hc : l.length ≤ c) (hb : Byt l) (hk : k ≤ l.length) :
    Calls Try.prog 27 #[.slice A l.length c, .int .i64 (k : Int)] w (NextPost w l (k : Int)) := by
  have hm := Kd.C_max hC
  have hn : nextL l (k : Int) = if (peek (l.drop k)).1 = 0 then ((peek (l.drop k)).2, (k : Int) + 8 + (num4 (l.drop k) : Int), 0) else ([], 0, (peek (l.drop k)).1) := by
    unfold nextL
    rw [if_neg (by omega), Int.toNat_natCast]
  have HN := Aside0.mk hn
  have HC := Aside0.mk hC
  have HB := Aside0.mk hb
  have hkl : ¬ (k : Int) < 0 := by omega
  clear hC hb hn
  by_cases h8 : l.length - k < 8
  · have hp : peek (l.drop k) = (2, []) := by unfold peek; rw [if_pos (by rw [List.length_drop]; exact h8)]
    have HP := Aside0.mk hp
    clear hp
    go_enter Try.func27, Try.ntmps27
    go_wp2
    go_ret3
    exact NextPost.err (by rw [HN.out, HP.out]; rfl) _ (Below.refl _ _)
  obtain ⟨A4, hcut4, hC4⟩ := cutB_mid A c l k 4 k ((k : Int) + 4) rfl (by omega) hc (by omega)
  have HC4 := Aside0.mk (hC4 w HC.out)
  have hlt := num4_lt (HB.out.drop k)
  have HG := Aside0.mk (number_calls A4 (c - k) ((l.drop k).take 4) w HC4.out (by rw [List.length_take]; omega) ((HB.out.drop k).take 4) (by rw [List.length_take, List.length_drop]; omega))
  rw [num4_take _ _ (by omega)] at HG
  obtain ⟨n, hn⟩ : ∃ n, n = num4 (l.drop k) := ⟨_, rfl⟩
  rw [← hn] at hlt HG HN
  have HNN := Aside0.mk hn
  clear hn hC4
  obtain ⟨f5, hf5⟩ : ∃ f5, f5 = (l.drop k).take 4 := ⟨_, rfl⟩
  rw [← hf5] at hcut4 HC4 HG
  have HF5 := Aside0.mk hf5
  clear hf5
  by_cases h20 : 1048576 < n
  · have hp : peek (l.drop k) = (5, []) := by unfold peek; rw [if_neg (by rw [List.length_drop]; omega), if_pos (by rw [← HNN.out]; exact h20)]
    have HP := Aside0.mk hp
    clear hp
    go_enter Try.func27, Try.ntmps27
    go_wp2_with (go_at_call 74; refine HG.out.mono ?_; rintro e w' ⟨rfl, m, rfl⟩)
    go_ret3
    exact NextPost.err (by rw [HN.out, HP.out]; rfl) _ (pw_below_drewN (Below.refl _ _) _)
  by_cases hs : l.length - k - 8 < n
  · have hp : peek (l.drop k) = (2, []) := by unfold peek; rw [if_neg (by rw [List.length_drop]; omega), if_neg (by rw [← HNN.out]; exact h20), if_pos (by rw [← HNN.out, List.length_drop]; exact hs)]
    have HP := Aside0.mk hp
    clear hp
    go_enter Try.func27, Try.ntmps27
    go_wp2_with (go_at_call 74; refine HG.out.mono ?_; rintro e w' ⟨rfl, m, rfl⟩)
    go_ret3
    exact NextPost.err (by rw [HN.out, HP.out]; rfl) _ (pw_below_drewN (Below.refl _ _) _)
  obtain ⟨A6, hcut6, hC6⟩ := cutB_mid A c l (k + 8) n ((k : Int) + 8) ((k : Int) + 8 + n) (by omega) (by omega) hc (by omega)
  obtain ⟨A7, hcut7, hC7⟩ := cutB_mid A c l (k + 4) 4 ((k : Int) + 4) ((k : Int) + 8) (by omega) (by omega) hc (by omega)
  have HC6 := Aside0.mk (hC6 w HC.out)
  have HC7 := Aside0.mk (hC7 w HC.out)
  clear hC6 hC7
  have hm6 : ((l.drop (k + 8)).take n).length = n := by rw [List.length_take, List.length_drop]; omega
  obtain ⟨m, hm6e⟩ : ∃ m, m = (l.drop (k + 8)).take n := ⟨_, rfl⟩
  obtain ⟨f7, hf7⟩ : ∃ f7, f7 = (l.drop (k + 4)).take 4 := ⟨_, rfl⟩
  have HG7 := Aside0.mk (fun w' (hw : Below w.heap.size w w') => number_calls A7 (c - (k + 4)) ((l.drop (k + 4)).take 4) w' (Kd.C_below HC7.out hw) (by rw [List.length_take]; omega) ((HB.out.drop _).take 4) (by rw [List.length_take, List.length_drop]; omega))
  rw [num4_take _ _ (by omega)] at HG7
  have HP := Aside0.mk (show peek (l.drop k) = if num4 (l.drop (k + 4)) = sumL (f5 ++ m) then (0, m) else (4, []) by
    unfold peek
    rw [if_neg (by rw [List.length_drop]; omega), ← HNN.out, if_neg h20, if_neg (by rw [List.length_drop]; omega), List.drop_drop, List.drop_drop, HF5.out, hm6e])
  have HB5 := Aside0.mk (show Byt f5 by rw [HF5.out]; exact (HB.out.drop k).take 4)
  have HBm := Aside0.mk (show Byt m by rw [hm6e]; exact (HB.out.drop _).take n)
  have HL5 := Aside0.mk (show f5.length = 4 by rw [HF5.out, List.length_take, List.length_drop]; omega)
  rw [← hm6e] at hcut6 HC6 hm6
  rw [← hf7] at hcut7 HC7 HG7
  have HL6 := Aside0.mk hm6
  generalize num4 (l.drop (k + 4)) = s7 at HP HG7
  clear hm6 hm6e hf7
  go_enter Try.func27, Try.ntmps27
  go_wp2_with (first | (go_at_call 74; refine HG.out.mono ?_; rintro e w' ⟨rfl, n1, rfl⟩; clear HG) | ((with_reducible refine gate_dst (N := 47) rfl ?_); refine app_bts (w0 := w) w.heap.size rfl (.tmp 38) (.tmp 46) rfl _ [] m A6 _ rfl rfl (Kd.R_lower (RB_new _) (by simp)) (Kd.C_alloc (Kd.C_drewN HC6.out n1) _) (below_alloc (pw_below_drewN (Below.refl _ _) n1) _) (by simp) (by rw [HL6.out]; simp; omega) ?_; intro l8 v8 w3 E8 HR8 HW8; obtain ⟨A8, c8, rfl⟩ := Kd.R_slice HR8.out) | fail)
  have hw4 : wrap64 ((k : Int) + 4) = (k : Int) + 4 := by unfold wrap64; omega
  have hw8 : wrap64 ((k : Int) + 8) = (k : Int) + 8 := by unfold wrap64; omega
  refine start_ (n := 18) (S := fun _ => True) (ds := []) #[false, false, false, false, false, false, false, false, false, false, false, false, false, false, false, false, false, false] (by kernel_rfl) rfl rfl ?_ (fun hHeld => ?_)
  · trivial
  refine pure_ (i := 1) (N := some 49) (v := ?_) (a' := ?_) #[false, true, false, false, false, false, false, false, false, false, false, false, false, false, false, false, false, false] rfl rfl (by kernel_rfl) (fun _ _ _ h => h) (Or.inl ⟨by rfl, ?_⟩) ?_ ?_
  rotate_left
  · intro w'
    go_simp
    with_reducible rfl
  rotate_left
  · simp only [Act.put, List.setIfInBounds_toArray, List.set_cons_zero, List.set_cons_succ, i64_w, i32_w]
    rfl
  refine pure_ (i := 2) (N := some 50) (v := ?_) (a' := ?_) #[false, true, true, false, false, false, false, false, false, false, false, false, false, false, false, false, false, false] rfl rfl (by kernel_rfl) (fun _ _ _ h => h) (Or.inl ⟨by rfl, ?_⟩) ?_ ?_
  rotate_left
  · intro w'
    go_simp
    with_reducible rfl
  rotate_left
  · simp only [Act.put, List.setIfInBounds_toArray, List.set_cons_zero, List.set_cons_succ, i64_w, i32_w]
    rfl
  refine pure_ (i := 3) (N := some 51) (v := ?_) (a' := ?_) #[false, true, true, true, false, false, false, false, false, false, false, false, false, false, false, false, false, false] rfl rfl (by kernel_rfl) (fun _ _ _ h => h) (Or.inl ⟨by rfl, ?_⟩) ?_ ?_
  rotate_left
  · intro w'
    go_simp
    with_reducible rfl
  rotate_left
  · simp only [Act.put, List.setIfInBounds_toArray, List.set_cons_zero, List.set_cons_succ, i64_w, i32_w]
    rfl
  refine pure_ (i := 4) (N := some 52) (v := ?_) (a' := ?_) #[false, true, true, true, true, false, false, false, false, false, false, false, false, false, false, false, false, false] rfl rfl (by kernel_rfl) (fun _ _ _ h => h) (Or.inl ⟨by rfl, ?_⟩) ?_ ?_
  rotate_left
  · intro w'
    go_simp
    with_reducible rfl
  rotate_left
  · simp only [Act.put, List.setIfInBounds_toArray, List.set_cons_zero, List.set_cons_succ, i64_w, i32_w]
    rfl
  refine pure_ (i := 5) (N := some 53) (v := ?_) (a' := ?_) #[false, true, true, true, true, true, false, false, false, false, false, false, false, false, false, false, false, false] rfl rfl (by kernel_rfl) (fun _ _ _ h => h) (Or.inl ⟨by rfl, ?_⟩) ?_ ?_
  rotate_left
  · intro w'
    go_simp
    with_reducible rfl
  rotate_left
  · simp only [Act.put, List.setIfInBounds_toArray, List.set_cons_zero, List.set_cons_succ, i64_w, i32_w]
    rfl
  refine pure_ (i := 7) (N := some 55) (v := ?_) (a' := ?_) #[false, true, true, true, true, true, false, true, false, false, false, false, false, false, false, false, false, false] rfl rfl (by kernel_rfl) (fun _ _ _ h => h) (Or.inl ⟨by rfl, ?_⟩) ?_ ?_
  rotate_left
  · intro w'
    go_simp
    with_reducible rfl
  rotate_left
  · simp only [Act.put, List.setIfInBounds_toArray, List.set_cons_zero, List.set_cons_succ, i64_w, i32_w]
    rfl
  refine pure_ (i := 10) (N := some 58) (v := ?_) (a' := ?_) #[false, true, true, true, true, true, false, true, false, false, true, false, false, false, false, false, false, false] rfl rfl (by kernel_rfl) (fun _ _ _ h => h) (Or.inl ⟨by rfl, ?_⟩) ?_ ?_
  rotate_left
  · intro w'
    go_simp
    with_reducible rfl
  rotate_left
  · simp only [Act.put, List.setIfInBounds_toArray, List.set_cons_zero, List.set_cons_succ, i64_w, i32_w]
    rfl
  refine pure_ (i := 11) (N := some 59) (v := ?_) (a' := ?_) #[false, true, true, true, true, true, false, true, false, false, true, true, false, false, false, false, false, false] rfl rfl (by kernel_rfl) (fun _ _ _ h => h) (Or.inl ⟨by rfl, ?_⟩) ?_ ?_
  rotate_left
  · intro w'
    go_simp
    with_reducible rfl
  rotate_left
  · simp only [Act.put, List.setIfInBounds_toArray, List.set_cons_zero, List.set_cons_succ, i64_w, i32_w]
    rfl
  refine pure_ (i := 12) (N := some 60) (v := ?_) (a' := ?_) #[false, true, true, true, true, true, false, true, false, false, true, true, true, false, false, false, false, false] rfl rfl (by kernel_rfl) (fun _ _ _ h => h) (Or.inl ⟨by rfl, ?_⟩) ?_ ?_
  rotate_left
  · intro w'
    go_simp
    with_reducible rfl
  rotate_left
  · simp only [Act.put, List.setIfInBounds_toArray, List.set_cons_zero, List.set_cons_succ, i64_w, i32_w]
    rfl
  refine pure_ (i := 13) (N := some 61) (v := ?_) (a' := ?_) #[false, true, true, true, true, true, false, true, false, false, true, true, true, true, false, false, false, false] rfl rfl (by kernel_rfl) (fun _ _ _ h => h) (Or.inl ⟨by rfl, ?_⟩) ?_ ?_
  rotate_left
  · intro w'
    go_simp
    with_reducible rfl
  rotate_left
  · simp only [Act.put, List.setIfInBounds_toArray, List.set_cons_zero, List.set_cons_succ, i64_w, i32_w]
    rfl
  refine pure_ (i := 14) (N := some 62) (v := ?_) (a' := ?_) #[false, true, true, true, true, true, false, true, false, false, true, true, true, true, true, false, false, false] rfl rfl (by kernel_rfl) (fun _ _ _ h => h) (Or.inl ⟨by rfl, ?_⟩) ?_ ?_
  rotate_left
  · intro w'
    go_simp
    with_reducible rfl
  rotate_left
  · simp only [Act.put, List.setIfInBounds_toArray, List.set_cons_zero, List.set_cons_succ, i64_w, i32_w]
    rfl
  refine pure_ (i := 15) (N := some 63) (v := ?_) (a' := ?_) #[false, true, true, true, true, true, false, true, false, false, true, true, true, true, true, true, false, false] rfl rfl (by kernel_rfl) (fun _ _ _ h => h) (Or.inl ⟨by rfl, ?_⟩) ?_ ?_
  rotate_left
  · intro w'
    go_simp
    with_reducible rfl
  rotate_left
  · simp only [Act.put, List.setIfInBounds_toArray, List.set_cons_zero, List.set_cons_succ, i64_w, i32_w]
    rfl
  clear hw4 hw8
  have HW9 := Aside0.mk (below_drew HW8.out)
  have HR9 := Aside0.mk (Kd.R_drew HR8.out)
  generalize w3.drew = w9 at HW9 HR9
  clear HW8 HR8
  refine one_ (i := 0) (N := some 48) #[true, true, true, true, true, true, false, true, false, false, true, true, true, true, true, true, false, false] rfl rfl (by kernel_rfl) (by decide) (fun K hK => ?_)
  refine lit_bts_step (by rfl) (by rfl) ?_
  intro v48 w4 HR48 HW48
  refine hK.out _ _ trivial (fun _ => ?_)
  clear hK K
  refine norm_ (a' := ?_) ?_ ?_
  rotate_left
  · show Act.put _ (some 48) _ = _
    simp only [Act.put, List.setIfInBounds_toArray, List.set_cons_zero, List.set_cons_succ, i64_w, i32_w]
    rfl
  have HW4 := Aside0.mk (below_then HW9.out HW9.out.size HW48.out)
  refine one_ (i := 6) (N := some 54) #[true, true, true, true, true, true, true, true, false, false, true, true, true, true, true, true, false, false] rfl rfl (by kernel_rfl) (by decide) (fun K hK => ?_)
  refine app_bts_step (w0 := w9) w9.heap.size (by rfl) (.tmp 48) (.tmp 53) (by rfl) v48 [] f5 A4 _ rfl rfl HR48.out (Kd.C_below HC4.out HW4.out) HW48.out HW48.out.size (by rw [HL5.out]; decide) ?_
  intro l54 v54 w5 E54 HR54 HW54
  refine hK.out _ _ trivial (fun _ => ?_)
  clear hK K HW4 HR48 HW48
  refine norm_ (a' := ?_) ?_ ?_
  rotate_left
  · show Act.put _ (some 54) _ = _
    simp only [Act.put, List.setIfInBounds_toArray, List.set_cons_zero, List.set_cons_succ, i64_w, i32_w]
    rfl
  have HC8 := Aside0.mk (Kd.R_reads' (Kd.R_below HR9.out HW54.out)).2.2
  refine one_ (i := 8) (N := some 56) #[true, true, true, true, true, true, true, true, true, false, true, true, true, true, true, true, false, false] rfl rfl (by kernel_rfl) (by decide) (fun K hK => ?_)
  refine app_bts_step (w0 := w9) w9.heap.size (by rfl) (.tmp 54) (.tmp 55) (by rfl) v54 l54 l8 A8 c8 rfl rfl HR54.out HC8.out HW54.out HW54.out.size (by rw [E54.out, E8.out, List.nil_append, List.nil_append, HL5.out, HL6.out]; omega) ?_
  intro l56 v56 w6 E56 HR56 HW56
  obtain ⟨A56, c56, rfl, hc56, hC56⟩ := Kd.R_reads HR56.out
  have HC56 := Aside0.mk hC56
  refine hK.out _ _ trivial (fun _ => ?_)
  clear hK K HR54 HW54 HC8 HR56 hC56
  refine norm_ (a' := ?_) ?_ ?_
  rotate_left
  · show Act.put _ (some 56) _ = _
    simp only [Act.put, List.setIfInBounds_toArray, List.set_cons_zero, List.set_cons_succ, i64_w, i32_w]
    rfl
  have HE56 := Aside0.mk (show l56 = f5 ++ m by rw [E56.out, E54.out, E8.out]; simp)
  clear E56 E54
  refine one_ (i := 9) (N := some 57) #[true, true, true, true, true, true, true, true, true, true, true, true, true, true, true, true, false, false] rfl rfl (by kernel_rfl) (by decide) (fun K hK => ?_)
  refine goes_ Try.func19 (by kernel_rfl) rfl #[.slice A56 l56.length c56] (by rfl) rfl rfl (by (try simp only [List.map_toArray, List.map_cons, List.map_nil]); first | done | rfl) ?_
  refine (rSum_calls A56 c56 l56 w6 HC56.out hc56 (by rw [HE56.out]; exact HB5.out.append HBm.out)).mono ?_
  rintro e w' ⟨rfl, n2, rfl⟩
  refine ⟨_, rfl, hK.out _ _ trivial (fun _ => ?_)⟩
  clear hK K HC56
  refine norm_ (a' := ?_) ?_ ?_
  rotate_left
  · show Act.put _ (some 57) _ = _
    simp only [Act.put, List.setIfInBounds_toArray, List.set_cons_zero, List.set_cons_succ, i64_w, i32_w]
    rfl
  have HW6 := Aside0.mk (below_then HW9.out HW9.out.size HW56.out)
  refine one_ (i := 16) (N := some 64) #[true, true, true, true, true, true, true, true, true, true, true, true, true, true, true, true, true, false] rfl rfl (by kernel_rfl) (by decide) (fun K hK => ?_)
  refine goes_ Try.func74 (by kernel_rfl) rfl #[.slice A7 f7.length (c - (k + 4))] (by rfl) rfl rfl (by (try simp only [List.map_toArray, List.map_cons, List.map_nil]); first | done | rfl) ?_
  refine (HG7.out _ (pw_below_drewN HW6.out n2)).mono ?_
  rintro e w' ⟨rfl, n3, rfl⟩
  refine ⟨_, rfl, hK.out _ _ trivial (fun _ => ?_)⟩
  clear hK K HG7
  refine norm_ (a' := ?_) ?_ ?_
  rotate_left
  · show Act.put _ (some 64) _ = _
    simp only [Act.put, List.setIfInBounds_toArray, List.set_cons_zero, List.set_cons_succ, i64_w, i32_w]
    rfl
  refine pure_ (i := 17) (N := some 65) (v := ?_) (a' := ?_) #[true, true, true, true, true, true, true, true, true, true, true, true, true, true, true, true, true, true] rfl rfl (by kernel_rfl) (fun _ _ _ h => h) (Or.inl ⟨by rfl, ?_⟩) ?_ ?_
  rotate_left
  · intro w'
    go_simp
    with_reducible rfl
  rotate_left
  · simp only [Act.put, List.setIfInBounds_toArray, List.set_cons_zero, List.set_cons_succ, i64_w, i32_w]
    rfl
  refine done_ (by kernel_rfl) ?_
  have HR7 := Aside0.mk (Kd.R_drewN (Kd.R_drewN (Kd.R_below HR9.out HW56.out) n2) n3)
  have HW7 := Aside0.mk (pw_below_drewN (pw_below_drewN HW6.out n2) n3)
  generalize ((w6.drewN n2).drewN n3) = w7 at HR7 HW7
  clear HW6 HR9 HW9 HW56
  rw [← HE56.out] at HP
  by_cases hq : s7 = sumL l56
  · have hb1 : ((sumL l56 : Int) != (s7 : Int)) = false := by rw [hq]; simp
    rw [if_pos hq] at HP
    have HL8 := Aside0.mk (show l8.length = n by rw [E8.out, List.nil_append, HL6.out])
    have hpk : nextL l (k : Int) = (l8, (k : Int) + 8 + (n : Int), 0) := by rw [HN.out, HP.out, E8.out]; rfl
    have HK := Aside0.mk hpk
    clear hq hpk
    go_wp2
    go_ret3
    unfold NextPost
    rw [HK.out]
    exact ⟨_, rfl, HR7.out, HW7.out⟩
  · have hb1 : ((sumL l56 : Int) != (s7 : Int)) = true := by simp; omega
    rw [if_neg hq] at HP
    clear hq
    go_wp2
    go_ret3
    exact NextPost.err (by rw [HN.out, HP.out]; rfl) _ HW7.out
end Go.Proofs.Ytfaniohoplbdoaa.My
