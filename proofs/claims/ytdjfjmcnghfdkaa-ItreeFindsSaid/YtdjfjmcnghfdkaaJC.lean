/- The statement ItreeFinds. -/
import Derived.Test.YtdjfjmcnghfdkaaIW
namespace Go.Proofs.Ytdjfjmcnghfdkaa.My
open Go Go.RowKit Go.Proofs.YtdjfjmcnghfdkaaW.PrintWords Go.Proofs.YtdjfjmcnghfdkaaW.PrintLast Go.Proofs.YtdjfjmcnghfdkaaW.PrintMore Go.Proofs.Ytdjfjmcnghfdkaa.PItreeActs
set_option linter.unusedVariables false
set_option linter.unusedSimpArgs false
set_option maxHeartbeats 4000000 in
set_option maxRecDepth 100000 in
theorem made_calls (A : Option Addr) (c : Nat) (l : List S46) (w0 w : World) (hw : Below w0.heap.size w0 w) (hl : Kd.C k46 w A l.length l) (hn : l.length ≤ 150) :
    Calls Try.prog 15 #[.slice A l.length c] w fun e w' => ∃ t n c' A' S X Q, e = .returned (.tuple #[.pointer (some ⟨t, 0, none⟩), .slice A' n c']) ∧ Pair w w' S X t (.slice A' n c') Q ∧ n = Q.list.length ∧ n ≤ 150 := by
  have hm := Kd.C_max hl
  have HL := Aside0.mk (fun (W : World) (hB : Below w.heap.size w W) => (show Kd.C k46 W A l.length l from Kd.C_below hl hB))
  have hu46 := Try.underlying46
  clear hl hw
  go_enter Try.func15, Try.ntmps15
  go_wp2_with (first
    | (go_at_call 10; refine (tnew_calls w).mono ?_; rintro e w1 ⟨t, rfl, hT, hB⟩; have HT := Aside0.mk hT; have HB := Aside0.mk hB; clear hT hB))
  go_loopw [5, 11] (fun u i wr => ∃ (k n c' : Nat) (A' : Option Addr), k ≤ l.length ∧ n ≤ k ∧ i = .int .i64 k ∧ u = .slice A' n c' ∧ Aside0 (∃ S X Q, Pair w wr S X t (.slice A' n c') Q ∧ n = Q.list.length)) (fun _ i _ => l.length - (intOf i).toNat)
  case atStart => exact ⟨0, 0, 0, none, by omega, by omega, rfl, rfl, ⟨_, _, .nil, Pair.start (Q := .nil) HT.out (fun k hk => hk.1) HB.out, rfl⟩⟩
  case round =>
    obtain ⟨k, n, c', A', hk, hnk, rfl, rfl, HP⟩ := hrel
    obtain ⟨S, X, Q, hP, hnq⟩ := HP.out
    have HPr := Aside0.mk hP
    have HNQ := Aside0.mk hnq
    have HPB := Aside0.mk hP.below
    clear HP hP hnq HT HB
    by_cases hlt : k < l.length
    · obtain ⟨ad, rfl, hc0, hc1, hc2, hc3⟩ := at_op (HL.out wr HPB.out) k hlt
      obtain ⟨o, ho⟩ : ∃ o, o = l[k] := ⟨_, rfl⟩
      rw [← ho] at hc0 hc1 hc2 hc3
      clear ho
      obtain ⟨wa, hwa⟩ : ∃ wa, wa = wr.alloc (.cells #[.int .i64 o.f0, .int .i64 o.f1.f0.f0, .int .i64 o.f1.f0.f1, .int .i64 o.f1.f1] 46) := ⟨_, rfl⟩
      have HWA := Aside0.mk hwa
      have HPa := Aside0.mk (HPr.out.move (w' := wa) (by rw [hwa]; exact below_alloc (Below.refl _ _) _))
      have HLen := Aside0.mk (len_stepT HPr.out.tree.2.ord o)
      clear hwa
      go_wp2_with (first
        | (go_at_call 22; rw [← HWA.out]; refine (do_calls w wa S X t _ Q o HPa.out (by have := HNQ.out; omega)).mono ?_; rintro e w2 ⟨u', S2, X2, rfl, hP2⟩
           have HP2 := Aside0.mk hP2
           obtain ⟨A2, c2, rfl⟩ := Kd.R_slice hP2.list.1
           obtain ⟨n2, hn2⟩ : ∃ n2, n2 = (stepT Q o).1.list.length := ⟨_, rfl⟩
           have HN2 := Aside0.mk hn2
           rw [← hn2]
           have hn2k : n2 ≤ k + 1 := by have := HLen.out; have := HNQ.out; omega
           clear hP2 hn2))
      go_roundw
      case rel => exact ⟨k + 1, n2, c2, A2, by omega, hn2k, by go_num, rfl, ⟨S2, X2, _, by rw [HN2.out]; exact HP2.out, HN2.out⟩⟩
      case measure => simp [intOf]; omega
    · go_wp2
      go_ret2
      exact ⟨t, n, c', A', S, X, Q, rfl, HPr.out, HNQ.out, by omega⟩
theorem stabR_calls (w : World) (A : Option Addr) (c n : Nat) (l : List S30) (at_ : Int) (hn : n = l.length) (h : l.length ≤ c ∧ Kd.C k30 w A l.length l) (hl : l.length ≤ 300000) :
    Calls Try.prog 17 #[.slice A n c, .int .i64 at_] w fun e w' => ∃ v, e = .returned v ∧ Kd.R (Kd.int .i64) 3 w' w.heap.size (fun _ => True) v (colR (fun z => decide (Hit ⟨at_, at_ + 1⟩ z)) [] l) ∧ Below w.heap.size w w' := by
  subst hn
  exact bitemporalref29_Stab.calls _ A c l at_ _ w h.2 h.1 (stab_f l at_ hl)
theorem overR_calls (w : World) (A : Option Addr) (c n : Nat) (l : List S30) (p : S28) (hn : n = l.length) (h : l.length ≤ c ∧ Kd.C k30 w A l.length l) (hl : l.length ≤ 300000) :
    Calls Try.prog 18 #[.slice A n c, .agg #[.int .i64 p.f0, .int .i64 p.f1]] w fun e w' => ∃ v, e = .returned v ∧ Kd.R (Kd.int .i64) 3 w' w.heap.size (fun _ => True) v (colR (fun z => vldB p && decide (Hit p z)) [] l) ∧ Below w.heap.size w w' := by
  subst hn
  exact bitemporalref29_Overlap.calls _ A c l p.f0 p.f1 _ w h.2 h.1 (overlap_f l p hl)
theorem ints_same (w : World) (A A' : Option Addr) (c c' n : Nat) (a : List Int) (hn : n = a.length) (h : n ≤ c) (h' : n ≤ c') (hC : Kd.C (Kd.int .i64) w A a.length a) (hC' : Kd.C (Kd.int .i64) w A' a.length a) (hl : a.length ≤ 1000000) :
    Calls Try.prog 16 #[.slice A n c, .slice A' n c'] w fun e w' => e = .returned (.bool true) ∧ Below w.heap.size w w' := by
  subst hn
  exact (ints_calls w A A' c c' a a hC hC' h h' hl).mono fun e w' ⟨he, hd⟩ => ⟨by rw [he]; simp, hd.below⟩
theorem HN.len {w : World} {base : Nat} {v : Value} {zs : List Int} (h : HN w base v zs) : zs.length ≤ 1000000 := by
  obtain ⟨A, c, rfl, hn, _⟩ := h
  exact hn
set_option maxHeartbeats 8000000 in
set_option maxRecDepth 100000 in
theorem law_finds (A : Option Addr) (c : Nat) (l : List S46) (at_ : Int) (p : S28) (w : World) (hl : Kd.C k46 w A l.length l) :
    Calls Try.prog 4 #[.slice A l.length c, .int .i64 at_, .agg #[.int .i64 p.f0, .int .i64 p.f1]] w (TruePost w) := by
  have hm := Kd.C_max hl
  obtain ⟨wb, hwb⟩ : ∃ wb, wb = w.alloc (.cells #[.int .i64 p.f0, .int .i64 p.f1] 28) := ⟨_, rfl⟩
  have hW : Below w.heap.size w wb := by rw [hwb]; exact below_alloc (Below.refl _ _) _
  have hg : wb.heap[w.heap.size]? = some (.cells #[.int .i64 p.f0, .int .i64 p.f1] 28 (0, 0)) := by rw [hwb]; exact blk_new w _
  have HSS := Aside0.mk (fun (w' : World) (hB : Below wb.heap.size wb w') => (show w'.cell? ⟨w.heap.size, 0, none⟩ = some (.int .i64 p.f0) ∧ w'.cell? ⟨w.heap.size, 1, none⟩ = some (.int .i64 p.f1) from
    ⟨(blk_cell ((hB.block _ (blk_lt hg)).trans hg) 0).trans rfl, (blk_cell ((hB.block _ (blk_lt hg)).trans hg) 1).trans rfl⟩))
  have HW := Aside0.mk hW
  have HWB := Aside0.mk hwb
  have hu28 := Try.underlying28
  by_cases hbig : 150 < l.length
  · clear hl hW hg hwb
    go_enter Try.func4, Try.ntmps4
    go_wp2_with (go_at_call 9; rw [← HWB.out]; refine (works_calls w wb HW.out).mono ?_; rintro e w2 ⟨rfl, hB⟩; have HB2 := Aside0.mk (below_then HW.out HW.out.size hB); clear hB)
    go_ret
    exact ⟨rfl, HB2.out⟩
  · have HM := Aside0.mk (made_calls A c l wb wb (Below.refl _ _) (Kd.C_below hl hW) (by omega))
    clear hl hW hg hwb
    go_enter Try.func4, Try.ntmps4
    go_wp2_with (go_at_call 15; rw [← HWB.out]; refine HM.out.mono ?_; rintro e w1 ⟨t, n, c', A', S, X, Q, rfl, hP, hn, hn150⟩; have HP := Aside0.mk hP; have HN := Aside0.mk hn; clear hP hn HM)
    have HB0 := Aside0.mk (below_drew HP.out.below)
    have HP0 := Aside0.mk (HP.out.move (w' := w1.drew) (below_drew (Below.refl _ _)))
    have hql : Q.list.length ≤ 150 := by have := HN.out; omega
    have HQL := Aside0.mk hql
    clear hql
    refine start_ (n := 20) (S := fun w' => (w'.cell? ⟨w.heap.size, 0, none⟩ = some (.int .i64 p.f0) ∧ w'.cell? ⟨w.heap.size, 1, none⟩ = some (.int .i64 p.f1))) (ds := []) #[false, false, false, false, false, false, false, false, false, false, false, false, false, false, false, false, false, false, false, false] (by kernel_rfl) rfl rfl ?_ (fun hHeld => ?_)
    · exact HSS.out _ HB0.out
    refine pure_ (i := 0) (N := some 18) (v := ?_) (a' := ?_) #[true, false, false, false, false, false, false, false, false, false, false, false, false, false, false, false, false, false, false, false] rfl rfl (by kernel_rfl) (fun _ _ _ h => h) (Or.inl ⟨by rfl, ?_⟩) ?_ ?_
    rotate_left
    · intro w'
      go_simp
      with_reducible rfl
    rotate_left
    · simp only [Act.put, List.setIfInBounds_toArray, List.set_cons_zero, List.set_cons_succ, i64_w, i32_w]
      rfl
    refine pure_ (i := 1) (N := some 19) (v := ?_) (a' := ?_) #[true, true, false, false, false, false, false, false, false, false, false, false, false, false, false, false, false, false, false, false] rfl rfl (by kernel_rfl) (fun _ _ _ h => h) (Or.inl ⟨by rfl, ?_⟩) ?_ ?_
    rotate_left
    · intro w'
      go_simp
      with_reducible rfl
    rotate_left
    · simp only [Act.put, List.setIfInBounds_toArray, List.set_cons_zero, List.set_cons_succ, i64_w, i32_w]
      rfl
    refine pure_ (i := 3) (N := some 21) (v := ?_) (a' := ?_) #[true, true, false, true, false, false, false, false, false, false, false, false, false, false, false, false, false, false, false, false] rfl rfl (by kernel_rfl) (fun _ _ _ h => h) (Or.inl ⟨by rfl, ?_⟩) ?_ ?_
    rotate_left
    · intro w'
      go_simp
      with_reducible rfl
    rotate_left
    · simp only [Act.put, List.setIfInBounds_toArray, List.set_cons_zero, List.set_cons_succ, i64_w, i32_w]
      rfl
    refine pure_ (i := 4) (N := some 22) (v := ?_) (a' := ?_) #[true, true, false, true, true, false, false, false, false, false, false, false, false, false, false, false, false, false, false, false] rfl rfl (by kernel_rfl) (fun _ _ _ h => h) (Or.inl ⟨by rfl, ?_⟩) ?_ ?_
    rotate_left
    · intro w'
      go_simp
      with_reducible rfl
    rotate_left
    · simp only [Act.put, List.setIfInBounds_toArray, List.set_cons_zero, List.set_cons_succ, i64_w, i32_w]
      rfl
    refine one_ (i := 2) (N := some 20) #[true, true, true, true, true, false, false, false, false, false, false, false, false, false, false, false, false, false, false, false] rfl rfl (by kernel_rfl) (by decide) (fun K hK => ?_)
    refine goes_ Try.func14 (by kernel_rfl) rfl #[.pointer (some ⟨t, 0, none⟩), .int .i64 at_] (by rfl) rfl rfl (by (try simp only [List.map_toArray, List.map_cons, List.map_nil]); first | done | rfl) ?_
    refine (tst_calls _ S t Q at_ HP0.out.tree (by have := HQL.out; omega)).mono ?_
    rintro e w2 ⟨v2, rfl, hH, hB⟩
    have HP2 := Aside0.mk (HP0.out.move hB)
    have HB2 := Aside0.mk HP2.out.below
    obtain ⟨A2, c2, hv2, hc2, hC2⟩ := hH.reads'
    have hl2 := hH.len
    obtain ⟨n2, hn2⟩ : ∃ n2, n2 = (stT at_ Q).length := ⟨_, rfl⟩
    rw [← hn2] at hv2 hc2
    subst hv2
    have HR2 := Aside0.mk (And.intro hn2 (And.intro hc2 (And.intro hC2 hl2)))
    refine ⟨_, rfl, hK.out _ _ (HSS.out _ HB2.out) (fun _ => ?_)⟩
    clear hK K hB hH hn2 hc2 hC2 hl2 hHeld
    have hHeld := HSS.out _ HB2.out
    refine norm_ (a' := ?_) ?_ ?_
    rotate_left
    · show Act.put _ (some 20) _ = _
      simp only [Act.put, List.setIfInBounds_toArray, List.set_cons_zero, List.set_cons_succ, i64_w, i32_w]
      rfl
    refine one_ (i := 5) (N := some 23) #[true, true, true, true, true, true, false, false, false, false, false, false, false, false, false, false, false, false, false, false] rfl rfl (by kernel_rfl) (by decide) (fun K hK => ?_)
    refine goes_ Try.func17 (by kernel_rfl) rfl #[.slice A' n c', .int .i64 at_] (by rfl) rfl rfl (by (try simp only [List.map_toArray, List.map_cons, List.map_nil]); first | done | rfl) ?_
    refine (stabR_calls _ A' c' n Q.list at_ HN.out HP2.out.list.row (by have := HQL.out; omega)).mono ?_
    rintro e w3 ⟨v3, rfl, hR, hB⟩
    rw [stT_ref HP2.out.tree.2] at hR
    obtain ⟨A3, c3, rfl⟩ := Kd.R_slice hR
    have hr3 := Kd.R_reads' hR
    have HP3 := Aside0.mk (HP2.out.move hB)
    have HB3 := Aside0.mk HP3.out.below
    have HR3 := Aside0.mk (And.intro HR2.out.1 (And.intro HR2.out.2.1 (And.intro (Kd.C_below HR2.out.2.2.1 hB) (And.intro hr3.2 HR2.out.2.2.2))))
    rw [← HR2.out.1]
    refine ⟨_, rfl, hK.out _ _ (HSS.out _ HB3.out) (fun _ => ?_)⟩
    clear hK K hB hR hr3 hHeld HR2
    have hHeld := HSS.out _ HB3.out
    refine norm_ (a' := ?_) ?_ ?_
    rotate_left
    · show Act.put _ (some 23) _ = _
      simp only [Act.put, List.setIfInBounds_toArray, List.set_cons_zero, List.set_cons_succ, i64_w, i32_w]
      rfl
    refine one_ (i := 6) (N := some 24) #[true, true, true, true, true, true, true, false, false, false, false, false, false, false, false, false, false, false, false, false] rfl rfl (by kernel_rfl) (by decide) (fun K hK => ?_)
    refine goes_ Try.func16 (by kernel_rfl) rfl #[.slice A2 n2 c2, .slice A3 n2 c3] (by rfl) rfl rfl (by (try simp only [List.map_toArray, List.map_cons, List.map_nil]); first | done | rfl) ?_
    refine (ints_same w3 A2 A3 c2 c3 n2 (stT at_ Q) HR3.out.1 HR3.out.2.1 (by rw [HR3.out.1]; exact HR3.out.2.2.2.1.1) HR3.out.2.2.1 HR3.out.2.2.2.1.2 HR3.out.2.2.2.2).mono ?_
    rintro e w4 ⟨rfl, hB⟩
    have HP4 := Aside0.mk (HP3.out.move hB)
    have HB4 := Aside0.mk HP4.out.below
    refine ⟨_, rfl, hK.out _ _ (HSS.out _ HB4.out) (fun _ => ?_)⟩
    clear hK K hB hHeld HR3
    have hHeld := HSS.out _ HB4.out
    refine norm_ (a' := ?_) ?_ ?_
    rotate_left
    · show Act.put _ (some 24) _ = _
      simp only [Act.put, List.setIfInBounds_toArray, List.set_cons_zero, List.set_cons_succ, i64_w, i32_w]
      rfl
    refine pure_ (i := 7) (N := some 25) (v := ?_) (a' := ?_) #[true, true, true, true, true, true, true, true, false, false, false, false, false, false, false, false, false, false, false, false] rfl rfl (by kernel_rfl) (fun _ _ _ h => h) (Or.inl ⟨by rfl, ?_⟩) ?_ ?_
    rotate_left
    · intro w'
      go_simp
      with_reducible rfl
    rotate_left
    · simp only [Act.put, List.setIfInBounds_toArray, List.set_cons_zero, List.set_cons_succ, i64_w, i32_w]
      rfl
    refine pure_ (i := 8) (N := some 26) (v := ?_) (a' := ?_) #[true, true, true, true, true, true, true, true, true, false, false, false, false, false, false, false, false, false, false, false] rfl rfl (by kernel_rfl) (fun _ _ _ h => h) (Or.inl ⟨by rfl, ?_⟩) ?_ ?_
    rotate_left
    · intro w'
      go_simp
      with_reducible rfl
    rotate_left
    · simp only [Act.put, List.setIfInBounds_toArray, List.set_cons_zero, List.set_cons_succ, i64_w, i32_w]
      rfl
    refine take_ (i := 9) (N := some 27) (v := ?_) (a' := ?_) #[true, true, true, true, true, true, true, true, true, true, false, false, false, false, false, false, false, false, false, false] rfl rfl (by kernel_rfl) (fun _ _ _ h => h) (Or.inl ⟨by rfl, ?_⟩) hHeld ?_ ?_
    rotate_left
    · rintro w' ⟨s0, s1⟩
      go_simp
      with_reducible rfl
    rotate_left
    · simp only [Act.put, List.setIfInBounds_toArray, List.set_cons_zero, List.set_cons_succ, i64_w, i32_w]
      rfl
    refine pure_ (i := 11) (N := some 29) (v := ?_) (a' := ?_) #[true, true, true, true, true, true, true, true, true, true, false, true, false, false, false, false, false, false, false, false] rfl rfl (by kernel_rfl) (fun _ _ _ h => h) (Or.inl ⟨by rfl, ?_⟩) ?_ ?_
    rotate_left
    · intro w'
      go_simp
      with_reducible rfl
    rotate_left
    · simp only [Act.put, List.setIfInBounds_toArray, List.set_cons_zero, List.set_cons_succ, i64_w, i32_w]
      rfl
    refine take_ (i := 12) (N := some 30) (v := ?_) (a' := ?_) #[true, true, true, true, true, true, true, true, true, true, false, true, true, false, false, false, false, false, false, false] rfl rfl (by kernel_rfl) (fun _ _ _ h => h) (Or.inl ⟨by rfl, ?_⟩) hHeld ?_ ?_
    rotate_left
    · rintro w' ⟨s0, s1⟩
      go_simp
      with_reducible rfl
    rotate_left
    · simp only [Act.put, List.setIfInBounds_toArray, List.set_cons_zero, List.set_cons_succ, i64_w, i32_w]
      rfl
    refine one_ (i := 10) (N := some 28) #[true, true, true, true, true, true, true, true, true, true, true, true, true, false, false, false, false, false, false, false] rfl rfl (by kernel_rfl) (by decide) (fun K hK => ?_)
    refine goes_ Try.func12 (by kernel_rfl) rfl #[.pointer (some ⟨t, 0, none⟩), .agg #[.int .i64 p.f0, .int .i64 p.f1]] (by rfl) rfl rfl (by (try simp only [List.map_toArray, List.map_cons, List.map_nil]); first | done | rfl) ?_
    refine (tov_calls _ S t Q p HP4.out.tree (by have := HQL.out; omega)).mono ?_
    rintro e w5 ⟨v5, rfl, hH, hB⟩
    have HP5 := Aside0.mk (HP4.out.move hB)
    have HB5 := Aside0.mk HP5.out.below
    obtain ⟨A5, c5, hv5, hc5, hC5⟩ := hH.reads'
    have hl5 := hH.len
    obtain ⟨n5, hn5⟩ : ∃ n5, n5 = (ovT p Q).length := ⟨_, rfl⟩
    rw [← hn5] at hv5 hc5
    subst hv5
    have HR5 := Aside0.mk (And.intro hn5 (And.intro hc5 (And.intro hC5 hl5)))
    refine ⟨_, rfl, hK.out _ _ (HSS.out _ HB5.out) (fun _ => ?_)⟩
    clear hK K hB hH hn5 hc5 hC5 hl5 hHeld
    have hHeld := HSS.out _ HB5.out
    refine norm_ (a' := ?_) ?_ ?_
    rotate_left
    · show Act.put _ (some 28) _ = _
      simp only [Act.put, List.setIfInBounds_toArray, List.set_cons_zero, List.set_cons_succ, i64_w, i32_w]
      rfl
    refine one_ (i := 13) (N := some 31) #[true, true, true, true, true, true, true, true, true, true, true, true, true, true, false, false, false, false, false, false] rfl rfl (by kernel_rfl) (by decide) (fun K hK => ?_)
    refine goes_ Try.func18 (by kernel_rfl) rfl #[.slice A' n c', .agg #[.int .i64 p.f0, .int .i64 p.f1]] (by rfl) rfl rfl (by (try simp only [List.map_toArray, List.map_cons, List.map_nil]); first | done | rfl) ?_
    refine (overR_calls _ A' c' n Q.list p HN.out HP5.out.list.row (by have := HQL.out; omega)).mono ?_
    rintro e w6 ⟨v6, rfl, hR, hB⟩
    rw [ovT_ref HP5.out.tree.2.ord] at hR
    obtain ⟨A6, c6, rfl⟩ := Kd.R_slice hR
    have hr6 := Kd.R_reads' hR
    have HP6 := Aside0.mk (HP5.out.move hB)
    have HB6 := Aside0.mk HP6.out.below
    have HR6 := Aside0.mk (And.intro HR5.out.1 (And.intro HR5.out.2.1 (And.intro (Kd.C_below HR5.out.2.2.1 hB) (And.intro hr6.2 HR5.out.2.2.2))))
    rw [← HR5.out.1]
    refine ⟨_, rfl, hK.out _ _ (HSS.out _ HB6.out) (fun _ => ?_)⟩
    clear hK K hB hR hr6 hHeld HR5
    have hHeld := HSS.out _ HB6.out
    refine norm_ (a' := ?_) ?_ ?_
    rotate_left
    · show Act.put _ (some 31) _ = _
      simp only [Act.put, List.setIfInBounds_toArray, List.set_cons_zero, List.set_cons_succ, i64_w, i32_w]
      rfl
    refine one_ (i := 14) (N := some 32) #[true, true, true, true, true, true, true, true, true, true, true, true, true, true, true, false, false, false, false, false] rfl rfl (by kernel_rfl) (by decide) (fun K hK => ?_)
    refine goes_ Try.func16 (by kernel_rfl) rfl #[.slice A5 n5 c5, .slice A6 n5 c6] (by rfl) rfl rfl (by (try simp only [List.map_toArray, List.map_cons, List.map_nil]); first | done | rfl) ?_
    refine (ints_same w6 A5 A6 c5 c6 n5 (ovT p Q) HR6.out.1 HR6.out.2.1 (by rw [HR6.out.1]; exact HR6.out.2.2.2.1.1) HR6.out.2.2.1 HR6.out.2.2.2.1.2 HR6.out.2.2.2.2).mono ?_
    rintro e w7 ⟨rfl, hB⟩
    have HP7 := Aside0.mk (HP6.out.move hB)
    have HB7 := Aside0.mk HP7.out.below
    refine ⟨_, rfl, hK.out _ _ (HSS.out _ HB7.out) (fun _ => ?_)⟩
    clear hK K hB hHeld HR6
    have hHeld := HSS.out _ HB7.out
    refine norm_ (a' := ?_) ?_ ?_
    rotate_left
    · show Act.put _ (some 32) _ = _
      simp only [Act.put, List.setIfInBounds_toArray, List.set_cons_zero, List.set_cons_succ, i64_w, i32_w]
      rfl
    refine pure_ (i := 15) (N := some 33) (v := ?_) (a' := ?_) #[true, true, true, true, true, true, true, true, true, true, true, true, true, true, true, true, false, false, false, false] rfl rfl (by kernel_rfl) (fun _ _ _ h => h) (Or.inl ⟨by rfl, ?_⟩) ?_ ?_
    rotate_left
    · intro w'
      go_simp
      with_reducible rfl
    rotate_left
    · simp only [Act.put, List.setIfInBounds_toArray, List.set_cons_zero, List.set_cons_succ, i64_w, i32_w]
      rfl
    refine pure_ (i := 16) (N := some 34) (v := ?_) (a' := ?_) #[true, true, true, true, true, true, true, true, true, true, true, true, true, true, true, true, true, false, false, false] rfl rfl (by kernel_rfl) (fun _ _ _ h => h) (Or.inl ⟨by rfl, ?_⟩) ?_ ?_
    rotate_left
    · intro w'
      go_simp
      with_reducible rfl
    rotate_left
    · simp only [Act.put, List.setIfInBounds_toArray, List.set_cons_zero, List.set_cons_succ, i64_w, i32_w]
      rfl
    refine one_ (i := 17) (N := some 35) #[true, true, true, true, true, true, true, true, true, true, true, true, true, true, true, true, true, true, false, false] rfl rfl (by kernel_rfl) (by decide) (fun K hK => ?_)
    refine goes_ Try.func9 (by kernel_rfl) rfl #[] (by rfl) rfl rfl (by (try simp only [List.map_toArray, List.map_cons, List.map_nil]); first | done | rfl) ?_
    refine (works_calls wb _ HB7.out).mono ?_
    rintro e w8 ⟨rfl, hB⟩
    have HB8 := Aside0.mk (below_then HB7.out HB7.out.size hB)
    refine ⟨_, rfl, hK.out _ _ (HSS.out _ HB8.out) (fun _ => ?_)⟩
    clear hK K hB
    refine norm_ (a' := ?_) ?_ ?_
    rotate_left
    · show Act.put _ (some 35) _ = _
      simp only [Act.put, List.setIfInBounds_toArray, List.set_cons_zero, List.set_cons_succ, i64_w, i32_w]
      rfl
    refine pure_ (i := 18) (N := some 36) (v := ?_) (a' := ?_) #[true, true, true, true, true, true, true, true, true, true, true, true, true, true, true, true, true, true, true, false] rfl rfl (by kernel_rfl) (fun _ _ _ h => h) (Or.inl ⟨by rfl, ?_⟩) ?_ ?_
    rotate_left
    · intro w'
      go_simp
      with_reducible rfl
    rotate_left
    · simp only [Act.put, List.setIfInBounds_toArray, List.set_cons_zero, List.set_cons_succ, i64_w, i32_w]
      rfl
    refine pure_ (i := 19) (N := some 6) (v := ?_) (a' := ?_) #[true, true, true, true, true, true, true, true, true, true, true, true, true, true, true, true, true, true, true, true] rfl rfl (by kernel_rfl) (fun _ _ _ h => h) (Or.inl ⟨by rfl, ?_⟩) ?_ ?_
    rotate_left
    · intro w'
      go_simp
      with_reducible rfl
    rotate_left
    · simp only [Act.put, List.setIfInBounds_toArray, List.set_cons_zero, List.set_cons_succ, i64_w, i32_w]
      rfl
    refine done_ (by kernel_rfl) ?_
    go_wp2
    go_ret
    exact ⟨rfl, below_then HW.out HW.out.size HB8.out⟩
end Go.Proofs.Ytdjfjmcnghfdkaa.My
