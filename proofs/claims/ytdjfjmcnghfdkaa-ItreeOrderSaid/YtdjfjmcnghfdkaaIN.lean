/- list whole, Items; overlap. -/
import Derived.Test.YtdjfjmcnghfdkaaIM
namespace Go.Proofs.Ytdjfjmcnghfdkaa.My
open Go Go.RowKit Go.Proofs.YtdjfjmcnghfdkaaW.PrintWords Go.Proofs.YtdjfjmcnghfdkaaW.PrintLast Go.Proofs.YtdjfjmcnghfdkaaW.PrintMore Go.Proofs.Ytdjfjmcnghfdkaa.PItreeActs
set_option linter.unusedVariables false
set_option linter.unusedSimpArgs false
theorem list_calls (base : Nat) (T : BT) : (∀ k ∈ T.blks, k < base) → ∀ (w : World) (v : Value) (xs : List S30), T.At w → base ≤ w.heap.size → RI w base v xs → xs.length + T.list.length ≤ 1000000 → Calls Try.prog 37 #[T.ptr, v] w (LPost base w v (xs ++ T.sk.list)) := by
  induction T with
  | nil =>
    intro _ w v xs _ _ hR _
    obtain ⟨A, c, rfl⟩ := Kd.R_slice hR
    have HR := Aside0.mk hR
    clear hR
    show Calls Try.prog 37 #[.pointer none, .slice A xs.length c] w _
    go_enter Try.func37, Try.ntmps37
    go_wp2
    go_ret
    exact ⟨_, rfl, by rw [show (Tr.nil : BT).sk.list = [] from rfl, List.append_nil]; exact HR.out, Grw.refl _ _⟩
  | nd p l r hl hr =>
    obtain ⟨b, y⟩ := p
    intro hlt w v xs h hbase hR hn
    have hl' := hl (fun k hk => hlt k (by rw [Tr.blks_nd]; simp [hk]))
    have hr' := hr (fun k hk => hlt k (by rw [Tr.blks_nd]; simp [hk]))
    exact list_nd b y l r base w v xs h hlt hbase hR hn hl' hr'
set_option maxHeartbeats 1000000 in
theorem items_calls (w : World) (S : Nat → Prop) (t : Nat) (Q : Tr S30) (n : Nat) (h : TreeAt w S t Q n) (hn : Q.list.length ≤ 1000000) :
    Calls Try.prog 24 #[.pointer (some ⟨t, 0, none⟩)] w fun e w' => ∃ v, e = .returned v ∧ RI w' w.heap.size v Q.list ∧ Below w.heap.size w w' := by
  obtain ⟨T, h1, h2, h3, h4, h5, h6, h7, h8⟩ := h
  obtain ⟨v, hv⟩ := ptr_pointer T
  have hc : w.cell? ⟨t, 0, none⟩ = some (.pointer v) := (blk_cell h4 0).trans (congrArg some hv)
  have hll : T.list.length = Q.list.length := by rw [← h1, Tr.list_map]; simp
  have HL := Aside0.mk (list_calls w.heap.size T (fun k hk => h8 k (h6 k hk)) w (.slice none 0 0) [] h2 (Nat.le_refl _) (Kd.R_nil _ _ _ _ _) (by rw [hll]; simpa using hn))
  rw [hv, h1, List.nil_append] at HL
  clear h1 h2 h3 h4 h5 h6 h7 h8 hv hll hn
  go_enter Try.func24, Try.ntmps24
  go_wp2_with (go_at_call 37; refine HL.out.mono ?_; rintro e w1 ⟨v', rfl, hR, hG⟩; have HR := Aside0.mk hR; have HG := Aside0.mk hG; clear hR hG)
  go_ret
  exact ⟨_, rfl, HR.out, HG.out.below (Nat.le_refl _) (fun k hk => by simp [Value.ownBlock] at hk)⟩
theorem items_nil (w : World) : Calls Try.prog 24 #[.pointer none] w fun e w' => e = .returned (.slice none 0 0) ∧ w = w' := by
  go_enter Try.func24, Try.ntmps24
  go_wp2
  go_ret
  exact ⟨rfl, rfl⟩
/-! ### overlap -/
theorem info3 : (Try.prog.info? 3).map (fun i => (i.zero, i.size, i.bytes)) = some (some (.int .i64 0), 1, 8) := by kernel_rfl
/-- A row of numbers of the call's own. -/
abbrev RN (w : World) (base : Nat) (v : Value) (xs : List Int) : Prop := Kd.R (Kd.int .i64) 3 w base (fun k => base ≤ k) v xs
abbrev OPost (base : Nat) (w : World) (v : Value) (ys : List Int) : Ending → World → Prop := fun e w' => ∃ v', e = .returned v' ∧ RN w' base v' ys ∧ Grw w w' v v'
def ovl (p : S28) : Tr S30 → List Int
  | .nil => []
  | .nd x l r => if (Tr.nd x l r).en ≤ p.f0 then [] else ovl p l ++ (if p.f1 ≤ x.f0.f0 then [] else (if p.f0 < x.f0.f1 then [x.f1] else []) ++ ovl p r)
theorem ovl_length (p : S28) (t : Tr S30) : (ovl p t).length ≤ t.list.length := by
  induction t with
  | nil => simp [ovl]
  | nd x l r hl hr =>
    unfold ovl
    simp only [Tr.list, List.length_append, List.length_cons]
    split
    · simp
    · split
      · simp; omega
      · split <;> simp <;> omega
set_option maxHeartbeats 1000000 in
set_option maxRecDepth 100000 in
theorem overlap_nil (p : S28) (base : Nat) (w : World) (v : Value) (xs : List Int) (hR : RN w base v xs) (hbase : base ≤ w.heap.size) :
    Calls Try.prog 28 #[.pointer none, .agg #[.int .i64 p.f0, .int .i64 p.f1], v] w (OPost base w v xs) := by
  obtain ⟨A, c, rfl⟩ := Kd.R_slice hR
  have HR := Aside0.mk hR
  have hu28 := Try.underlying28
  clear hR
  go_enter Try.func28, Try.ntmps28
  go_wp2_with fail
  go_quiet (fail)
  go_wp2
  go_ret
  have hb : Below w.heap.size w (w.alloc (.cells #[.int .i64 p.f0, .int .i64 p.f1] 28)) := below_alloc (Below.refl _ _) _
  exact ⟨_, rfl, Kd.R_drewN (Kd.R_below HR.out hb) _, grown_of_below (pw_below_drewN hb _) _, .inl rfl⟩
set_option maxHeartbeats 1000000 in
set_option maxRecDepth 100000 in
theorem overlap_0 (p : S28) (b : Nat) (y : S30) (l r : BT) (base : Nat) (w : World) (v : Value) (xs : List Int) (h : (Tr.nd (b, y) l r).At w) (hlt : ∀ k ∈ (Tr.nd (b, y) l r).blks, k < base) (hbase : base ≤ w.heap.size) (hR : RN w base v xs) (hn : xs.length + (Tr.nd (b, y) l r).list.length ≤ 1000000)
    (ihl : ∀ (w : World) (v : Value) (xs : List Int), l.At w → base ≤ w.heap.size → RN w base v xs → xs.length + l.list.length ≤ 1000000 → Calls Try.prog 28 #[l.ptr, .agg #[.int .i64 p.f0, .int .i64 p.f1], v] w (OPost base w v (xs ++ ovl p l.sk)))
    (ihr : ∀ (w : World) (v : Value) (xs : List Int), r.At w → base ≤ w.heap.size → RN w base v xs → xs.length + r.list.length ≤ 1000000 → Calls Try.prog 28 #[r.ptr, .agg #[.int .i64 p.f0, .int .i64 p.f1], v] w (OPost base w v (xs ++ ovl p r.sk)))
    (c0 : (Tr.nd (b, y) l r).sk.en ≤ p.f0) :
    Calls Try.prog 28 #[.pointer (some ⟨b, 0, none⟩), .agg #[.int .i64 p.f0, .int .i64 p.f1], v] w (OPost base w v (xs)) := by
  obtain ⟨A, c, rfl⟩ := Kd.R_slice hR
  obtain ⟨E, hE⟩ : ∃ E, E = (Tr.nd (b, y) l r).sk.en := ⟨_, rfl⟩
  rw [← hE] at c0
  have HS := Aside0.mk (fun (w' : World) (hB : Below base w w') => (show (Tr.nd (b, y) l r).At w' from h.keep (fun k hk _ => hB.block k (hlt k hk))))
  obtain ⟨vl, hvl⟩ := ptr_pointer l
  obtain ⟨vr, hvr⟩ := ptr_pointer r
  rw [hvl] at ihl
  rw [hvr] at ihr
  have HVL := Aside0.mk hvl
  have HVR := Aside0.mk hvr
  have IL := Aside0.mk ihl
  have IR := Aside0.mk ihr
  have HR := Aside0.mk hR
  have HBS := Aside0.mk hbase
  have hn' : xs.length + l.list.length + 1 + r.list.length ≤ 1000000 := by simp only [Tr.list, List.length_append, List.length_cons] at hn; omega
  have HN := Aside0.mk hn'
  have HLL := Aside0.mk (show (ovl p l.sk).length ≤ l.list.length by have := ovl_length p l.sk; rw [Tr.list_map, List.length_map] at this; exact this)
  have hu28 := Try.underlying28
  have hu30 := Try.underlying30
  have hu69 := Try.underlying69
  have HE := Aside0.mk hE
  obtain ⟨wb, hwb⟩ : ∃ wb, wb = w.alloc (.cells #[.int .i64 p.f0, .int .i64 p.f1] 28) := ⟨_, rfl⟩
  have hW : Below w.heap.size w wb := by rw [hwb]; exact below_alloc (Below.refl _ _) _
  have hg : wb.heap[w.heap.size]? = some (.cells #[.int .i64 p.f0, .int .i64 p.f1] 28 (0, 0)) := by rw [hwb]; exact blk_new w _
  have HW := Aside0.mk hW
  have HG := Aside0.mk hg
  have HWB := Aside0.mk hwb
  have HOWN := Aside0.mk (show some w.heap.size ≠ (Value.slice A xs.length c).ownBlock from fun he => by have := Kd.R_lt hR w.heap.size he.symm; omega)
  have HSS := Aside0.mk (fun (w' : World) (hB : Below base w w') (hg : w'.heap[w.heap.size]? = some (.cells #[.int .i64 p.f0, .int .i64 p.f1] 28 (0, 0))) => (show w'.cell? ⟨b, 3, none⟩ = some (.pointer vl) ∧ w'.cell? ⟨b, 4, none⟩ = some (.pointer vr) ∧ w'.cell? ⟨b, 0, none⟩ = some (.int .i64 y.f0.f0) ∧ w'.cell? ⟨b, 1, none⟩ = some (.int .i64 y.f0.f1) ∧ w'.cell? ⟨b, 2, none⟩ = some (.int .i64 y.f1) ∧ w'.cell? ⟨b, 6, none⟩ = some (.int .i64 E) ∧ w'.cell? ⟨w.heap.size, 0, none⟩ = some (.int .i64 p.f0) ∧ w'.cell? ⟨w.heap.size, 1, none⟩ = some (.int .i64 p.f1) from
    ⟨(blk_cell (HS.out w' hB).1 3).trans (congrArg some HVL.out), (blk_cell (HS.out w' hB).1 4).trans (congrArg some HVR.out), (blk_cell (HS.out w' hB).1 0).trans rfl, (blk_cell (HS.out w' hB).1 1).trans rfl, (blk_cell (HS.out w' hB).1 2).trans rfl, (blk_cell (HS.out w' hB).1 6).trans (congrArg (fun z => some (Value.int .i64 z)) HE.out.symm), (blk_cell hg 0).trans rfl, (blk_cell hg 1).trans rfl⟩))
  have hd0 : decide (E ≤ p.f0) = true := by simpa using c0
  skip
  clear h hlt hbase hR hn hn' ihl ihr hvl hvr hE c0 hW hg hwb 
  go_enter Try.func28, Try.ntmps28
  go_wp2_with fail
  rw [← HWB.out]
  have HB0 := Aside0.mk (below_weaken' HBS.out HW.out)
  have hss := HSS.out wb.drew (below_drew HB0.out) HG.out
  refine start_ (n := 11) (S := fun w' => (w'.cell? ⟨b, 6, none⟩ = some (.int .i64 E) ∧ w'.cell? ⟨w.heap.size, 0, none⟩ = some (.int .i64 p.f0))) (ds := []) #[false, false, false, false, false, false, false, false, false, false, false] (by kernel_rfl) rfl rfl ?_ (fun hHeld => ?_)
  · exact ⟨hss.2.2.2.2.2.1, hss.2.2.2.2.2.2.1⟩
  refine pure_ (i := 0) (N := some 7) (v := ?_) (a' := ?_) #[true, false, false, false, false, false, false, false, false, false, false] rfl rfl (by kernel_rfl) (fun _ _ _ h => h) (Or.inl ⟨by rfl, ?_⟩) ?_ ?_
  rotate_left
  · intro w'
    go_simp
    with_reducible rfl
  rotate_left
  · simp only [Act.put, List.setIfInBounds_toArray, List.set_cons_zero, List.set_cons_succ, i64_w, i32_w]
    rfl
  refine pure_ (i := 1) (N := some 8) (v := ?_) (a' := ?_) #[true, true, false, false, false, false, false, false, false, false, false] rfl rfl (by kernel_rfl) (fun _ _ _ h => h) (Or.inl ⟨by rfl, ?_⟩) ?_ ?_
  rotate_left
  · intro w'
    go_simp
    with_reducible rfl
  rotate_left
  · simp only [Act.put, List.setIfInBounds_toArray, List.set_cons_zero, List.set_cons_succ, i64_w, i32_w]
    rfl
  refine pure_ (i := 2) (N := some 9) (v := ?_) (a' := ?_) #[true, true, true, false, false, false, false, false, false, false, false] rfl rfl (by kernel_rfl) (fun _ _ _ h => h) (Or.inl ⟨by rfl, ?_⟩) ?_ ?_
  rotate_left
  · intro w'
    go_simp
    with_reducible rfl
  rotate_left
  · simp only [Act.put, List.setIfInBounds_toArray, List.set_cons_zero, List.set_cons_succ, i64_w, i32_w]
    rfl
  refine pure_ (i := 3) (N := some 10) (v := ?_) (a' := ?_) #[true, true, true, true, false, false, false, false, false, false, false] rfl rfl (by kernel_rfl) (fun _ _ _ h => h) (Or.inl ⟨by rfl, ?_⟩) ?_ ?_
  rotate_left
  · intro w'
    go_simp
    with_reducible rfl
  rotate_left
  · simp only [Act.put, List.setIfInBounds_toArray, List.set_cons_zero, List.set_cons_succ, i64_w, i32_w]
    rfl
  refine pure_ (i := 4) (N := some 11) (v := ?_) (a' := ?_) #[true, true, true, true, true, false, false, false, false, false, false] rfl rfl (by kernel_rfl) (fun _ _ _ h => h) (Or.inl ⟨by rfl, ?_⟩) ?_ ?_
  rotate_left
  · intro w'
    go_simp
    with_reducible rfl
  rotate_left
  · simp only [Act.put, List.setIfInBounds_toArray, List.set_cons_zero, List.set_cons_succ, i64_w, i32_w]
    rfl
  refine pure_ (i := 5) (N := some 12) (v := ?_) (a' := ?_) #[true, true, true, true, true, true, false, false, false, false, false] rfl rfl (by kernel_rfl) (fun _ _ _ h => h) (Or.inl ⟨by rfl, ?_⟩) ?_ ?_
  rotate_left
  · intro w'
    go_simp
    with_reducible rfl
  rotate_left
  · simp only [Act.put, List.setIfInBounds_toArray, List.set_cons_zero, List.set_cons_succ, i64_w, i32_w]
    rfl
  refine take_ (i := 6) (N := some 13) (v := ?_) (a' := ?_) #[true, true, true, true, true, true, true, false, false, false, false] rfl rfl (by kernel_rfl) (fun _ _ _ h => h) (Or.inl ⟨by rfl, ?_⟩) hHeld ?_ ?_
  rotate_left
  · rintro w' ⟨s0, s1⟩
    go_simp
    with_reducible rfl
  rotate_left
  · simp only [Act.put, List.setIfInBounds_toArray, List.set_cons_zero, List.set_cons_succ, i64_w, i32_w]
    rfl
  refine pure_ (i := 7) (N := some 14) (v := ?_) (a' := ?_) #[true, true, true, true, true, true, true, true, false, false, false] rfl rfl (by kernel_rfl) (fun _ _ _ h => h) (Or.inl ⟨by rfl, ?_⟩) ?_ ?_
  rotate_left
  · intro w'
    go_simp
    with_reducible rfl
  rotate_left
  · simp only [Act.put, List.setIfInBounds_toArray, List.set_cons_zero, List.set_cons_succ, i64_w, i32_w]
    rfl
  refine take_ (i := 8) (N := some 15) (v := ?_) (a' := ?_) #[true, true, true, true, true, true, true, true, true, false, false] rfl rfl (by kernel_rfl) (fun _ _ _ h => h) (Or.inl ⟨by rfl, ?_⟩) hHeld ?_ ?_
  rotate_left
  · rintro w' ⟨s0, s1⟩
    go_simp
    with_reducible rfl
  rotate_left
  · simp only [Act.put, List.setIfInBounds_toArray, List.set_cons_zero, List.set_cons_succ, i64_w, i32_w]
    rfl
  refine pure_ (i := 9) (N := some 16) (v := ?_) (a' := ?_) #[true, true, true, true, true, true, true, true, true, true, false] rfl rfl (by kernel_rfl) (fun _ _ _ h => h) (Or.inl ⟨by rfl, ?_⟩) ?_ ?_
  rotate_left
  · intro w'
    go_simp
    with_reducible rfl
  rotate_left
  · simp only [Act.put, List.setIfInBounds_toArray, List.set_cons_zero, List.set_cons_succ, i64_w, i32_w]
    rfl
  refine pure_ (i := 10) (N := some 17) (v := ?_) (a' := ?_) #[true, true, true, true, true, true, true, true, true, true, true] rfl rfl (by kernel_rfl) (fun _ _ _ h => h) (Or.inl ⟨by rfl, ?_⟩) ?_ ?_
  rotate_left
  · intro w'
    go_simp
    with_reducible rfl
  rotate_left
  · simp only [Act.put, List.setIfInBounds_toArray, List.set_cons_zero, List.set_cons_succ, i64_w, i32_w]
    rfl
  refine done_ (by kernel_rfl) ?_
  clear hss
  go_wp2
  go_ret
  exact ⟨_, rfl, Kd.R_drew (Kd.R_below HR.out HW.out), grown_of_below (below_drew HW.out) _, .inl rfl⟩
set_option maxHeartbeats 1000000 in
set_option maxRecDepth 100000 in
theorem overlap_1 (p : S28) (b : Nat) (y : S30) (l r : BT) (base : Nat) (w : World) (v : Value) (xs : List Int) (h : (Tr.nd (b, y) l r).At w) (hlt : ∀ k ∈ (Tr.nd (b, y) l r).blks, k < base) (hbase : base ≤ w.heap.size) (hR : RN w base v xs) (hn : xs.length + (Tr.nd (b, y) l r).list.length ≤ 1000000)
    (ihl : ∀ (w : World) (v : Value) (xs : List Int), l.At w → base ≤ w.heap.size → RN w base v xs → xs.length + l.list.length ≤ 1000000 → Calls Try.prog 28 #[l.ptr, .agg #[.int .i64 p.f0, .int .i64 p.f1], v] w (OPost base w v (xs ++ ovl p l.sk)))
    (ihr : ∀ (w : World) (v : Value) (xs : List Int), r.At w → base ≤ w.heap.size → RN w base v xs → xs.length + r.list.length ≤ 1000000 → Calls Try.prog 28 #[r.ptr, .agg #[.int .i64 p.f0, .int .i64 p.f1], v] w (OPost base w v (xs ++ ovl p r.sk)))
    (c0 : ¬ (Tr.nd (b, y) l r).sk.en ≤ p.f0) (c1 : p.f1 ≤ y.f0.f0) :
    Calls Try.prog 28 #[.pointer (some ⟨b, 0, none⟩), .agg #[.int .i64 p.f0, .int .i64 p.f1], v] w (OPost base w v (xs ++ ovl p l.sk)) := by
  obtain ⟨A, c, rfl⟩ := Kd.R_slice hR
  obtain ⟨E, hE⟩ : ∃ E, E = (Tr.nd (b, y) l r).sk.en := ⟨_, rfl⟩
  rw [← hE] at c0
  have HS := Aside0.mk (fun (w' : World) (hB : Below base w w') => (show (Tr.nd (b, y) l r).At w' from h.keep (fun k hk _ => hB.block k (hlt k hk))))
  obtain ⟨vl, hvl⟩ := ptr_pointer l
  obtain ⟨vr, hvr⟩ := ptr_pointer r
  rw [hvl] at ihl
  rw [hvr] at ihr
  have HVL := Aside0.mk hvl
  have HVR := Aside0.mk hvr
  have IL := Aside0.mk ihl
  have IR := Aside0.mk ihr
  have HR := Aside0.mk hR
  have HBS := Aside0.mk hbase
  have hn' : xs.length + l.list.length + 1 + r.list.length ≤ 1000000 := by simp only [Tr.list, List.length_append, List.length_cons] at hn; omega
  have HN := Aside0.mk hn'
  have HLL := Aside0.mk (show (ovl p l.sk).length ≤ l.list.length by have := ovl_length p l.sk; rw [Tr.list_map, List.length_map] at this; exact this)
  have hu28 := Try.underlying28
  have hu30 := Try.underlying30
  have hu69 := Try.underlying69
  have HE := Aside0.mk hE
  obtain ⟨wb, hwb⟩ : ∃ wb, wb = w.alloc (.cells #[.int .i64 p.f0, .int .i64 p.f1] 28) := ⟨_, rfl⟩
  have hW : Below w.heap.size w wb := by rw [hwb]; exact below_alloc (Below.refl _ _) _
  have hg : wb.heap[w.heap.size]? = some (.cells #[.int .i64 p.f0, .int .i64 p.f1] 28 (0, 0)) := by rw [hwb]; exact blk_new w _
  have HW := Aside0.mk hW
  have HG := Aside0.mk hg
  have HWB := Aside0.mk hwb
  have HOWN := Aside0.mk (show some w.heap.size ≠ (Value.slice A xs.length c).ownBlock from fun he => by have := Kd.R_lt hR w.heap.size he.symm; omega)
  have HSS := Aside0.mk (fun (w' : World) (hB : Below base w w') (hg : w'.heap[w.heap.size]? = some (.cells #[.int .i64 p.f0, .int .i64 p.f1] 28 (0, 0))) => (show w'.cell? ⟨b, 3, none⟩ = some (.pointer vl) ∧ w'.cell? ⟨b, 4, none⟩ = some (.pointer vr) ∧ w'.cell? ⟨b, 0, none⟩ = some (.int .i64 y.f0.f0) ∧ w'.cell? ⟨b, 1, none⟩ = some (.int .i64 y.f0.f1) ∧ w'.cell? ⟨b, 2, none⟩ = some (.int .i64 y.f1) ∧ w'.cell? ⟨b, 6, none⟩ = some (.int .i64 E) ∧ w'.cell? ⟨w.heap.size, 0, none⟩ = some (.int .i64 p.f0) ∧ w'.cell? ⟨w.heap.size, 1, none⟩ = some (.int .i64 p.f1) from
    ⟨(blk_cell (HS.out w' hB).1 3).trans (congrArg some HVL.out), (blk_cell (HS.out w' hB).1 4).trans (congrArg some HVR.out), (blk_cell (HS.out w' hB).1 0).trans rfl, (blk_cell (HS.out w' hB).1 1).trans rfl, (blk_cell (HS.out w' hB).1 2).trans rfl, (blk_cell (HS.out w' hB).1 6).trans (congrArg (fun z => some (Value.int .i64 z)) HE.out.symm), (blk_cell hg 0).trans rfl, (blk_cell hg 1).trans rfl⟩))
  have hd0 : decide (E ≤ p.f0) = false := by simpa using c0
  have hd1 : decide (p.f1 ≤ y.f0.f0) = true := by simpa using c1
  clear h hlt hbase hR hn hn' ihl ihr hvl hvr hE c0 hW hg hwb c1
  go_enter Try.func28, Try.ntmps28
  go_wp2_with fail
  rw [← HWB.out]
  have HB0 := Aside0.mk (below_weaken' HBS.out HW.out)
  have hss := HSS.out wb.drew (below_drew HB0.out) HG.out
  refine start_ (n := 11) (S := fun w' => (w'.cell? ⟨b, 6, none⟩ = some (.int .i64 E) ∧ w'.cell? ⟨w.heap.size, 0, none⟩ = some (.int .i64 p.f0))) (ds := []) #[false, false, false, false, false, false, false, false, false, false, false] (by kernel_rfl) rfl rfl ?_ (fun hHeld => ?_)
  · exact ⟨hss.2.2.2.2.2.1, hss.2.2.2.2.2.2.1⟩
  refine pure_ (i := 0) (N := some 7) (v := ?_) (a' := ?_) #[true, false, false, false, false, false, false, false, false, false, false] rfl rfl (by kernel_rfl) (fun _ _ _ h => h) (Or.inl ⟨by rfl, ?_⟩) ?_ ?_
  rotate_left
  · intro w'
    go_simp
    with_reducible rfl
  rotate_left
  · simp only [Act.put, List.setIfInBounds_toArray, List.set_cons_zero, List.set_cons_succ, i64_w, i32_w]
    rfl
  refine pure_ (i := 1) (N := some 8) (v := ?_) (a' := ?_) #[true, true, false, false, false, false, false, false, false, false, false] rfl rfl (by kernel_rfl) (fun _ _ _ h => h) (Or.inl ⟨by rfl, ?_⟩) ?_ ?_
  rotate_left
  · intro w'
    go_simp
    with_reducible rfl
  rotate_left
  · simp only [Act.put, List.setIfInBounds_toArray, List.set_cons_zero, List.set_cons_succ, i64_w, i32_w]
    rfl
  refine pure_ (i := 2) (N := some 9) (v := ?_) (a' := ?_) #[true, true, true, false, false, false, false, false, false, false, false] rfl rfl (by kernel_rfl) (fun _ _ _ h => h) (Or.inl ⟨by rfl, ?_⟩) ?_ ?_
  rotate_left
  · intro w'
    go_simp
    with_reducible rfl
  rotate_left
  · simp only [Act.put, List.setIfInBounds_toArray, List.set_cons_zero, List.set_cons_succ, i64_w, i32_w]
    rfl
  refine pure_ (i := 3) (N := some 10) (v := ?_) (a' := ?_) #[true, true, true, true, false, false, false, false, false, false, false] rfl rfl (by kernel_rfl) (fun _ _ _ h => h) (Or.inl ⟨by rfl, ?_⟩) ?_ ?_
  rotate_left
  · intro w'
    go_simp
    with_reducible rfl
  rotate_left
  · simp only [Act.put, List.setIfInBounds_toArray, List.set_cons_zero, List.set_cons_succ, i64_w, i32_w]
    rfl
  refine pure_ (i := 4) (N := some 11) (v := ?_) (a' := ?_) #[true, true, true, true, true, false, false, false, false, false, false] rfl rfl (by kernel_rfl) (fun _ _ _ h => h) (Or.inl ⟨by rfl, ?_⟩) ?_ ?_
  rotate_left
  · intro w'
    go_simp
    with_reducible rfl
  rotate_left
  · simp only [Act.put, List.setIfInBounds_toArray, List.set_cons_zero, List.set_cons_succ, i64_w, i32_w]
    rfl
  refine pure_ (i := 5) (N := some 12) (v := ?_) (a' := ?_) #[true, true, true, true, true, true, false, false, false, false, false] rfl rfl (by kernel_rfl) (fun _ _ _ h => h) (Or.inl ⟨by rfl, ?_⟩) ?_ ?_
  rotate_left
  · intro w'
    go_simp
    with_reducible rfl
  rotate_left
  · simp only [Act.put, List.setIfInBounds_toArray, List.set_cons_zero, List.set_cons_succ, i64_w, i32_w]
    rfl
  refine take_ (i := 6) (N := some 13) (v := ?_) (a' := ?_) #[true, true, true, true, true, true, true, false, false, false, false] rfl rfl (by kernel_rfl) (fun _ _ _ h => h) (Or.inl ⟨by rfl, ?_⟩) hHeld ?_ ?_
  rotate_left
  · rintro w' ⟨s0, s1⟩
    go_simp
    with_reducible rfl
  rotate_left
  · simp only [Act.put, List.setIfInBounds_toArray, List.set_cons_zero, List.set_cons_succ, i64_w, i32_w]
    rfl
  refine pure_ (i := 7) (N := some 14) (v := ?_) (a' := ?_) #[true, true, true, true, true, true, true, true, false, false, false] rfl rfl (by kernel_rfl) (fun _ _ _ h => h) (Or.inl ⟨by rfl, ?_⟩) ?_ ?_
  rotate_left
  · intro w'
    go_simp
    with_reducible rfl
  rotate_left
  · simp only [Act.put, List.setIfInBounds_toArray, List.set_cons_zero, List.set_cons_succ, i64_w, i32_w]
    rfl
  refine take_ (i := 8) (N := some 15) (v := ?_) (a' := ?_) #[true, true, true, true, true, true, true, true, true, false, false] rfl rfl (by kernel_rfl) (fun _ _ _ h => h) (Or.inl ⟨by rfl, ?_⟩) hHeld ?_ ?_
  rotate_left
  · rintro w' ⟨s0, s1⟩
    go_simp
    with_reducible rfl
  rotate_left
  · simp only [Act.put, List.setIfInBounds_toArray, List.set_cons_zero, List.set_cons_succ, i64_w, i32_w]
    rfl
  refine pure_ (i := 9) (N := some 16) (v := ?_) (a' := ?_) #[true, true, true, true, true, true, true, true, true, true, false] rfl rfl (by kernel_rfl) (fun _ _ _ h => h) (Or.inl ⟨by rfl, ?_⟩) ?_ ?_
  rotate_left
  · intro w'
    go_simp
    with_reducible rfl
  rotate_left
  · simp only [Act.put, List.setIfInBounds_toArray, List.set_cons_zero, List.set_cons_succ, i64_w, i32_w]
    rfl
  refine pure_ (i := 10) (N := some 17) (v := ?_) (a' := ?_) #[true, true, true, true, true, true, true, true, true, true, true] rfl rfl (by kernel_rfl) (fun _ _ _ h => h) (Or.inl ⟨by rfl, ?_⟩) ?_ ?_
  rotate_left
  · intro w'
    go_simp
    with_reducible rfl
  rotate_left
  · simp only [Act.put, List.setIfInBounds_toArray, List.set_cons_zero, List.set_cons_succ, i64_w, i32_w]
    rfl
  refine done_ (by kernel_rfl) ?_
  clear hss
  go_wp2
  obtain ⟨wc, hwc⟩ : ∃ wc, wc = wb.drew := ⟨_, rfl⟩
  rw [← hwc]
  have HWc := Aside0.mk (show Below w.heap.size w wc by rw [hwc]; exact below_drew HW.out)
  have HGc := Aside0.mk (show wc.heap[w.heap.size]? = some (.cells #[.int .i64 p.f0, .int .i64 p.f1] 28 (0, 0)) by rw [hwc]; exact HG.out)
  clear hwc
  have HBc := Aside0.mk (below_weaken' HBS.out (below_drew HWc.out))
  have hss := HSS.out wc.drew HBc.out HGc.out
  refine start_ (n := 8) (S := fun w' => (w'.cell? ⟨b, 3, none⟩ = some (.pointer vl) ∧ w'.cell? ⟨w.heap.size, 0, none⟩ = some (.int .i64 p.f0) ∧ w'.cell? ⟨w.heap.size, 1, none⟩ = some (.int .i64 p.f1))) (ds := []) #[false, false, false, false, false, false, false, false] (by kernel_rfl) rfl rfl ?_ (fun hHeld => ?_)
  · exact ⟨hss.1, hss.2.2.2.2.2.2.1, hss.2.2.2.2.2.2.2⟩
  refine pure_ (i := 0) (N := some 19) (v := ?_) (a' := ?_) #[true, false, false, false, false, false, false, false] rfl rfl (by kernel_rfl) (fun _ _ _ h => h) (Or.inl ⟨by rfl, ?_⟩) ?_ ?_
  rotate_left
  · intro w'
    go_simp
    with_reducible rfl
  rotate_left
  · simp only [Act.put, List.setIfInBounds_toArray, List.set_cons_zero, List.set_cons_succ, i64_w, i32_w]
    rfl
  refine pure_ (i := 1) (N := some 20) (v := ?_) (a' := ?_) #[true, true, false, false, false, false, false, false] rfl rfl (by kernel_rfl) (fun _ _ _ h => h) (Or.inl ⟨by rfl, ?_⟩) ?_ ?_
  rotate_left
  · intro w'
    go_simp
    with_reducible rfl
  rotate_left
  · simp only [Act.put, List.setIfInBounds_toArray, List.set_cons_zero, List.set_cons_succ, i64_w, i32_w]
    rfl
  refine pure_ (i := 2) (N := some 21) (v := ?_) (a' := ?_) #[true, true, true, false, false, false, false, false] rfl rfl (by kernel_rfl) (fun _ _ _ h => h) (Or.inl ⟨by rfl, ?_⟩) ?_ ?_
  rotate_left
  · intro w'
    go_simp
    with_reducible rfl
  rotate_left
  · simp only [Act.put, List.setIfInBounds_toArray, List.set_cons_zero, List.set_cons_succ, i64_w, i32_w]
    rfl
  refine take_ (i := 3) (N := some 22) (v := ?_) (a' := ?_) #[true, true, true, true, false, false, false, false] rfl rfl (by kernel_rfl) (fun _ _ _ h => h) (Or.inl ⟨by rfl, ?_⟩) hHeld ?_ ?_
  rotate_left
  · rintro w' ⟨s0, s1, s2⟩
    go_simp
    with_reducible rfl
  rotate_left
  · simp only [Act.put, List.setIfInBounds_toArray, List.set_cons_zero, List.set_cons_succ, i64_w, i32_w]
    rfl
  refine take_ (i := 4) (N := some 23) (v := ?_) (a' := ?_) #[true, true, true, true, true, false, false, false] rfl rfl (by kernel_rfl) (fun _ _ _ h => h) (Or.inl ⟨by rfl, ?_⟩) hHeld ?_ ?_
  rotate_left
  · rintro w' ⟨s0, s1, s2⟩
    go_simp
    with_reducible rfl
  rotate_left
  · simp only [Act.put, List.setIfInBounds_toArray, List.set_cons_zero, List.set_cons_succ, i64_w, i32_w]
    rfl
  refine pure_ (i := 5) (N := some 24) (v := ?_) (a' := ?_) #[true, true, true, true, true, true, false, false] rfl rfl (by kernel_rfl) (fun _ _ _ h => h) (Or.inl ⟨by rfl, ?_⟩) ?_ ?_
  rotate_left
  · intro w'
    go_simp
    with_reducible rfl
  rotate_left
  · simp only [Act.put, List.setIfInBounds_toArray, List.set_cons_zero, List.set_cons_succ, i64_w, i32_w]
    rfl
  refine one_ (i := 6) (N := some 25) #[true, true, true, true, true, true, true, false] rfl rfl (by kernel_rfl) (by decide) (fun K hK => ?_)
  refine goes_ Try.func28 (by kernel_rfl) rfl #[.pointer vl, .agg #[.int .i64 p.f0, .int .i64 p.f1], .slice A xs.length c] (by rfl) rfl rfl (by (try simp only [List.map_toArray, List.map_cons, List.map_nil]); first | done | rfl) ?_
  refine (IL.out wc.drew _ xs ((HS.out _ HBc.out).2.1) (Nat.le_trans HBS.out (below_drew HWc.out).size) (Kd.R_drew (Kd.R_below HR.out HWc.out)) (by have := HN.out; omega)).mono ?_
  rintro e w1 ⟨v1, rfl, hR1, hG1⟩
  obtain ⟨ys, hys⟩ : ∃ ys, ys = xs ++ ovl p l.sk := ⟨_, rfl⟩
  rw [← hys] at hR1
  have HYS := Aside0.mk hys
  have HYL := Aside0.mk (show ys.length ≤ xs.length + l.list.length by have := HLL.out; rw [hys, List.length_append]; omega)
  clear hys
  have HR1 := Aside0.mk hR1
  have hx := hG1.blk HGc.out HOWN.out
  have HX1 := Aside0.mk hx.1
  have HO1 := Aside0.mk hx.2
  have HG1 := Aside0.mk (Grw.after_below (below_drew HWc.out) hG1)
  have HB1 := Aside0.mk (HG1.out.below HBS.out (fun k hk => HR.out.1 k hk))
  obtain ⟨A1, c1, rfl⟩ := Kd.R_slice HR1.out
  have hss1 := HSS.out w1 HB1.out HX1.out
  refine ⟨_, rfl, hK.out _ _ ⟨hss1.1, hss1.2.2.2.2.2.2.1, hss1.2.2.2.2.2.2.2⟩ (fun _ => ?_)⟩
  clear hK K hR1 hG1 hx hss
  refine norm_ (a' := ?_) ?_ ?_
  rotate_left
  · show Act.put _ (some 25) _ = _
    simp only [Act.put, List.setIfInBounds_toArray, List.set_cons_zero, List.set_cons_succ, i64_w, i32_w]
    rfl
  refine pure_ (i := 7) (N := some 2) (v := ?_) (a' := ?_) #[true, true, true, true, true, true, true, true] rfl rfl (by kernel_rfl) (fun _ _ _ h => h) (Or.inl ⟨by rfl, ?_⟩) ?_ ?_
  rotate_left
  · intro w'
    go_simp
    with_reducible rfl
  rotate_left
  · simp only [Act.put, List.setIfInBounds_toArray, List.set_cons_zero, List.set_cons_succ, i64_w, i32_w]
    rfl
  refine done_ (by kernel_rfl) ?_
  go_wp2
  have hss := HSS.out w1.drew (below_drew HB1.out) HX1.out
  clear hss1
  refine start_ (n := 9) (S := fun w' => (w'.cell? ⟨b, 0, none⟩ = some (.int .i64 y.f0.f0) ∧ w'.cell? ⟨w.heap.size, 1, none⟩ = some (.int .i64 p.f1))) (ds := []) #[false, false, false, false, false, false, false, false, false] (by kernel_rfl) rfl rfl ?_ (fun hHeld => ?_)
  · exact ⟨hss.2.2.1, hss.2.2.2.2.2.2.2⟩
  refine pure_ (i := 0) (N := some 26) (v := ?_) (a' := ?_) #[true, false, false, false, false, false, false, false, false] rfl rfl (by kernel_rfl) (fun _ _ _ h => h) (Or.inl ⟨by rfl, ?_⟩) ?_ ?_
  rotate_left
  · intro w'
    go_simp
    with_reducible rfl
  rotate_left
  · simp only [Act.put, List.setIfInBounds_toArray, List.set_cons_zero, List.set_cons_succ, i64_w, i32_w]
    rfl
  refine pure_ (i := 1) (N := some 27) (v := ?_) (a' := ?_) #[true, true, false, false, false, false, false, false, false] rfl rfl (by kernel_rfl) (fun _ _ _ h => h) (Or.inl ⟨by rfl, ?_⟩) ?_ ?_
  rotate_left
  · intro w'
    go_simp
    with_reducible rfl
  rotate_left
  · simp only [Act.put, List.setIfInBounds_toArray, List.set_cons_zero, List.set_cons_succ, i64_w, i32_w]
    rfl
  refine pure_ (i := 2) (N := some 28) (v := ?_) (a' := ?_) #[true, true, true, false, false, false, false, false, false] rfl rfl (by kernel_rfl) (fun _ _ _ h => h) (Or.inl ⟨by rfl, ?_⟩) ?_ ?_
  rotate_left
  · intro w'
    go_simp
    with_reducible rfl
  rotate_left
  · simp only [Act.put, List.setIfInBounds_toArray, List.set_cons_zero, List.set_cons_succ, i64_w, i32_w]
    rfl
  refine pure_ (i := 3) (N := some 29) (v := ?_) (a' := ?_) #[true, true, true, true, false, false, false, false, false] rfl rfl (by kernel_rfl) (fun _ _ _ h => h) (Or.inl ⟨by rfl, ?_⟩) ?_ ?_
  rotate_left
  · intro w'
    go_simp
    with_reducible rfl
  rotate_left
  · simp only [Act.put, List.setIfInBounds_toArray, List.set_cons_zero, List.set_cons_succ, i64_w, i32_w]
    rfl
  refine pure_ (i := 4) (N := some 30) (v := ?_) (a' := ?_) #[true, true, true, true, true, false, false, false, false] rfl rfl (by kernel_rfl) (fun _ _ _ h => h) (Or.inl ⟨by rfl, ?_⟩) ?_ ?_
  rotate_left
  · intro w'
    go_simp
    with_reducible rfl
  rotate_left
  · simp only [Act.put, List.setIfInBounds_toArray, List.set_cons_zero, List.set_cons_succ, i64_w, i32_w]
    rfl
  refine take_ (i := 5) (N := some 31) (v := ?_) (a' := ?_) #[true, true, true, true, true, true, false, false, false] rfl rfl (by kernel_rfl) (fun _ _ _ h => h) (Or.inl ⟨by rfl, ?_⟩) hHeld ?_ ?_
  rotate_left
  · rintro w' ⟨s0, s1⟩
    go_simp
    with_reducible rfl
  rotate_left
  · simp only [Act.put, List.setIfInBounds_toArray, List.set_cons_zero, List.set_cons_succ, i64_w, i32_w]
    rfl
  refine pure_ (i := 6) (N := some 32) (v := ?_) (a' := ?_) #[true, true, true, true, true, true, true, false, false] rfl rfl (by kernel_rfl) (fun _ _ _ h => h) (Or.inl ⟨by rfl, ?_⟩) ?_ ?_
  rotate_left
  · intro w'
    go_simp
    with_reducible rfl
  rotate_left
  · simp only [Act.put, List.setIfInBounds_toArray, List.set_cons_zero, List.set_cons_succ, i64_w, i32_w]
    rfl
  refine take_ (i := 7) (N := some 33) (v := ?_) (a' := ?_) #[true, true, true, true, true, true, true, true, false] rfl rfl (by kernel_rfl) (fun _ _ _ h => h) (Or.inl ⟨by rfl, ?_⟩) hHeld ?_ ?_
  rotate_left
  · rintro w' ⟨s0, s1⟩
    go_simp
    with_reducible rfl
  rotate_left
  · simp only [Act.put, List.setIfInBounds_toArray, List.set_cons_zero, List.set_cons_succ, i64_w, i32_w]
    rfl
  refine pure_ (i := 8) (N := some 34) (v := ?_) (a' := ?_) #[true, true, true, true, true, true, true, true, true] rfl rfl (by kernel_rfl) (fun _ _ _ h => h) (Or.inl ⟨by rfl, ?_⟩) ?_ ?_
  rotate_left
  · intro w'
    go_simp
    with_reducible rfl
  rotate_left
  · simp only [Act.put, List.setIfInBounds_toArray, List.set_cons_zero, List.set_cons_succ, i64_w, i32_w]
    rfl
  refine done_ (by kernel_rfl) ?_
  clear hss
  go_wp2
  go_ret
  exact ⟨_, rfl, by rw [← HYS.out]; exact Kd.R_drew HR1.out, HG1.out.then_below (below_drew (Below.refl _ _))⟩
set_option maxHeartbeats 1000000 in
set_option maxRecDepth 100000 in
theorem overlap_2 (p : S28) (b : Nat) (y : S30) (l r : BT) (base : Nat) (w : World) (v : Value) (xs : List Int) (h : (Tr.nd (b, y) l r).At w) (hlt : ∀ k ∈ (Tr.nd (b, y) l r).blks, k < base) (hbase : base ≤ w.heap.size) (hR : RN w base v xs) (hn : xs.length + (Tr.nd (b, y) l r).list.length ≤ 1000000)
    (ihl : ∀ (w : World) (v : Value) (xs : List Int), l.At w → base ≤ w.heap.size → RN w base v xs → xs.length + l.list.length ≤ 1000000 → Calls Try.prog 28 #[l.ptr, .agg #[.int .i64 p.f0, .int .i64 p.f1], v] w (OPost base w v (xs ++ ovl p l.sk)))
    (ihr : ∀ (w : World) (v : Value) (xs : List Int), r.At w → base ≤ w.heap.size → RN w base v xs → xs.length + r.list.length ≤ 1000000 → Calls Try.prog 28 #[r.ptr, .agg #[.int .i64 p.f0, .int .i64 p.f1], v] w (OPost base w v (xs ++ ovl p r.sk)))
    (c0 : ¬ (Tr.nd (b, y) l r).sk.en ≤ p.f0) (c1 : ¬ p.f1 ≤ y.f0.f0) (c2 : ¬ p.f0 < y.f0.f1) :
    Calls Try.prog 28 #[.pointer (some ⟨b, 0, none⟩), .agg #[.int .i64 p.f0, .int .i64 p.f1], v] w (OPost base w v (xs ++ (ovl p l.sk ++ ovl p r.sk))) := by
  obtain ⟨A, c, rfl⟩ := Kd.R_slice hR
  obtain ⟨E, hE⟩ : ∃ E, E = (Tr.nd (b, y) l r).sk.en := ⟨_, rfl⟩
  rw [← hE] at c0
  have HS := Aside0.mk (fun (w' : World) (hB : Below base w w') => (show (Tr.nd (b, y) l r).At w' from h.keep (fun k hk _ => hB.block k (hlt k hk))))
  obtain ⟨vl, hvl⟩ := ptr_pointer l
  obtain ⟨vr, hvr⟩ := ptr_pointer r
  rw [hvl] at ihl
  rw [hvr] at ihr
  have HVL := Aside0.mk hvl
  have HVR := Aside0.mk hvr
  have IL := Aside0.mk ihl
  have IR := Aside0.mk ihr
  have HR := Aside0.mk hR
  have HBS := Aside0.mk hbase
  have hn' : xs.length + l.list.length + 1 + r.list.length ≤ 1000000 := by simp only [Tr.list, List.length_append, List.length_cons] at hn; omega
  have HN := Aside0.mk hn'
  have HLL := Aside0.mk (show (ovl p l.sk).length ≤ l.list.length by have := ovl_length p l.sk; rw [Tr.list_map, List.length_map] at this; exact this)
  have hu28 := Try.underlying28
  have hu30 := Try.underlying30
  have hu69 := Try.underlying69
  have HE := Aside0.mk hE
  obtain ⟨wb, hwb⟩ : ∃ wb, wb = w.alloc (.cells #[.int .i64 p.f0, .int .i64 p.f1] 28) := ⟨_, rfl⟩
  have hW : Below w.heap.size w wb := by rw [hwb]; exact below_alloc (Below.refl _ _) _
  have hg : wb.heap[w.heap.size]? = some (.cells #[.int .i64 p.f0, .int .i64 p.f1] 28 (0, 0)) := by rw [hwb]; exact blk_new w _
  have HW := Aside0.mk hW
  have HG := Aside0.mk hg
  have HWB := Aside0.mk hwb
  have HOWN := Aside0.mk (show some w.heap.size ≠ (Value.slice A xs.length c).ownBlock from fun he => by have := Kd.R_lt hR w.heap.size he.symm; omega)
  have HSS := Aside0.mk (fun (w' : World) (hB : Below base w w') (hg : w'.heap[w.heap.size]? = some (.cells #[.int .i64 p.f0, .int .i64 p.f1] 28 (0, 0))) => (show w'.cell? ⟨b, 3, none⟩ = some (.pointer vl) ∧ w'.cell? ⟨b, 4, none⟩ = some (.pointer vr) ∧ w'.cell? ⟨b, 0, none⟩ = some (.int .i64 y.f0.f0) ∧ w'.cell? ⟨b, 1, none⟩ = some (.int .i64 y.f0.f1) ∧ w'.cell? ⟨b, 2, none⟩ = some (.int .i64 y.f1) ∧ w'.cell? ⟨b, 6, none⟩ = some (.int .i64 E) ∧ w'.cell? ⟨w.heap.size, 0, none⟩ = some (.int .i64 p.f0) ∧ w'.cell? ⟨w.heap.size, 1, none⟩ = some (.int .i64 p.f1) from
    ⟨(blk_cell (HS.out w' hB).1 3).trans (congrArg some HVL.out), (blk_cell (HS.out w' hB).1 4).trans (congrArg some HVR.out), (blk_cell (HS.out w' hB).1 0).trans rfl, (blk_cell (HS.out w' hB).1 1).trans rfl, (blk_cell (HS.out w' hB).1 2).trans rfl, (blk_cell (HS.out w' hB).1 6).trans (congrArg (fun z => some (Value.int .i64 z)) HE.out.symm), (blk_cell hg 0).trans rfl, (blk_cell hg 1).trans rfl⟩))
  have hd0 : decide (E ≤ p.f0) = false := by simpa using c0
  have hd1 : decide (p.f1 ≤ y.f0.f0) = false := by simpa using c1
  have hd2 : decide (p.f0 < y.f0.f1) = false := by simpa using c2
  clear h hlt hbase hR hn hn' ihl ihr hvl hvr hE c0 hW hg hwb c1 c2
  go_enter Try.func28, Try.ntmps28
  go_wp2_with fail
  rw [← HWB.out]
  have HB0 := Aside0.mk (below_weaken' HBS.out HW.out)
  have hss := HSS.out wb.drew (below_drew HB0.out) HG.out
  refine start_ (n := 11) (S := fun w' => (w'.cell? ⟨b, 6, none⟩ = some (.int .i64 E) ∧ w'.cell? ⟨w.heap.size, 0, none⟩ = some (.int .i64 p.f0))) (ds := []) #[false, false, false, false, false, false, false, false, false, false, false] (by kernel_rfl) rfl rfl ?_ (fun hHeld => ?_)
  · exact ⟨hss.2.2.2.2.2.1, hss.2.2.2.2.2.2.1⟩
  refine pure_ (i := 0) (N := some 7) (v := ?_) (a' := ?_) #[true, false, false, false, false, false, false, false, false, false, false] rfl rfl (by kernel_rfl) (fun _ _ _ h => h) (Or.inl ⟨by rfl, ?_⟩) ?_ ?_
  rotate_left
  · intro w'
    go_simp
    with_reducible rfl
  rotate_left
  · simp only [Act.put, List.setIfInBounds_toArray, List.set_cons_zero, List.set_cons_succ, i64_w, i32_w]
    rfl
  refine pure_ (i := 1) (N := some 8) (v := ?_) (a' := ?_) #[true, true, false, false, false, false, false, false, false, false, false] rfl rfl (by kernel_rfl) (fun _ _ _ h => h) (Or.inl ⟨by rfl, ?_⟩) ?_ ?_
  rotate_left
  · intro w'
    go_simp
    with_reducible rfl
  rotate_left
  · simp only [Act.put, List.setIfInBounds_toArray, List.set_cons_zero, List.set_cons_succ, i64_w, i32_w]
    rfl
  refine pure_ (i := 2) (N := some 9) (v := ?_) (a' := ?_) #[true, true, true, false, false, false, false, false, false, false, false] rfl rfl (by kernel_rfl) (fun _ _ _ h => h) (Or.inl ⟨by rfl, ?_⟩) ?_ ?_
  rotate_left
  · intro w'
    go_simp
    with_reducible rfl
  rotate_left
  · simp only [Act.put, List.setIfInBounds_toArray, List.set_cons_zero, List.set_cons_succ, i64_w, i32_w]
    rfl
  refine pure_ (i := 3) (N := some 10) (v := ?_) (a' := ?_) #[true, true, true, true, false, false, false, false, false, false, false] rfl rfl (by kernel_rfl) (fun _ _ _ h => h) (Or.inl ⟨by rfl, ?_⟩) ?_ ?_
  rotate_left
  · intro w'
    go_simp
    with_reducible rfl
  rotate_left
  · simp only [Act.put, List.setIfInBounds_toArray, List.set_cons_zero, List.set_cons_succ, i64_w, i32_w]
    rfl
  refine pure_ (i := 4) (N := some 11) (v := ?_) (a' := ?_) #[true, true, true, true, true, false, false, false, false, false, false] rfl rfl (by kernel_rfl) (fun _ _ _ h => h) (Or.inl ⟨by rfl, ?_⟩) ?_ ?_
  rotate_left
  · intro w'
    go_simp
    with_reducible rfl
  rotate_left
  · simp only [Act.put, List.setIfInBounds_toArray, List.set_cons_zero, List.set_cons_succ, i64_w, i32_w]
    rfl
  refine pure_ (i := 5) (N := some 12) (v := ?_) (a' := ?_) #[true, true, true, true, true, true, false, false, false, false, false] rfl rfl (by kernel_rfl) (fun _ _ _ h => h) (Or.inl ⟨by rfl, ?_⟩) ?_ ?_
  rotate_left
  · intro w'
    go_simp
    with_reducible rfl
  rotate_left
  · simp only [Act.put, List.setIfInBounds_toArray, List.set_cons_zero, List.set_cons_succ, i64_w, i32_w]
    rfl
  refine take_ (i := 6) (N := some 13) (v := ?_) (a' := ?_) #[true, true, true, true, true, true, true, false, false, false, false] rfl rfl (by kernel_rfl) (fun _ _ _ h => h) (Or.inl ⟨by rfl, ?_⟩) hHeld ?_ ?_
  rotate_left
  · rintro w' ⟨s0, s1⟩
    go_simp
    with_reducible rfl
  rotate_left
  · simp only [Act.put, List.setIfInBounds_toArray, List.set_cons_zero, List.set_cons_succ, i64_w, i32_w]
    rfl
  refine pure_ (i := 7) (N := some 14) (v := ?_) (a' := ?_) #[true, true, true, true, true, true, true, true, false, false, false] rfl rfl (by kernel_rfl) (fun _ _ _ h => h) (Or.inl ⟨by rfl, ?_⟩) ?_ ?_
  rotate_left
  · intro w'
    go_simp
    with_reducible rfl
  rotate_left
  · simp only [Act.put, List.setIfInBounds_toArray, List.set_cons_zero, List.set_cons_succ, i64_w, i32_w]
    rfl
  refine take_ (i := 8) (N := some 15) (v := ?_) (a' := ?_) #[true, true, true, true, true, true, true, true, true, false, false] rfl rfl (by kernel_rfl) (fun _ _ _ h => h) (Or.inl ⟨by rfl, ?_⟩) hHeld ?_ ?_
  rotate_left
  · rintro w' ⟨s0, s1⟩
    go_simp
    with_reducible rfl
  rotate_left
  · simp only [Act.put, List.setIfInBounds_toArray, List.set_cons_zero, List.set_cons_succ, i64_w, i32_w]
    rfl
  refine pure_ (i := 9) (N := some 16) (v := ?_) (a' := ?_) #[true, true, true, true, true, true, true, true, true, true, false] rfl rfl (by kernel_rfl) (fun _ _ _ h => h) (Or.inl ⟨by rfl, ?_⟩) ?_ ?_
  rotate_left
  · intro w'
    go_simp
    with_reducible rfl
  rotate_left
  · simp only [Act.put, List.setIfInBounds_toArray, List.set_cons_zero, List.set_cons_succ, i64_w, i32_w]
    rfl
  refine pure_ (i := 10) (N := some 17) (v := ?_) (a' := ?_) #[true, true, true, true, true, true, true, true, true, true, true] rfl rfl (by kernel_rfl) (fun _ _ _ h => h) (Or.inl ⟨by rfl, ?_⟩) ?_ ?_
  rotate_left
  · intro w'
    go_simp
    with_reducible rfl
  rotate_left
  · simp only [Act.put, List.setIfInBounds_toArray, List.set_cons_zero, List.set_cons_succ, i64_w, i32_w]
    rfl
  refine done_ (by kernel_rfl) ?_
  clear hss
  go_wp2
  obtain ⟨wc, hwc⟩ : ∃ wc, wc = wb.drew := ⟨_, rfl⟩
  rw [← hwc]
  have HWc := Aside0.mk (show Below w.heap.size w wc by rw [hwc]; exact below_drew HW.out)
  have HGc := Aside0.mk (show wc.heap[w.heap.size]? = some (.cells #[.int .i64 p.f0, .int .i64 p.f1] 28 (0, 0)) by rw [hwc]; exact HG.out)
  clear hwc
  have HBc := Aside0.mk (below_weaken' HBS.out (below_drew HWc.out))
  have hss := HSS.out wc.drew HBc.out HGc.out
  refine start_ (n := 8) (S := fun w' => (w'.cell? ⟨b, 3, none⟩ = some (.pointer vl) ∧ w'.cell? ⟨w.heap.size, 0, none⟩ = some (.int .i64 p.f0) ∧ w'.cell? ⟨w.heap.size, 1, none⟩ = some (.int .i64 p.f1))) (ds := []) #[false, false, false, false, false, false, false, false] (by kernel_rfl) rfl rfl ?_ (fun hHeld => ?_)
  · exact ⟨hss.1, hss.2.2.2.2.2.2.1, hss.2.2.2.2.2.2.2⟩
  refine pure_ (i := 0) (N := some 19) (v := ?_) (a' := ?_) #[true, false, false, false, false, false, false, false] rfl rfl (by kernel_rfl) (fun _ _ _ h => h) (Or.inl ⟨by rfl, ?_⟩) ?_ ?_
  rotate_left
  · intro w'
    go_simp
    with_reducible rfl
  rotate_left
  · simp only [Act.put, List.setIfInBounds_toArray, List.set_cons_zero, List.set_cons_succ, i64_w, i32_w]
    rfl
  refine pure_ (i := 1) (N := some 20) (v := ?_) (a' := ?_) #[true, true, false, false, false, false, false, false] rfl rfl (by kernel_rfl) (fun _ _ _ h => h) (Or.inl ⟨by rfl, ?_⟩) ?_ ?_
  rotate_left
  · intro w'
    go_simp
    with_reducible rfl
  rotate_left
  · simp only [Act.put, List.setIfInBounds_toArray, List.set_cons_zero, List.set_cons_succ, i64_w, i32_w]
    rfl
  refine pure_ (i := 2) (N := some 21) (v := ?_) (a' := ?_) #[true, true, true, false, false, false, false, false] rfl rfl (by kernel_rfl) (fun _ _ _ h => h) (Or.inl ⟨by rfl, ?_⟩) ?_ ?_
  rotate_left
  · intro w'
    go_simp
    with_reducible rfl
  rotate_left
  · simp only [Act.put, List.setIfInBounds_toArray, List.set_cons_zero, List.set_cons_succ, i64_w, i32_w]
    rfl
  refine take_ (i := 3) (N := some 22) (v := ?_) (a' := ?_) #[true, true, true, true, false, false, false, false] rfl rfl (by kernel_rfl) (fun _ _ _ h => h) (Or.inl ⟨by rfl, ?_⟩) hHeld ?_ ?_
  rotate_left
  · rintro w' ⟨s0, s1, s2⟩
    go_simp
    with_reducible rfl
  rotate_left
  · simp only [Act.put, List.setIfInBounds_toArray, List.set_cons_zero, List.set_cons_succ, i64_w, i32_w]
    rfl
  refine take_ (i := 4) (N := some 23) (v := ?_) (a' := ?_) #[true, true, true, true, true, false, false, false] rfl rfl (by kernel_rfl) (fun _ _ _ h => h) (Or.inl ⟨by rfl, ?_⟩) hHeld ?_ ?_
  rotate_left
  · rintro w' ⟨s0, s1, s2⟩
    go_simp
    with_reducible rfl
  rotate_left
  · simp only [Act.put, List.setIfInBounds_toArray, List.set_cons_zero, List.set_cons_succ, i64_w, i32_w]
    rfl
  refine pure_ (i := 5) (N := some 24) (v := ?_) (a' := ?_) #[true, true, true, true, true, true, false, false] rfl rfl (by kernel_rfl) (fun _ _ _ h => h) (Or.inl ⟨by rfl, ?_⟩) ?_ ?_
  rotate_left
  · intro w'
    go_simp
    with_reducible rfl
  rotate_left
  · simp only [Act.put, List.setIfInBounds_toArray, List.set_cons_zero, List.set_cons_succ, i64_w, i32_w]
    rfl
  refine one_ (i := 6) (N := some 25) #[true, true, true, true, true, true, true, false] rfl rfl (by kernel_rfl) (by decide) (fun K hK => ?_)
  refine goes_ Try.func28 (by kernel_rfl) rfl #[.pointer vl, .agg #[.int .i64 p.f0, .int .i64 p.f1], .slice A xs.length c] (by rfl) rfl rfl (by (try simp only [List.map_toArray, List.map_cons, List.map_nil]); first | done | rfl) ?_
  refine (IL.out wc.drew _ xs ((HS.out _ HBc.out).2.1) (Nat.le_trans HBS.out (below_drew HWc.out).size) (Kd.R_drew (Kd.R_below HR.out HWc.out)) (by have := HN.out; omega)).mono ?_
  rintro e w1 ⟨v1, rfl, hR1, hG1⟩
  obtain ⟨ys, hys⟩ : ∃ ys, ys = xs ++ ovl p l.sk := ⟨_, rfl⟩
  rw [← hys] at hR1
  have HYS := Aside0.mk hys
  have HYL := Aside0.mk (show ys.length ≤ xs.length + l.list.length by have := HLL.out; rw [hys, List.length_append]; omega)
  clear hys
  have HR1 := Aside0.mk hR1
  have hx := hG1.blk HGc.out HOWN.out
  have HX1 := Aside0.mk hx.1
  have HO1 := Aside0.mk hx.2
  have HG1 := Aside0.mk (Grw.after_below (below_drew HWc.out) hG1)
  have HB1 := Aside0.mk (HG1.out.below HBS.out (fun k hk => HR.out.1 k hk))
  obtain ⟨A1, c1, rfl⟩ := Kd.R_slice HR1.out
  have hss1 := HSS.out w1 HB1.out HX1.out
  refine ⟨_, rfl, hK.out _ _ ⟨hss1.1, hss1.2.2.2.2.2.2.1, hss1.2.2.2.2.2.2.2⟩ (fun _ => ?_)⟩
  clear hK K hR1 hG1 hx hss
  refine norm_ (a' := ?_) ?_ ?_
  rotate_left
  · show Act.put _ (some 25) _ = _
    simp only [Act.put, List.setIfInBounds_toArray, List.set_cons_zero, List.set_cons_succ, i64_w, i32_w]
    rfl
  refine pure_ (i := 7) (N := some 2) (v := ?_) (a' := ?_) #[true, true, true, true, true, true, true, true] rfl rfl (by kernel_rfl) (fun _ _ _ h => h) (Or.inl ⟨by rfl, ?_⟩) ?_ ?_
  rotate_left
  · intro w'
    go_simp
    with_reducible rfl
  rotate_left
  · simp only [Act.put, List.setIfInBounds_toArray, List.set_cons_zero, List.set_cons_succ, i64_w, i32_w]
    rfl
  refine done_ (by kernel_rfl) ?_
  go_wp2
  have hss := HSS.out w1.drew (below_drew HB1.out) HX1.out
  clear hss1
  refine start_ (n := 9) (S := fun w' => (w'.cell? ⟨b, 0, none⟩ = some (.int .i64 y.f0.f0) ∧ w'.cell? ⟨w.heap.size, 1, none⟩ = some (.int .i64 p.f1))) (ds := []) #[false, false, false, false, false, false, false, false, false] (by kernel_rfl) rfl rfl ?_ (fun hHeld => ?_)
  · exact ⟨hss.2.2.1, hss.2.2.2.2.2.2.2⟩
  refine pure_ (i := 0) (N := some 26) (v := ?_) (a' := ?_) #[true, false, false, false, false, false, false, false, false] rfl rfl (by kernel_rfl) (fun _ _ _ h => h) (Or.inl ⟨by rfl, ?_⟩) ?_ ?_
  rotate_left
  · intro w'
    go_simp
    with_reducible rfl
  rotate_left
  · simp only [Act.put, List.setIfInBounds_toArray, List.set_cons_zero, List.set_cons_succ, i64_w, i32_w]
    rfl
  refine pure_ (i := 1) (N := some 27) (v := ?_) (a' := ?_) #[true, true, false, false, false, false, false, false, false] rfl rfl (by kernel_rfl) (fun _ _ _ h => h) (Or.inl ⟨by rfl, ?_⟩) ?_ ?_
  rotate_left
  · intro w'
    go_simp
    with_reducible rfl
  rotate_left
  · simp only [Act.put, List.setIfInBounds_toArray, List.set_cons_zero, List.set_cons_succ, i64_w, i32_w]
    rfl
  refine pure_ (i := 2) (N := some 28) (v := ?_) (a' := ?_) #[true, true, true, false, false, false, false, false, false] rfl rfl (by kernel_rfl) (fun _ _ _ h => h) (Or.inl ⟨by rfl, ?_⟩) ?_ ?_
  rotate_left
  · intro w'
    go_simp
    with_reducible rfl
  rotate_left
  · simp only [Act.put, List.setIfInBounds_toArray, List.set_cons_zero, List.set_cons_succ, i64_w, i32_w]
    rfl
  refine pure_ (i := 3) (N := some 29) (v := ?_) (a' := ?_) #[true, true, true, true, false, false, false, false, false] rfl rfl (by kernel_rfl) (fun _ _ _ h => h) (Or.inl ⟨by rfl, ?_⟩) ?_ ?_
  rotate_left
  · intro w'
    go_simp
    with_reducible rfl
  rotate_left
  · simp only [Act.put, List.setIfInBounds_toArray, List.set_cons_zero, List.set_cons_succ, i64_w, i32_w]
    rfl
  refine pure_ (i := 4) (N := some 30) (v := ?_) (a' := ?_) #[true, true, true, true, true, false, false, false, false] rfl rfl (by kernel_rfl) (fun _ _ _ h => h) (Or.inl ⟨by rfl, ?_⟩) ?_ ?_
  rotate_left
  · intro w'
    go_simp
    with_reducible rfl
  rotate_left
  · simp only [Act.put, List.setIfInBounds_toArray, List.set_cons_zero, List.set_cons_succ, i64_w, i32_w]
    rfl
  refine take_ (i := 5) (N := some 31) (v := ?_) (a' := ?_) #[true, true, true, true, true, true, false, false, false] rfl rfl (by kernel_rfl) (fun _ _ _ h => h) (Or.inl ⟨by rfl, ?_⟩) hHeld ?_ ?_
  rotate_left
  · rintro w' ⟨s0, s1⟩
    go_simp
    with_reducible rfl
  rotate_left
  · simp only [Act.put, List.setIfInBounds_toArray, List.set_cons_zero, List.set_cons_succ, i64_w, i32_w]
    rfl
  refine pure_ (i := 6) (N := some 32) (v := ?_) (a' := ?_) #[true, true, true, true, true, true, true, false, false] rfl rfl (by kernel_rfl) (fun _ _ _ h => h) (Or.inl ⟨by rfl, ?_⟩) ?_ ?_
  rotate_left
  · intro w'
    go_simp
    with_reducible rfl
  rotate_left
  · simp only [Act.put, List.setIfInBounds_toArray, List.set_cons_zero, List.set_cons_succ, i64_w, i32_w]
    rfl
  refine take_ (i := 7) (N := some 33) (v := ?_) (a' := ?_) #[true, true, true, true, true, true, true, true, false] rfl rfl (by kernel_rfl) (fun _ _ _ h => h) (Or.inl ⟨by rfl, ?_⟩) hHeld ?_ ?_
  rotate_left
  · rintro w' ⟨s0, s1⟩
    go_simp
    with_reducible rfl
  rotate_left
  · simp only [Act.put, List.setIfInBounds_toArray, List.set_cons_zero, List.set_cons_succ, i64_w, i32_w]
    rfl
  refine pure_ (i := 8) (N := some 34) (v := ?_) (a' := ?_) #[true, true, true, true, true, true, true, true, true] rfl rfl (by kernel_rfl) (fun _ _ _ h => h) (Or.inl ⟨by rfl, ?_⟩) ?_ ?_
  rotate_left
  · intro w'
    go_simp
    with_reducible rfl
  rotate_left
  · simp only [Act.put, List.setIfInBounds_toArray, List.set_cons_zero, List.set_cons_succ, i64_w, i32_w]
    rfl
  refine done_ (by kernel_rfl) ?_
  clear hss
  go_wp2
  obtain ⟨w2, hw2⟩ : ∃ w2, w2 = w1.drew := ⟨_, rfl⟩
  rw [← hw2]
  have HR2 := Aside0.mk (show RN w2 base (.slice A1 ys.length c1) ys by rw [hw2]; exact Kd.R_drew HR1.out)
  have HX2 := Aside0.mk (show w2.heap[w.heap.size]? = some (.cells #[.int .i64 p.f0, .int .i64 p.f1] 28 (0, 0)) by rw [hw2]; exact HX1.out)
  have HG2 := Aside0.mk (show Grw w w2 (.slice A xs.length c) (.slice A1 ys.length c1) by rw [hw2]; exact HG1.out.then_below (below_drew (Below.refl _ _)))
  have HB2 := Aside0.mk (show Below base w w2 by rw [hw2]; exact below_drew HB1.out)
  clear hw2 HR1 HX1 HG1 HB1
  have hss := HSS.out w2.drew (below_drew HB2.out) HX2.out
  refine start_ (n := 9) (S := fun w' => (w'.cell? ⟨b, 1, none⟩ = some (.int .i64 y.f0.f1) ∧ w'.cell? ⟨w.heap.size, 0, none⟩ = some (.int .i64 p.f0))) (ds := []) #[false, false, false, false, false, false, false, false, false] (by kernel_rfl) rfl rfl ?_ (fun hHeld => ?_)
  · exact ⟨hss.2.2.2.1, hss.2.2.2.2.2.2.1⟩
  refine pure_ (i := 0) (N := some 36) (v := ?_) (a' := ?_) #[true, false, false, false, false, false, false, false, false] rfl rfl (by kernel_rfl) (fun _ _ _ h => h) (Or.inl ⟨by rfl, ?_⟩) ?_ ?_
  rotate_left
  · intro w'
    go_simp
    with_reducible rfl
  rotate_left
  · simp only [Act.put, List.setIfInBounds_toArray, List.set_cons_zero, List.set_cons_succ, i64_w, i32_w]
    rfl
  refine pure_ (i := 1) (N := some 37) (v := ?_) (a' := ?_) #[true, true, false, false, false, false, false, false, false] rfl rfl (by kernel_rfl) (fun _ _ _ h => h) (Or.inl ⟨by rfl, ?_⟩) ?_ ?_
  rotate_left
  · intro w'
    go_simp
    with_reducible rfl
  rotate_left
  · simp only [Act.put, List.setIfInBounds_toArray, List.set_cons_zero, List.set_cons_succ, i64_w, i32_w]
    rfl
  refine pure_ (i := 2) (N := some 38) (v := ?_) (a' := ?_) #[true, true, true, false, false, false, false, false, false] rfl rfl (by kernel_rfl) (fun _ _ _ h => h) (Or.inl ⟨by rfl, ?_⟩) ?_ ?_
  rotate_left
  · intro w'
    go_simp
    with_reducible rfl
  rotate_left
  · simp only [Act.put, List.setIfInBounds_toArray, List.set_cons_zero, List.set_cons_succ, i64_w, i32_w]
    rfl
  refine pure_ (i := 3) (N := some 39) (v := ?_) (a' := ?_) #[true, true, true, true, false, false, false, false, false] rfl rfl (by kernel_rfl) (fun _ _ _ h => h) (Or.inl ⟨by rfl, ?_⟩) ?_ ?_
  rotate_left
  · intro w'
    go_simp
    with_reducible rfl
  rotate_left
  · simp only [Act.put, List.setIfInBounds_toArray, List.set_cons_zero, List.set_cons_succ, i64_w, i32_w]
    rfl
  refine pure_ (i := 4) (N := some 40) (v := ?_) (a' := ?_) #[true, true, true, true, true, false, false, false, false] rfl rfl (by kernel_rfl) (fun _ _ _ h => h) (Or.inl ⟨by rfl, ?_⟩) ?_ ?_
  rotate_left
  · intro w'
    go_simp
    with_reducible rfl
  rotate_left
  · simp only [Act.put, List.setIfInBounds_toArray, List.set_cons_zero, List.set_cons_succ, i64_w, i32_w]
    rfl
  refine take_ (i := 5) (N := some 41) (v := ?_) (a' := ?_) #[true, true, true, true, true, true, false, false, false] rfl rfl (by kernel_rfl) (fun _ _ _ h => h) (Or.inl ⟨by rfl, ?_⟩) hHeld ?_ ?_
  rotate_left
  · rintro w' ⟨s0, s1⟩
    go_simp
    with_reducible rfl
  rotate_left
  · simp only [Act.put, List.setIfInBounds_toArray, List.set_cons_zero, List.set_cons_succ, i64_w, i32_w]
    rfl
  refine pure_ (i := 6) (N := some 42) (v := ?_) (a' := ?_) #[true, true, true, true, true, true, true, false, false] rfl rfl (by kernel_rfl) (fun _ _ _ h => h) (Or.inl ⟨by rfl, ?_⟩) ?_ ?_
  rotate_left
  · intro w'
    go_simp
    with_reducible rfl
  rotate_left
  · simp only [Act.put, List.setIfInBounds_toArray, List.set_cons_zero, List.set_cons_succ, i64_w, i32_w]
    rfl
  refine take_ (i := 7) (N := some 43) (v := ?_) (a' := ?_) #[true, true, true, true, true, true, true, true, false] rfl rfl (by kernel_rfl) (fun _ _ _ h => h) (Or.inl ⟨by rfl, ?_⟩) hHeld ?_ ?_
  rotate_left
  · rintro w' ⟨s0, s1⟩
    go_simp
    with_reducible rfl
  rotate_left
  · simp only [Act.put, List.setIfInBounds_toArray, List.set_cons_zero, List.set_cons_succ, i64_w, i32_w]
    rfl
  refine pure_ (i := 8) (N := some 44) (v := ?_) (a' := ?_) #[true, true, true, true, true, true, true, true, true] rfl rfl (by kernel_rfl) (fun _ _ _ h => h) (Or.inl ⟨by rfl, ?_⟩) ?_ ?_
  rotate_left
  · intro w'
    go_simp
    with_reducible rfl
  rotate_left
  · simp only [Act.put, List.setIfInBounds_toArray, List.set_cons_zero, List.set_cons_succ, i64_w, i32_w]
    rfl
  refine done_ (by kernel_rfl) ?_
  clear hss
  go_wp2
  obtain ⟨w3, hw3⟩ : ∃ w3, w3 = w2.drew := ⟨_, rfl⟩
  rw [← hw3]
  have HR3 := Aside0.mk (show RN w3 base (.slice A1 ys.length c1) ys by rw [hw3]; exact Kd.R_drew HR2.out)
  have HG3 := Aside0.mk (show Grw w w3 (.slice A xs.length c) (.slice A1 ys.length c1) by rw [hw3]; exact HG2.out.then_below (below_drew (Below.refl _ _)))
  have HX3 := Aside0.mk (show w3.heap[w.heap.size]? = some (.cells #[.int .i64 p.f0, .int .i64 p.f1] 28 (0, 0)) by rw [hw3]; exact HX2.out)
  clear hw3 HR2 HX2 HG2 HB2
  have HO3 := Aside0.mk (show some w.heap.size ≠ (.slice A1 ys.length c1 : Value).ownBlock from HO1.out)
  have HB3 := Aside0.mk (HG3.out.below HBS.out (fun k hk => HR.out.1 k hk))
  have hss := HSS.out w3.drew (below_drew HB3.out) HX3.out
  refine start_ (n := 8) (S := fun w' => (w'.cell? ⟨b, 4, none⟩ = some (.pointer vr) ∧ w'.cell? ⟨w.heap.size, 0, none⟩ = some (.int .i64 p.f0) ∧ w'.cell? ⟨w.heap.size, 1, none⟩ = some (.int .i64 p.f1))) (ds := []) #[false, false, false, false, false, false, false, false] (by kernel_rfl) rfl rfl ?_ (fun hHeld => ?_)
  · exact ⟨hss.2.1, hss.2.2.2.2.2.2.1, hss.2.2.2.2.2.2.2⟩
  refine pure_ (i := 0) (N := some 53) (v := ?_) (a' := ?_) #[true, false, false, false, false, false, false, false] rfl rfl (by kernel_rfl) (fun _ _ _ h => h) (Or.inl ⟨by rfl, ?_⟩) ?_ ?_
  rotate_left
  · intro w'
    go_simp
    with_reducible rfl
  rotate_left
  · simp only [Act.put, List.setIfInBounds_toArray, List.set_cons_zero, List.set_cons_succ, i64_w, i32_w]
    rfl
  refine pure_ (i := 1) (N := some 54) (v := ?_) (a' := ?_) #[true, true, false, false, false, false, false, false] rfl rfl (by kernel_rfl) (fun _ _ _ h => h) (Or.inl ⟨by rfl, ?_⟩) ?_ ?_
  rotate_left
  · intro w'
    go_simp
    with_reducible rfl
  rotate_left
  · simp only [Act.put, List.setIfInBounds_toArray, List.set_cons_zero, List.set_cons_succ, i64_w, i32_w]
    rfl
  refine pure_ (i := 2) (N := some 55) (v := ?_) (a' := ?_) #[true, true, true, false, false, false, false, false] rfl rfl (by kernel_rfl) (fun _ _ _ h => h) (Or.inl ⟨by rfl, ?_⟩) ?_ ?_
  rotate_left
  · intro w'
    go_simp
    with_reducible rfl
  rotate_left
  · simp only [Act.put, List.setIfInBounds_toArray, List.set_cons_zero, List.set_cons_succ, i64_w, i32_w]
    rfl
  refine take_ (i := 3) (N := some 56) (v := ?_) (a' := ?_) #[true, true, true, true, false, false, false, false] rfl rfl (by kernel_rfl) (fun _ _ _ h => h) (Or.inl ⟨by rfl, ?_⟩) hHeld ?_ ?_
  rotate_left
  · rintro w' ⟨s0, s1, s2⟩
    go_simp
    with_reducible rfl
  rotate_left
  · simp only [Act.put, List.setIfInBounds_toArray, List.set_cons_zero, List.set_cons_succ, i64_w, i32_w]
    rfl
  refine take_ (i := 4) (N := some 57) (v := ?_) (a' := ?_) #[true, true, true, true, true, false, false, false] rfl rfl (by kernel_rfl) (fun _ _ _ h => h) (Or.inl ⟨by rfl, ?_⟩) hHeld ?_ ?_
  rotate_left
  · rintro w' ⟨s0, s1, s2⟩
    go_simp
    with_reducible rfl
  rotate_left
  · simp only [Act.put, List.setIfInBounds_toArray, List.set_cons_zero, List.set_cons_succ, i64_w, i32_w]
    rfl
  refine pure_ (i := 5) (N := some 58) (v := ?_) (a' := ?_) #[true, true, true, true, true, true, false, false] rfl rfl (by kernel_rfl) (fun _ _ _ h => h) (Or.inl ⟨by rfl, ?_⟩) ?_ ?_
  rotate_left
  · intro w'
    go_simp
    with_reducible rfl
  rotate_left
  · simp only [Act.put, List.setIfInBounds_toArray, List.set_cons_zero, List.set_cons_succ, i64_w, i32_w]
    rfl
  clear hss
  refine one_ (i := 6) (N := some 59) #[true, true, true, true, true, true, true, false] rfl rfl (by kernel_rfl) (by decide) (fun K hK => ?_)
  refine goes_ Try.func28 (by kernel_rfl) rfl #[.pointer vr, .agg #[.int .i64 p.f0, .int .i64 p.f1], .slice A1 ys.length c1] (by rfl) rfl rfl (by (try simp only [List.map_toArray, List.map_cons, List.map_nil]); first | done | rfl) ?_
  refine (IR.out w3.drew _ _ ((HS.out _ (below_drew HB3.out)).2.2) (Nat.le_trans HBS.out HG3.out.size) (Kd.R_drew HR3.out) (by have := HN.out; have := HYL.out;  omega)).mono ?_
  rintro e w4 ⟨v4, rfl, hR4, hG4⟩
  have HR4 := Aside0.mk hR4
  have hx := hG4.blk (w := w3.drew) HX3.out HO3.out
  have HX4 := Aside0.mk hx.1
  have HG4 := Aside0.mk ((HG3.out.then_below (below_drew (Below.refl _ _))).trans hG4)
  have hss := HSS.out w4 (HG4.out.below HBS.out (fun k hk => HR.out.1 k hk)) HX4.out
  refine ⟨_, rfl, hK.out _ _ ⟨hss.2.1, hss.2.2.2.2.2.2.1, hss.2.2.2.2.2.2.2⟩ (fun _ => ?_)⟩
  clear hK K hR4 hG4 hx hss
  refine norm_ (a' := ?_) ?_ ?_
  rotate_left
  · show Act.put _ (some 59) _ = _
    simp only [Act.put, List.setIfInBounds_toArray, List.set_cons_zero, List.set_cons_succ, i64_w, i32_w]
    rfl
  refine pure_ (i := 7) (N := some 6) (v := ?_) (a' := ?_) #[true, true, true, true, true, true, true, true] rfl rfl (by kernel_rfl) (fun _ _ _ h => h) (Or.inl ⟨by rfl, ?_⟩) ?_ ?_
  rotate_left
  · intro w'
    go_simp
    with_reducible rfl
  rotate_left
  · simp only [Act.put, List.setIfInBounds_toArray, List.set_cons_zero, List.set_cons_succ, i64_w, i32_w]
    rfl
  refine done_ (by kernel_rfl) ?_
  go_wp2
  go_ret
  refine ⟨_, rfl, ?_, HG4.out⟩
  have he : ys ++ ovl p r.sk = xs ++ (ovl p l.sk ++ ovl p r.sk) := by rw [HYS.out]; simp [List.append_assoc]
  rw [← he]
  exact HR4.out
set_option maxHeartbeats 1000000 in
set_option maxRecDepth 100000 in
theorem overlap_3 (p : S28) (b : Nat) (y : S30) (l r : BT) (base : Nat) (w : World) (v : Value) (xs : List Int) (h : (Tr.nd (b, y) l r).At w) (hlt : ∀ k ∈ (Tr.nd (b, y) l r).blks, k < base) (hbase : base ≤ w.heap.size) (hR : RN w base v xs) (hn : xs.length + (Tr.nd (b, y) l r).list.length ≤ 1000000)
    (ihl : ∀ (w : World) (v : Value) (xs : List Int), l.At w → base ≤ w.heap.size → RN w base v xs → xs.length + l.list.length ≤ 1000000 → Calls Try.prog 28 #[l.ptr, .agg #[.int .i64 p.f0, .int .i64 p.f1], v] w (OPost base w v (xs ++ ovl p l.sk)))
    (ihr : ∀ (w : World) (v : Value) (xs : List Int), r.At w → base ≤ w.heap.size → RN w base v xs → xs.length + r.list.length ≤ 1000000 → Calls Try.prog 28 #[r.ptr, .agg #[.int .i64 p.f0, .int .i64 p.f1], v] w (OPost base w v (xs ++ ovl p r.sk)))
    (c0 : ¬ (Tr.nd (b, y) l r).sk.en ≤ p.f0) (c1 : ¬ p.f1 ≤ y.f0.f0) (c2 : p.f0 < y.f0.f1) :
    Calls Try.prog 28 #[.pointer (some ⟨b, 0, none⟩), .agg #[.int .i64 p.f0, .int .i64 p.f1], v] w (OPost base w v (xs ++ (ovl p l.sk ++ y.f1 :: ovl p r.sk))) := by
  obtain ⟨A, c, rfl⟩ := Kd.R_slice hR
  obtain ⟨E, hE⟩ : ∃ E, E = (Tr.nd (b, y) l r).sk.en := ⟨_, rfl⟩
  rw [← hE] at c0
  have HS := Aside0.mk (fun (w' : World) (hB : Below base w w') => (show (Tr.nd (b, y) l r).At w' from h.keep (fun k hk _ => hB.block k (hlt k hk))))
  obtain ⟨vl, hvl⟩ := ptr_pointer l
  obtain ⟨vr, hvr⟩ := ptr_pointer r
  rw [hvl] at ihl
  rw [hvr] at ihr
  have HVL := Aside0.mk hvl
  have HVR := Aside0.mk hvr
  have IL := Aside0.mk ihl
  have IR := Aside0.mk ihr
  have HR := Aside0.mk hR
  have HBS := Aside0.mk hbase
  have hn' : xs.length + l.list.length + 1 + r.list.length ≤ 1000000 := by simp only [Tr.list, List.length_append, List.length_cons] at hn; omega
  have HN := Aside0.mk hn'
  have HLL := Aside0.mk (show (ovl p l.sk).length ≤ l.list.length by have := ovl_length p l.sk; rw [Tr.list_map, List.length_map] at this; exact this)
  have hu28 := Try.underlying28
  have hu30 := Try.underlying30
  have hu69 := Try.underlying69
  have HE := Aside0.mk hE
  obtain ⟨wb, hwb⟩ : ∃ wb, wb = w.alloc (.cells #[.int .i64 p.f0, .int .i64 p.f1] 28) := ⟨_, rfl⟩
  have hW : Below w.heap.size w wb := by rw [hwb]; exact below_alloc (Below.refl _ _) _
  have hg : wb.heap[w.heap.size]? = some (.cells #[.int .i64 p.f0, .int .i64 p.f1] 28 (0, 0)) := by rw [hwb]; exact blk_new w _
  have HW := Aside0.mk hW
  have HG := Aside0.mk hg
  have HWB := Aside0.mk hwb
  have HOWN := Aside0.mk (show some w.heap.size ≠ (Value.slice A xs.length c).ownBlock from fun he => by have := Kd.R_lt hR w.heap.size he.symm; omega)
  have HSS := Aside0.mk (fun (w' : World) (hB : Below base w w') (hg : w'.heap[w.heap.size]? = some (.cells #[.int .i64 p.f0, .int .i64 p.f1] 28 (0, 0))) => (show w'.cell? ⟨b, 3, none⟩ = some (.pointer vl) ∧ w'.cell? ⟨b, 4, none⟩ = some (.pointer vr) ∧ w'.cell? ⟨b, 0, none⟩ = some (.int .i64 y.f0.f0) ∧ w'.cell? ⟨b, 1, none⟩ = some (.int .i64 y.f0.f1) ∧ w'.cell? ⟨b, 2, none⟩ = some (.int .i64 y.f1) ∧ w'.cell? ⟨b, 6, none⟩ = some (.int .i64 E) ∧ w'.cell? ⟨w.heap.size, 0, none⟩ = some (.int .i64 p.f0) ∧ w'.cell? ⟨w.heap.size, 1, none⟩ = some (.int .i64 p.f1) from
    ⟨(blk_cell (HS.out w' hB).1 3).trans (congrArg some HVL.out), (blk_cell (HS.out w' hB).1 4).trans (congrArg some HVR.out), (blk_cell (HS.out w' hB).1 0).trans rfl, (blk_cell (HS.out w' hB).1 1).trans rfl, (blk_cell (HS.out w' hB).1 2).trans rfl, (blk_cell (HS.out w' hB).1 6).trans (congrArg (fun z => some (Value.int .i64 z)) HE.out.symm), (blk_cell hg 0).trans rfl, (blk_cell hg 1).trans rfl⟩))
  have hd0 : decide (E ≤ p.f0) = false := by simpa using c0
  have hd1 : decide (p.f1 ≤ y.f0.f0) = false := by simpa using c1
  have hd2 : decide (p.f0 < y.f0.f1) = true := by simpa using c2
  clear h hlt hbase hR hn hn' ihl ihr hvl hvr hE c0 hW hg hwb c1 c2
  go_enter Try.func28, Try.ntmps28
  go_wp2_with fail
  rw [← HWB.out]
  have HB0 := Aside0.mk (below_weaken' HBS.out HW.out)
  have hss := HSS.out wb.drew (below_drew HB0.out) HG.out
  refine start_ (n := 11) (S := fun w' => (w'.cell? ⟨b, 6, none⟩ = some (.int .i64 E) ∧ w'.cell? ⟨w.heap.size, 0, none⟩ = some (.int .i64 p.f0))) (ds := []) #[false, false, false, false, false, false, false, false, false, false, false] (by kernel_rfl) rfl rfl ?_ (fun hHeld => ?_)
  · exact ⟨hss.2.2.2.2.2.1, hss.2.2.2.2.2.2.1⟩
  refine pure_ (i := 0) (N := some 7) (v := ?_) (a' := ?_) #[true, false, false, false, false, false, false, false, false, false, false] rfl rfl (by kernel_rfl) (fun _ _ _ h => h) (Or.inl ⟨by rfl, ?_⟩) ?_ ?_
  rotate_left
  · intro w'
    go_simp
    with_reducible rfl
  rotate_left
  · simp only [Act.put, List.setIfInBounds_toArray, List.set_cons_zero, List.set_cons_succ, i64_w, i32_w]
    rfl
  refine pure_ (i := 1) (N := some 8) (v := ?_) (a' := ?_) #[true, true, false, false, false, false, false, false, false, false, false] rfl rfl (by kernel_rfl) (fun _ _ _ h => h) (Or.inl ⟨by rfl, ?_⟩) ?_ ?_
  rotate_left
  · intro w'
    go_simp
    with_reducible rfl
  rotate_left
  · simp only [Act.put, List.setIfInBounds_toArray, List.set_cons_zero, List.set_cons_succ, i64_w, i32_w]
    rfl
  refine pure_ (i := 2) (N := some 9) (v := ?_) (a' := ?_) #[true, true, true, false, false, false, false, false, false, false, false] rfl rfl (by kernel_rfl) (fun _ _ _ h => h) (Or.inl ⟨by rfl, ?_⟩) ?_ ?_
  rotate_left
  · intro w'
    go_simp
    with_reducible rfl
  rotate_left
  · simp only [Act.put, List.setIfInBounds_toArray, List.set_cons_zero, List.set_cons_succ, i64_w, i32_w]
    rfl
  refine pure_ (i := 3) (N := some 10) (v := ?_) (a' := ?_) #[true, true, true, true, false, false, false, false, false, false, false] rfl rfl (by kernel_rfl) (fun _ _ _ h => h) (Or.inl ⟨by rfl, ?_⟩) ?_ ?_
  rotate_left
  · intro w'
    go_simp
    with_reducible rfl
  rotate_left
  · simp only [Act.put, List.setIfInBounds_toArray, List.set_cons_zero, List.set_cons_succ, i64_w, i32_w]
    rfl
  refine pure_ (i := 4) (N := some 11) (v := ?_) (a' := ?_) #[true, true, true, true, true, false, false, false, false, false, false] rfl rfl (by kernel_rfl) (fun _ _ _ h => h) (Or.inl ⟨by rfl, ?_⟩) ?_ ?_
  rotate_left
  · intro w'
    go_simp
    with_reducible rfl
  rotate_left
  · simp only [Act.put, List.setIfInBounds_toArray, List.set_cons_zero, List.set_cons_succ, i64_w, i32_w]
    rfl
  refine pure_ (i := 5) (N := some 12) (v := ?_) (a' := ?_) #[true, true, true, true, true, true, false, false, false, false, false] rfl rfl (by kernel_rfl) (fun _ _ _ h => h) (Or.inl ⟨by rfl, ?_⟩) ?_ ?_
  rotate_left
  · intro w'
    go_simp
    with_reducible rfl
  rotate_left
  · simp only [Act.put, List.setIfInBounds_toArray, List.set_cons_zero, List.set_cons_succ, i64_w, i32_w]
    rfl
  refine take_ (i := 6) (N := some 13) (v := ?_) (a' := ?_) #[true, true, true, true, true, true, true, false, false, false, false] rfl rfl (by kernel_rfl) (fun _ _ _ h => h) (Or.inl ⟨by rfl, ?_⟩) hHeld ?_ ?_
  rotate_left
  · rintro w' ⟨s0, s1⟩
    go_simp
    with_reducible rfl
  rotate_left
  · simp only [Act.put, List.setIfInBounds_toArray, List.set_cons_zero, List.set_cons_succ, i64_w, i32_w]
    rfl
  refine pure_ (i := 7) (N := some 14) (v := ?_) (a' := ?_) #[true, true, true, true, true, true, true, true, false, false, false] rfl rfl (by kernel_rfl) (fun _ _ _ h => h) (Or.inl ⟨by rfl, ?_⟩) ?_ ?_
  rotate_left
  · intro w'
    go_simp
    with_reducible rfl
  rotate_left
  · simp only [Act.put, List.setIfInBounds_toArray, List.set_cons_zero, List.set_cons_succ, i64_w, i32_w]
    rfl
  refine take_ (i := 8) (N := some 15) (v := ?_) (a' := ?_) #[true, true, true, true, true, true, true, true, true, false, false] rfl rfl (by kernel_rfl) (fun _ _ _ h => h) (Or.inl ⟨by rfl, ?_⟩) hHeld ?_ ?_
  rotate_left
  · rintro w' ⟨s0, s1⟩
    go_simp
    with_reducible rfl
  rotate_left
  · simp only [Act.put, List.setIfInBounds_toArray, List.set_cons_zero, List.set_cons_succ, i64_w, i32_w]
    rfl
  refine pure_ (i := 9) (N := some 16) (v := ?_) (a' := ?_) #[true, true, true, true, true, true, true, true, true, true, false] rfl rfl (by kernel_rfl) (fun _ _ _ h => h) (Or.inl ⟨by rfl, ?_⟩) ?_ ?_
  rotate_left
  · intro w'
    go_simp
    with_reducible rfl
  rotate_left
  · simp only [Act.put, List.setIfInBounds_toArray, List.set_cons_zero, List.set_cons_succ, i64_w, i32_w]
    rfl
  refine pure_ (i := 10) (N := some 17) (v := ?_) (a' := ?_) #[true, true, true, true, true, true, true, true, true, true, true] rfl rfl (by kernel_rfl) (fun _ _ _ h => h) (Or.inl ⟨by rfl, ?_⟩) ?_ ?_
  rotate_left
  · intro w'
    go_simp
    with_reducible rfl
  rotate_left
  · simp only [Act.put, List.setIfInBounds_toArray, List.set_cons_zero, List.set_cons_succ, i64_w, i32_w]
    rfl
  refine done_ (by kernel_rfl) ?_
  clear hss
  go_wp2
  obtain ⟨wc, hwc⟩ : ∃ wc, wc = wb.drew := ⟨_, rfl⟩
  rw [← hwc]
  have HWc := Aside0.mk (show Below w.heap.size w wc by rw [hwc]; exact below_drew HW.out)
  have HGc := Aside0.mk (show wc.heap[w.heap.size]? = some (.cells #[.int .i64 p.f0, .int .i64 p.f1] 28 (0, 0)) by rw [hwc]; exact HG.out)
  clear hwc
  have HBc := Aside0.mk (below_weaken' HBS.out (below_drew HWc.out))
  have hss := HSS.out wc.drew HBc.out HGc.out
  refine start_ (n := 8) (S := fun w' => (w'.cell? ⟨b, 3, none⟩ = some (.pointer vl) ∧ w'.cell? ⟨w.heap.size, 0, none⟩ = some (.int .i64 p.f0) ∧ w'.cell? ⟨w.heap.size, 1, none⟩ = some (.int .i64 p.f1))) (ds := []) #[false, false, false, false, false, false, false, false] (by kernel_rfl) rfl rfl ?_ (fun hHeld => ?_)
  · exact ⟨hss.1, hss.2.2.2.2.2.2.1, hss.2.2.2.2.2.2.2⟩
  refine pure_ (i := 0) (N := some 19) (v := ?_) (a' := ?_) #[true, false, false, false, false, false, false, false] rfl rfl (by kernel_rfl) (fun _ _ _ h => h) (Or.inl ⟨by rfl, ?_⟩) ?_ ?_
  rotate_left
  · intro w'
    go_simp
    with_reducible rfl
  rotate_left
  · simp only [Act.put, List.setIfInBounds_toArray, List.set_cons_zero, List.set_cons_succ, i64_w, i32_w]
    rfl
  refine pure_ (i := 1) (N := some 20) (v := ?_) (a' := ?_) #[true, true, false, false, false, false, false, false] rfl rfl (by kernel_rfl) (fun _ _ _ h => h) (Or.inl ⟨by rfl, ?_⟩) ?_ ?_
  rotate_left
  · intro w'
    go_simp
    with_reducible rfl
  rotate_left
  · simp only [Act.put, List.setIfInBounds_toArray, List.set_cons_zero, List.set_cons_succ, i64_w, i32_w]
    rfl
  refine pure_ (i := 2) (N := some 21) (v := ?_) (a' := ?_) #[true, true, true, false, false, false, false, false] rfl rfl (by kernel_rfl) (fun _ _ _ h => h) (Or.inl ⟨by rfl, ?_⟩) ?_ ?_
  rotate_left
  · intro w'
    go_simp
    with_reducible rfl
  rotate_left
  · simp only [Act.put, List.setIfInBounds_toArray, List.set_cons_zero, List.set_cons_succ, i64_w, i32_w]
    rfl
  refine take_ (i := 3) (N := some 22) (v := ?_) (a' := ?_) #[true, true, true, true, false, false, false, false] rfl rfl (by kernel_rfl) (fun _ _ _ h => h) (Or.inl ⟨by rfl, ?_⟩) hHeld ?_ ?_
  rotate_left
  · rintro w' ⟨s0, s1, s2⟩
    go_simp
    with_reducible rfl
  rotate_left
  · simp only [Act.put, List.setIfInBounds_toArray, List.set_cons_zero, List.set_cons_succ, i64_w, i32_w]
    rfl
  refine take_ (i := 4) (N := some 23) (v := ?_) (a' := ?_) #[true, true, true, true, true, false, false, false] rfl rfl (by kernel_rfl) (fun _ _ _ h => h) (Or.inl ⟨by rfl, ?_⟩) hHeld ?_ ?_
  rotate_left
  · rintro w' ⟨s0, s1, s2⟩
    go_simp
    with_reducible rfl
  rotate_left
  · simp only [Act.put, List.setIfInBounds_toArray, List.set_cons_zero, List.set_cons_succ, i64_w, i32_w]
    rfl
  refine pure_ (i := 5) (N := some 24) (v := ?_) (a' := ?_) #[true, true, true, true, true, true, false, false] rfl rfl (by kernel_rfl) (fun _ _ _ h => h) (Or.inl ⟨by rfl, ?_⟩) ?_ ?_
  rotate_left
  · intro w'
    go_simp
    with_reducible rfl
  rotate_left
  · simp only [Act.put, List.setIfInBounds_toArray, List.set_cons_zero, List.set_cons_succ, i64_w, i32_w]
    rfl
  refine one_ (i := 6) (N := some 25) #[true, true, true, true, true, true, true, false] rfl rfl (by kernel_rfl) (by decide) (fun K hK => ?_)
  refine goes_ Try.func28 (by kernel_rfl) rfl #[.pointer vl, .agg #[.int .i64 p.f0, .int .i64 p.f1], .slice A xs.length c] (by rfl) rfl rfl (by (try simp only [List.map_toArray, List.map_cons, List.map_nil]); first | done | rfl) ?_
  refine (IL.out wc.drew _ xs ((HS.out _ HBc.out).2.1) (Nat.le_trans HBS.out (below_drew HWc.out).size) (Kd.R_drew (Kd.R_below HR.out HWc.out)) (by have := HN.out; omega)).mono ?_
  rintro e w1 ⟨v1, rfl, hR1, hG1⟩
  obtain ⟨ys, hys⟩ : ∃ ys, ys = xs ++ ovl p l.sk := ⟨_, rfl⟩
  rw [← hys] at hR1
  have HYS := Aside0.mk hys
  have HYL := Aside0.mk (show ys.length ≤ xs.length + l.list.length by have := HLL.out; rw [hys, List.length_append]; omega)
  clear hys
  have HR1 := Aside0.mk hR1
  have hx := hG1.blk HGc.out HOWN.out
  have HX1 := Aside0.mk hx.1
  have HO1 := Aside0.mk hx.2
  have HG1 := Aside0.mk (Grw.after_below (below_drew HWc.out) hG1)
  have HB1 := Aside0.mk (HG1.out.below HBS.out (fun k hk => HR.out.1 k hk))
  obtain ⟨A1, c1, rfl⟩ := Kd.R_slice HR1.out
  have hss1 := HSS.out w1 HB1.out HX1.out
  refine ⟨_, rfl, hK.out _ _ ⟨hss1.1, hss1.2.2.2.2.2.2.1, hss1.2.2.2.2.2.2.2⟩ (fun _ => ?_)⟩
  clear hK K hR1 hG1 hx hss
  refine norm_ (a' := ?_) ?_ ?_
  rotate_left
  · show Act.put _ (some 25) _ = _
    simp only [Act.put, List.setIfInBounds_toArray, List.set_cons_zero, List.set_cons_succ, i64_w, i32_w]
    rfl
  refine pure_ (i := 7) (N := some 2) (v := ?_) (a' := ?_) #[true, true, true, true, true, true, true, true] rfl rfl (by kernel_rfl) (fun _ _ _ h => h) (Or.inl ⟨by rfl, ?_⟩) ?_ ?_
  rotate_left
  · intro w'
    go_simp
    with_reducible rfl
  rotate_left
  · simp only [Act.put, List.setIfInBounds_toArray, List.set_cons_zero, List.set_cons_succ, i64_w, i32_w]
    rfl
  refine done_ (by kernel_rfl) ?_
  go_wp2
  have hss := HSS.out w1.drew (below_drew HB1.out) HX1.out
  clear hss1
  refine start_ (n := 9) (S := fun w' => (w'.cell? ⟨b, 0, none⟩ = some (.int .i64 y.f0.f0) ∧ w'.cell? ⟨w.heap.size, 1, none⟩ = some (.int .i64 p.f1))) (ds := []) #[false, false, false, false, false, false, false, false, false] (by kernel_rfl) rfl rfl ?_ (fun hHeld => ?_)
  · exact ⟨hss.2.2.1, hss.2.2.2.2.2.2.2⟩
  refine pure_ (i := 0) (N := some 26) (v := ?_) (a' := ?_) #[true, false, false, false, false, false, false, false, false] rfl rfl (by kernel_rfl) (fun _ _ _ h => h) (Or.inl ⟨by rfl, ?_⟩) ?_ ?_
  rotate_left
  · intro w'
    go_simp
    with_reducible rfl
  rotate_left
  · simp only [Act.put, List.setIfInBounds_toArray, List.set_cons_zero, List.set_cons_succ, i64_w, i32_w]
    rfl
  refine pure_ (i := 1) (N := some 27) (v := ?_) (a' := ?_) #[true, true, false, false, false, false, false, false, false] rfl rfl (by kernel_rfl) (fun _ _ _ h => h) (Or.inl ⟨by rfl, ?_⟩) ?_ ?_
  rotate_left
  · intro w'
    go_simp
    with_reducible rfl
  rotate_left
  · simp only [Act.put, List.setIfInBounds_toArray, List.set_cons_zero, List.set_cons_succ, i64_w, i32_w]
    rfl
  refine pure_ (i := 2) (N := some 28) (v := ?_) (a' := ?_) #[true, true, true, false, false, false, false, false, false] rfl rfl (by kernel_rfl) (fun _ _ _ h => h) (Or.inl ⟨by rfl, ?_⟩) ?_ ?_
  rotate_left
  · intro w'
    go_simp
    with_reducible rfl
  rotate_left
  · simp only [Act.put, List.setIfInBounds_toArray, List.set_cons_zero, List.set_cons_succ, i64_w, i32_w]
    rfl
  refine pure_ (i := 3) (N := some 29) (v := ?_) (a' := ?_) #[true, true, true, true, false, false, false, false, false] rfl rfl (by kernel_rfl) (fun _ _ _ h => h) (Or.inl ⟨by rfl, ?_⟩) ?_ ?_
  rotate_left
  · intro w'
    go_simp
    with_reducible rfl
  rotate_left
  · simp only [Act.put, List.setIfInBounds_toArray, List.set_cons_zero, List.set_cons_succ, i64_w, i32_w]
    rfl
  refine pure_ (i := 4) (N := some 30) (v := ?_) (a' := ?_) #[true, true, true, true, true, false, false, false, false] rfl rfl (by kernel_rfl) (fun _ _ _ h => h) (Or.inl ⟨by rfl, ?_⟩) ?_ ?_
  rotate_left
  · intro w'
    go_simp
    with_reducible rfl
  rotate_left
  · simp only [Act.put, List.setIfInBounds_toArray, List.set_cons_zero, List.set_cons_succ, i64_w, i32_w]
    rfl
  refine take_ (i := 5) (N := some 31) (v := ?_) (a' := ?_) #[true, true, true, true, true, true, false, false, false] rfl rfl (by kernel_rfl) (fun _ _ _ h => h) (Or.inl ⟨by rfl, ?_⟩) hHeld ?_ ?_
  rotate_left
  · rintro w' ⟨s0, s1⟩
    go_simp
    with_reducible rfl
  rotate_left
  · simp only [Act.put, List.setIfInBounds_toArray, List.set_cons_zero, List.set_cons_succ, i64_w, i32_w]
    rfl
  refine pure_ (i := 6) (N := some 32) (v := ?_) (a' := ?_) #[true, true, true, true, true, true, true, false, false] rfl rfl (by kernel_rfl) (fun _ _ _ h => h) (Or.inl ⟨by rfl, ?_⟩) ?_ ?_
  rotate_left
  · intro w'
    go_simp
    with_reducible rfl
  rotate_left
  · simp only [Act.put, List.setIfInBounds_toArray, List.set_cons_zero, List.set_cons_succ, i64_w, i32_w]
    rfl
  refine take_ (i := 7) (N := some 33) (v := ?_) (a' := ?_) #[true, true, true, true, true, true, true, true, false] rfl rfl (by kernel_rfl) (fun _ _ _ h => h) (Or.inl ⟨by rfl, ?_⟩) hHeld ?_ ?_
  rotate_left
  · rintro w' ⟨s0, s1⟩
    go_simp
    with_reducible rfl
  rotate_left
  · simp only [Act.put, List.setIfInBounds_toArray, List.set_cons_zero, List.set_cons_succ, i64_w, i32_w]
    rfl
  refine pure_ (i := 8) (N := some 34) (v := ?_) (a' := ?_) #[true, true, true, true, true, true, true, true, true] rfl rfl (by kernel_rfl) (fun _ _ _ h => h) (Or.inl ⟨by rfl, ?_⟩) ?_ ?_
  rotate_left
  · intro w'
    go_simp
    with_reducible rfl
  rotate_left
  · simp only [Act.put, List.setIfInBounds_toArray, List.set_cons_zero, List.set_cons_succ, i64_w, i32_w]
    rfl
  refine done_ (by kernel_rfl) ?_
  clear hss
  go_wp2
  obtain ⟨w2, hw2⟩ : ∃ w2, w2 = w1.drew := ⟨_, rfl⟩
  rw [← hw2]
  have HR2 := Aside0.mk (show RN w2 base (.slice A1 ys.length c1) ys by rw [hw2]; exact Kd.R_drew HR1.out)
  have HX2 := Aside0.mk (show w2.heap[w.heap.size]? = some (.cells #[.int .i64 p.f0, .int .i64 p.f1] 28 (0, 0)) by rw [hw2]; exact HX1.out)
  have HG2 := Aside0.mk (show Grw w w2 (.slice A xs.length c) (.slice A1 ys.length c1) by rw [hw2]; exact HG1.out.then_below (below_drew (Below.refl _ _)))
  have HB2 := Aside0.mk (show Below base w w2 by rw [hw2]; exact below_drew HB1.out)
  clear hw2 HR1 HX1 HG1 HB1
  have hss := HSS.out w2.drew (below_drew HB2.out) HX2.out
  refine start_ (n := 9) (S := fun w' => (w'.cell? ⟨b, 1, none⟩ = some (.int .i64 y.f0.f1) ∧ w'.cell? ⟨w.heap.size, 0, none⟩ = some (.int .i64 p.f0))) (ds := []) #[false, false, false, false, false, false, false, false, false] (by kernel_rfl) rfl rfl ?_ (fun hHeld => ?_)
  · exact ⟨hss.2.2.2.1, hss.2.2.2.2.2.2.1⟩
  refine pure_ (i := 0) (N := some 36) (v := ?_) (a' := ?_) #[true, false, false, false, false, false, false, false, false] rfl rfl (by kernel_rfl) (fun _ _ _ h => h) (Or.inl ⟨by rfl, ?_⟩) ?_ ?_
  rotate_left
  · intro w'
    go_simp
    with_reducible rfl
  rotate_left
  · simp only [Act.put, List.setIfInBounds_toArray, List.set_cons_zero, List.set_cons_succ, i64_w, i32_w]
    rfl
  refine pure_ (i := 1) (N := some 37) (v := ?_) (a' := ?_) #[true, true, false, false, false, false, false, false, false] rfl rfl (by kernel_rfl) (fun _ _ _ h => h) (Or.inl ⟨by rfl, ?_⟩) ?_ ?_
  rotate_left
  · intro w'
    go_simp
    with_reducible rfl
  rotate_left
  · simp only [Act.put, List.setIfInBounds_toArray, List.set_cons_zero, List.set_cons_succ, i64_w, i32_w]
    rfl
  refine pure_ (i := 2) (N := some 38) (v := ?_) (a' := ?_) #[true, true, true, false, false, false, false, false, false] rfl rfl (by kernel_rfl) (fun _ _ _ h => h) (Or.inl ⟨by rfl, ?_⟩) ?_ ?_
  rotate_left
  · intro w'
    go_simp
    with_reducible rfl
  rotate_left
  · simp only [Act.put, List.setIfInBounds_toArray, List.set_cons_zero, List.set_cons_succ, i64_w, i32_w]
    rfl
  refine pure_ (i := 3) (N := some 39) (v := ?_) (a' := ?_) #[true, true, true, true, false, false, false, false, false] rfl rfl (by kernel_rfl) (fun _ _ _ h => h) (Or.inl ⟨by rfl, ?_⟩) ?_ ?_
  rotate_left
  · intro w'
    go_simp
    with_reducible rfl
  rotate_left
  · simp only [Act.put, List.setIfInBounds_toArray, List.set_cons_zero, List.set_cons_succ, i64_w, i32_w]
    rfl
  refine pure_ (i := 4) (N := some 40) (v := ?_) (a' := ?_) #[true, true, true, true, true, false, false, false, false] rfl rfl (by kernel_rfl) (fun _ _ _ h => h) (Or.inl ⟨by rfl, ?_⟩) ?_ ?_
  rotate_left
  · intro w'
    go_simp
    with_reducible rfl
  rotate_left
  · simp only [Act.put, List.setIfInBounds_toArray, List.set_cons_zero, List.set_cons_succ, i64_w, i32_w]
    rfl
  refine take_ (i := 5) (N := some 41) (v := ?_) (a' := ?_) #[true, true, true, true, true, true, false, false, false] rfl rfl (by kernel_rfl) (fun _ _ _ h => h) (Or.inl ⟨by rfl, ?_⟩) hHeld ?_ ?_
  rotate_left
  · rintro w' ⟨s0, s1⟩
    go_simp
    with_reducible rfl
  rotate_left
  · simp only [Act.put, List.setIfInBounds_toArray, List.set_cons_zero, List.set_cons_succ, i64_w, i32_w]
    rfl
  refine pure_ (i := 6) (N := some 42) (v := ?_) (a' := ?_) #[true, true, true, true, true, true, true, false, false] rfl rfl (by kernel_rfl) (fun _ _ _ h => h) (Or.inl ⟨by rfl, ?_⟩) ?_ ?_
  rotate_left
  · intro w'
    go_simp
    with_reducible rfl
  rotate_left
  · simp only [Act.put, List.setIfInBounds_toArray, List.set_cons_zero, List.set_cons_succ, i64_w, i32_w]
    rfl
  refine take_ (i := 7) (N := some 43) (v := ?_) (a' := ?_) #[true, true, true, true, true, true, true, true, false] rfl rfl (by kernel_rfl) (fun _ _ _ h => h) (Or.inl ⟨by rfl, ?_⟩) hHeld ?_ ?_
  rotate_left
  · rintro w' ⟨s0, s1⟩
    go_simp
    with_reducible rfl
  rotate_left
  · simp only [Act.put, List.setIfInBounds_toArray, List.set_cons_zero, List.set_cons_succ, i64_w, i32_w]
    rfl
  refine pure_ (i := 8) (N := some 44) (v := ?_) (a' := ?_) #[true, true, true, true, true, true, true, true, true] rfl rfl (by kernel_rfl) (fun _ _ _ h => h) (Or.inl ⟨by rfl, ?_⟩) ?_ ?_
  rotate_left
  · intro w'
    go_simp
    with_reducible rfl
  rotate_left
  · simp only [Act.put, List.setIfInBounds_toArray, List.set_cons_zero, List.set_cons_succ, i64_w, i32_w]
    rfl
  refine done_ (by kernel_rfl) ?_
  clear hss
  obtain ⟨wq, hwq⟩ : ∃ wq, wq = w2.drew := ⟨_, rfl⟩
  rw [← hwq]
  have HRq := Aside0.mk (show RN wq base (.slice A1 ys.length c1) ys by rw [hwq]; exact Kd.R_drew HR2.out)
  have HGq := Aside0.mk (show Grw w wq (.slice A xs.length c) (.slice A1 ys.length c1) by rw [hwq]; exact HG2.out.then_below (below_drew (Below.refl _ _)))
  have HXq := Aside0.mk (show wq.heap[w.heap.size]? = some (.cells #[.int .i64 p.f0, .int .i64 p.f1] 28 (0, 0)) by rw [hwq]; exact HX2.out)
  have HBq := Aside0.mk (show Below base w wq by rw [hwq]; exact below_drew HB2.out)
  clear hwq HR2 HX2 HG2 HB2
  have hy2 : wq.cell? ⟨b, 2, none⟩ = some (.int .i64 y.f1) := (HSS.out wq HBq.out HXq.out).2.2.2.2.1
  go_wp2_with (first
    | (at_builtin; refine Kd.R_append (Kd.int .i64) (w0 := wq) base rfl (.tmp 45) (.tmp 51) 32 3 (.int .i64 0) 8 rfl Try.underlying32 info3 rfl (by decide) (by omega) (.slice A1 ys.length c1) ys y.f1 [.int .i64 y.f1] (fun k => base ≤ k) (fun _ => False) rfl rfl ?aP (fun _ hk => hk.elim) ?aF ?aO ?aB ?aS ?aL ?_
       (case aP => exact rfl)
       (case aF => exact fun k hk => Nat.le_trans HBS.out (Nat.le_trans HGq.out.size hk))
       (case aO => exact HRq.out)
       (case aB => exact Below.refl _ _)
       (case aS => exact Nat.le_trans HBS.out HGq.out.size)
       (case aL => have := HN.out; have := HYL.out; omega)
       intro v3 w3 hR3 hb3 hg3 ha3
       obtain ⟨zs, hzs⟩ : ∃ zs, zs = ys ++ [y.f1] := ⟨_, rfl⟩
       rw [← hzs] at hR3
       have HZS := Aside0.mk hzs
       have HZL := Aside0.mk (show zs.length = ys.length + 1 by rw [hzs]; simp)
       clear hzs
       have HR3 := Aside0.mk hR3
       have HG23 := Aside0.mk (show Grw wq w3 (.slice A1 ys.length c1) v3 from ⟨hg3, ha3⟩)
       obtain ⟨A3, c3, rfl⟩ := Kd.R_slice hR3
       clear hR3 hb3 hg3 ha3 hy2))
  have HG3 := Aside0.mk (HGq.out.trans HG23.out)
  have HO2 := Aside0.mk (show some w.heap.size ≠ (Value.slice A1 ys.length c1).ownBlock from HO1.out)
  have HX3 := Aside0.mk (HG23.out.blk (w := wq) HXq.out HO2.out).1
  have HX2_ := HXq
  clear HRq HXq HGq HBq
  have HO3 := Aside0.mk (show some w.heap.size ≠ (.slice A3 zs.length c3 : Value).ownBlock from (HG23.out.blk (w := wq) (HX2_).out HO2.out).2)
  have HB3 := Aside0.mk (HG3.out.below HBS.out (fun k hk => HR.out.1 k hk))
  have hss := HSS.out w3.drew (below_drew HB3.out) HX3.out
  refine start_ (n := 8) (S := fun w' => (w'.cell? ⟨b, 4, none⟩ = some (.pointer vr) ∧ w'.cell? ⟨w.heap.size, 0, none⟩ = some (.int .i64 p.f0) ∧ w'.cell? ⟨w.heap.size, 1, none⟩ = some (.int .i64 p.f1))) (ds := []) #[false, false, false, false, false, false, false, false] (by kernel_rfl) rfl rfl ?_ (fun hHeld => ?_)
  · exact ⟨hss.2.1, hss.2.2.2.2.2.2.1, hss.2.2.2.2.2.2.2⟩
  refine pure_ (i := 0) (N := some 53) (v := ?_) (a' := ?_) #[true, false, false, false, false, false, false, false] rfl rfl (by kernel_rfl) (fun _ _ _ h => h) (Or.inl ⟨by rfl, ?_⟩) ?_ ?_
  rotate_left
  · intro w'
    go_simp
    with_reducible rfl
  rotate_left
  · simp only [Act.put, List.setIfInBounds_toArray, List.set_cons_zero, List.set_cons_succ, i64_w, i32_w]
    rfl
  refine pure_ (i := 1) (N := some 54) (v := ?_) (a' := ?_) #[true, true, false, false, false, false, false, false] rfl rfl (by kernel_rfl) (fun _ _ _ h => h) (Or.inl ⟨by rfl, ?_⟩) ?_ ?_
  rotate_left
  · intro w'
    go_simp
    with_reducible rfl
  rotate_left
  · simp only [Act.put, List.setIfInBounds_toArray, List.set_cons_zero, List.set_cons_succ, i64_w, i32_w]
    rfl
  refine pure_ (i := 2) (N := some 55) (v := ?_) (a' := ?_) #[true, true, true, false, false, false, false, false] rfl rfl (by kernel_rfl) (fun _ _ _ h => h) (Or.inl ⟨by rfl, ?_⟩) ?_ ?_
  rotate_left
  · intro w'
    go_simp
    with_reducible rfl
  rotate_left
  · simp only [Act.put, List.setIfInBounds_toArray, List.set_cons_zero, List.set_cons_succ, i64_w, i32_w]
    rfl
  refine take_ (i := 3) (N := some 56) (v := ?_) (a' := ?_) #[true, true, true, true, false, false, false, false] rfl rfl (by kernel_rfl) (fun _ _ _ h => h) (Or.inl ⟨by rfl, ?_⟩) hHeld ?_ ?_
  rotate_left
  · rintro w' ⟨s0, s1, s2⟩
    go_simp
    with_reducible rfl
  rotate_left
  · simp only [Act.put, List.setIfInBounds_toArray, List.set_cons_zero, List.set_cons_succ, i64_w, i32_w]
    rfl
  refine take_ (i := 4) (N := some 57) (v := ?_) (a' := ?_) #[true, true, true, true, true, false, false, false] rfl rfl (by kernel_rfl) (fun _ _ _ h => h) (Or.inl ⟨by rfl, ?_⟩) hHeld ?_ ?_
  rotate_left
  · rintro w' ⟨s0, s1, s2⟩
    go_simp
    with_reducible rfl
  rotate_left
  · simp only [Act.put, List.setIfInBounds_toArray, List.set_cons_zero, List.set_cons_succ, i64_w, i32_w]
    rfl
  refine pure_ (i := 5) (N := some 58) (v := ?_) (a' := ?_) #[true, true, true, true, true, true, false, false] rfl rfl (by kernel_rfl) (fun _ _ _ h => h) (Or.inl ⟨by rfl, ?_⟩) ?_ ?_
  rotate_left
  · intro w'
    go_simp
    with_reducible rfl
  rotate_left
  · simp only [Act.put, List.setIfInBounds_toArray, List.set_cons_zero, List.set_cons_succ, i64_w, i32_w]
    rfl
  clear hss
  refine one_ (i := 6) (N := some 59) #[true, true, true, true, true, true, true, false] rfl rfl (by kernel_rfl) (by decide) (fun K hK => ?_)
  refine goes_ Try.func28 (by kernel_rfl) rfl #[.pointer vr, .agg #[.int .i64 p.f0, .int .i64 p.f1], .slice A3 zs.length c3] (by rfl) rfl rfl (by (try simp only [List.map_toArray, List.map_cons, List.map_nil]); first | done | rfl) ?_
  refine (IR.out w3.drew _ _ ((HS.out _ (below_drew HB3.out)).2.2) (Nat.le_trans HBS.out HG3.out.size) (Kd.R_drew HR3.out) (by have := HN.out; have := HYL.out; have := HZL.out; omega)).mono ?_
  rintro e w4 ⟨v4, rfl, hR4, hG4⟩
  have HR4 := Aside0.mk hR4
  have hx := hG4.blk (w := w3.drew) HX3.out HO3.out
  have HX4 := Aside0.mk hx.1
  have HG4 := Aside0.mk ((HG3.out.then_below (below_drew (Below.refl _ _))).trans hG4)
  have hss := HSS.out w4 (HG4.out.below HBS.out (fun k hk => HR.out.1 k hk)) HX4.out
  refine ⟨_, rfl, hK.out _ _ ⟨hss.2.1, hss.2.2.2.2.2.2.1, hss.2.2.2.2.2.2.2⟩ (fun _ => ?_)⟩
  clear hK K hR4 hG4 hx hss
  refine norm_ (a' := ?_) ?_ ?_
  rotate_left
  · show Act.put _ (some 59) _ = _
    simp only [Act.put, List.setIfInBounds_toArray, List.set_cons_zero, List.set_cons_succ, i64_w, i32_w]
    rfl
  refine pure_ (i := 7) (N := some 6) (v := ?_) (a' := ?_) #[true, true, true, true, true, true, true, true] rfl rfl (by kernel_rfl) (fun _ _ _ h => h) (Or.inl ⟨by rfl, ?_⟩) ?_ ?_
  rotate_left
  · intro w'
    go_simp
    with_reducible rfl
  rotate_left
  · simp only [Act.put, List.setIfInBounds_toArray, List.set_cons_zero, List.set_cons_succ, i64_w, i32_w]
    rfl
  refine done_ (by kernel_rfl) ?_
  go_wp2
  go_ret
  refine ⟨_, rfl, ?_, HG4.out⟩
  have he : zs ++ ovl p r.sk = xs ++ (ovl p l.sk ++ y.f1 :: ovl p r.sk) := by rw [HZS.out, HYS.out]; simp [List.append_assoc]
  rw [← he]
  exact HR4.out
theorem overlap_calls (p : S28) (base : Nat) (T : BT) : (∀ k ∈ T.blks, k < base) → ∀ (w : World) (v : Value) (xs : List Int), T.At w → base ≤ w.heap.size → RN w base v xs → xs.length + T.list.length ≤ 1000000 → Calls Try.prog 28 #[T.ptr, .agg #[.int .i64 p.f0, .int .i64 p.f1], v] w (OPost base w v (xs ++ ovl p T.sk)) := by
  induction T with
  | nil =>
    intro _ w v xs _ hbase hR _
    show Calls Try.prog 28 #[.pointer none, _, v] w (OPost base w v (xs ++ []))
    rw [List.append_nil]
    exact overlap_nil p base w v xs hR hbase
  | nd q l r hl hr =>
    obtain ⟨b, y⟩ := q
    intro hlt w v xs h hbase hR hn
    have hl' := hl (fun k hk => hlt k (by rw [Tr.blks_nd]; simp [hk]))
    have hr' := hr (fun k hk => hlt k (by rw [Tr.blks_nd]; simp [hk]))
    show Calls Try.prog 28 #[.pointer (some ⟨b, 0, none⟩), _, v] w (OPost base w v (xs ++ (if (Tr.nd (b, y) l r).sk.en ≤ p.f0 then [] else ovl p l.sk ++ (if p.f1 ≤ y.f0.f0 then [] else (if p.f0 < y.f0.f1 then [y.f1] else []) ++ ovl p r.sk))))
    by_cases c0 : (Tr.nd (b, y) l r).sk.en ≤ p.f0
    · rw [if_pos c0, List.append_nil]
      exact overlap_0 p b y l r base w v xs h hlt hbase hR hn hl' hr' c0
    · rw [if_neg c0]
      by_cases c1 : p.f1 ≤ y.f0.f0
      · rw [if_pos c1, List.append_nil]
        exact overlap_1 p b y l r base w v xs h hlt hbase hR hn hl' hr' c0 c1
      · rw [if_neg c1]
        by_cases c2 : p.f0 < y.f0.f1
        · rw [if_pos c2]
          exact overlap_3 p b y l r base w v xs h hlt hbase hR hn hl' hr' c0 c1 c2
        · rw [if_neg c2]
          exact overlap_2 p b y l r base w v xs h hlt hbase hR hn hl' hr' c0 c1 c2
end Go.Proofs.Ytdjfjmcnghfdkaa.My
