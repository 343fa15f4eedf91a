/- list. -/
import Derived.Test.YtdjfjmcnghfdkaaIL
namespace Go.Proofs.Ytdjfjmcnghfdkaa.My
open Go Go.RowKit Go.Proofs.YtdjfjmcnghfdkaaW.PrintWords Go.Proofs.YtdjfjmcnghfdkaaW.PrintLast Go.Proofs.YtdjfjmcnghfdkaaW.PrintMore Go.Proofs.Ytdjfjmcnghfdkaa.PItreeActs
set_option linter.unusedVariables false
set_option linter.unusedSimpArgs false
/-- A row of items of the call's own. -/
abbrev RI (w : World) (base : Nat) (v : Value) (xs : List S30) : Prop := Kd.R k30 30 w base (fun k => base ≤ k) v xs
theorem RI.below {w w' : World} {base : Nat} {v : Value} {xs : List S30} (h : RI w base v xs) (hb : Below w.heap.size w w') : RI w' base v xs := Kd.R_below h hb
theorem below_weaken' {w w' : World} {base : Nat} (hb : base ≤ w.heap.size) (h : Below w.heap.size w w') : Below base w w' := ⟨h.os, h.tape, h.output, h.size, fun k hk => h.block k (Nat.lt_of_lt_of_le hk hb)⟩
/-- What a call that appends to the row v leaves: the row's own block and new blocks alone were written. -/
def Grw (w w' : World) (v v' : Value) : Prop := w.grownBy w' v.ownBlock ∧ (v'.ownBlock = v.ownBlock ∨ ∃ b, v'.ownBlock = some b ∧ w.heap.size ≤ b)
theorem Grw.refl (w : World) (v : Value) : Grw w w v v := ⟨grown_of_below (Below.refl _ _) _, .inl rfl⟩
theorem Grw.size {w w' : World} {v v' : Value} (h : Grw w w' v v') : w.heap.size ≤ w'.heap.size := h.1.size
theorem Grw.trans {w w1 w2 : World} {v v1 v2 : Value} (h : Grw w w1 v v1) (k : Grw w1 w2 v1 v2) : Grw w w2 v v2 := by
  refine ⟨⟨k.1.os.trans h.1.os, k.1.tape.trans h.1.tape, k.1.output.trans h.1.output, Nat.le_trans h.1.size k.1.size, fun i hi hr => ?_⟩, ?_⟩
  · refine (k.1.block i (Nat.lt_of_lt_of_le hi h.1.size) (fun e => ?_)).trans (h.1.block i hi hr)
    rcases h.2 with h2 | ⟨b, h2, hb⟩
    · exact hr (e.trans h2)
    · rw [h2] at e
      injection e with e
      omega
  · rcases k.2 with h2 | ⟨b, h2, hb⟩
    · rcases h.2 with h3 | ⟨b, h3, hb⟩
      · exact .inl (h2.trans h3)
      · exact .inr ⟨b, h2.trans h3, hb⟩
    · exact .inr ⟨b, h2, Nat.le_trans h.1.size hb⟩
theorem Grw.then_below {w w1 w2 : World} {v v1 : Value} (h : Grw w w1 v v1) (k : Below w1.heap.size w1 w2) : Grw w w2 v v1 := h.trans ⟨grown_of_below k _, .inl rfl⟩
theorem Grw.after_below {w w1 w2 : World} {v v1 : Value} (k : Below w.heap.size w w1) (h : Grw w1 w2 v v1) : Grw w w2 v v1 := Grw.trans ⟨grown_of_below k _, .inl rfl⟩ h
theorem Grw.below {w w' : World} {v v' : Value} {base : Nat} (h : Grw w w' v v') (hb : base ≤ w.heap.size) (ho : ∀ k, v.ownBlock = some k → base ≤ k) : Below base w w' := (Below.refl base w).grown h.1 hb ho
theorem Grw.blk {w w' : World} {v v' : Value} {g : Nat} {o : Obj} (h : Grw w w' v v') (hg : w.heap[g]? = some o) (hn : some g ≠ v.ownBlock) : w'.heap[g]? = some o ∧ some g ≠ v'.ownBlock := by
  refine ⟨blk_grown hg h.1 hn, ?_⟩
  rcases h.2 with h2 | ⟨b, h2, hb⟩
  · rw [h2]; exact hn
  · rw [h2]
    intro e
    injection e with e
    have := blk_lt hg
    omega
abbrev LPost (base : Nat) (w : World) (v : Value) (ys : List S30) : Ending → World → Prop := fun e w' => ∃ v', e = .returned v' ∧ RI w' base v' ys ∧ Grw w w' v v'
def itemC (y : S30) : List Value := [.int .i64 y.f0.f0, .int .i64 y.f0.f1, .int .i64 y.f1]
theorem item_row {w : World} {g : Nat} {y : S30} (h : w.heap[g]? = some (boxI y)) : ReadsRow (fun (x : S30) cs => cs = itemC x) 3 w (some ⟨g, 0, none⟩) 1 [y] := by
  refine ⟨rfl, by omega, fun _ => ⟨_, rfl, fun j p hj => ?_⟩⟩
  rcases j with _ | j
  · simp at hj
    subst hj
    refine ⟨itemC y, rfl, rfl, fun i v hi => ?_⟩
    show w.cell? (Addr.add ⟨g, 0, none⟩ (0 * 3 + i)) = _
    rw [show Addr.add ⟨g, 0, none⟩ (0 * 3 + i) = ⟨g, i, none⟩ from by simp [Addr.add, eq_comm], blk_cell h i]
    rw [← hi]
    simp [itemC]
  · simp at hj
section
variable {ops : Array Oper} {o : Oper} {a : Act} {Q : Exit → Act → World → Prop} {Kc : Act → World → Prop}
theorem lit1_step {W : World} {cs : Array Value} {t : TypeId} (hw : Region.wanted o (yielded ops a.tmps) = true)
    (hrun : (execOp a.eval o).run Try.prog W = .ok (.value (.slice (some ⟨W.heap.size, 0, none⟩) 1 1)) (W.alloc (.cells cs t (0, 0))))
    (h : ∀ g w1, Aside0 (g = W.heap.size) → Aside0 (w1.heap[g]? = some (.cells cs t (0, 0))) → Aside0 (Below W.heap.size W w1) → Kc (a.put o.dst (.slice (some ⟨g, 0, none⟩) 1 1)) w1) : if Region.wanted o (yielded ops a.tmps) = true then Oper.wp Try.prog o a W Kc Q else Kc (a.put o.dst undef) W :=
  event_step hw hrun (h _ _ ⟨rfl⟩ ⟨blk_new W _⟩ ⟨below_alloc (Below.refl _ _) _⟩)
theorem app_item_step {W : World} (base : Nat) (hw : Region.wanted o (yielded ops a.tmps) = true) (s x : Operand) (ho : o.op = .call { callee := .builtin .append, args := #[s, x], argTypes := #[22, 22] })
    (v : Value) (xs : List S30) (y : S30) (g : Nat) (hs : a.eval s = v) (hx : a.eval x = .slice (some ⟨g, 0, none⟩) 1 1) (HO : RI W base v xs) (HG : W.heap[g]? = some (boxI y)) (hbase : base ≤ W.heap.size) (hl : xs.length + 1 ≤ 2000000)
    (h : ∀ v1 w1, Aside0 (RI w1 base v1 (xs ++ [y])) → Aside0 (Grw W w1 v v1) → Kc (a.put o.dst v1) w1) :
    if Region.wanted o (yielded ops a.tmps) = true then Oper.wp Try.prog o a W Kc Q else Kc (a.put o.dst undef) W :=
  Kd.R_append_rows_step k30 (w0 := W) base hw s x 22 30 (.agg #[(.int .i64 0), (.int .i64 0), (.int .i64 0)]) 24 ho Try.underlying22 info30 rfl (by decide) (by decide) v xs [y] (some ⟨g, 0, none⟩) 1 1 (fun k => base ≤ k) (fun _ => False) hs hx HO (item_row HG)
    (fun x cs hc => by rw [hc]; exact k30_mkM _ _ _ x) (fun _ hk => hk.elim) (fun _ hk => Nat.le_trans hbase hk) (Below.refl _ _) hbase (by omega) (fun v1 w1 h1 _ h3 h4 => h v1 w1 ⟨h1⟩ ⟨⟨h3, h4⟩⟩)
end
set_option maxHeartbeats 1000000 in
set_option maxRecDepth 100000 in
theorem list_nd (b : Nat) (y : S30) (l r : BT) (base : Nat) (w : World) (v : Value) (xs : List S30) (h : (Tr.nd (b, y) l r).At w) (hlt : ∀ k ∈ (Tr.nd (b, y) l r).blks, k < base) (hbase : base ≤ w.heap.size) (hR : RI w base v xs) (hn : xs.length + (Tr.nd (b, y) l r).list.length ≤ 1000000)
    (ihl : ∀ (w : World) (v : Value) (xs : List S30), l.At w → base ≤ w.heap.size → RI w base v xs → xs.length + l.list.length ≤ 1000000 → Calls Try.prog 37 #[l.ptr, v] w (LPost base w v (xs ++ l.sk.list)))
    (ihr : ∀ (w : World) (v : Value) (xs : List S30), r.At w → base ≤ w.heap.size → RI w base v xs → xs.length + r.list.length ≤ 1000000 → Calls Try.prog 37 #[r.ptr, v] w (LPost base w v (xs ++ r.sk.list))) :
    Calls Try.prog 37 #[.pointer (some ⟨b, 0, none⟩), v] w (LPost base w v (xs ++ (Tr.nd (b, y) l r).sk.list)) := by
  obtain ⟨A, c, rfl⟩ := Kd.R_slice hR
  have HS := Aside0.mk (fun (w' : World) (hB : Below base w w') => (show (Tr.nd (b, y) l r).At w' from h.keep (fun k hk _ => hB.block k (hlt k hk))))
  obtain ⟨vl, hvl⟩ := ptr_pointer l
  obtain ⟨vr, hvr⟩ := ptr_pointer r
  rw [hvl] at ihl
  rw [hvr] at ihr
  have HVL := Aside0.mk hvl
  have HVR := Aside0.mk hvr
  have IL := Aside0.mk ihl
  have IR := Aside0.mk ihr
  have HR := Aside0.mk hR
  have HBS := Aside0.mk hbase
  have hn' : xs.length + l.list.length + 1 + r.list.length ≤ 1000000 := by simp only [Tr.list, List.length_append, List.length_cons] at hn; omega
  have HN := Aside0.mk hn'
  have HLL := Aside0.mk (show l.sk.list.length = l.list.length by rw [Tr.list_map]; simp)
  have hu30 := Try.underlying30
  have HSS := Aside0.mk (fun (w' : World) (hB : Below base w w') => (show w'.cell? ⟨b, 3, none⟩ = some (.pointer vl) ∧ w'.cell? ⟨b, 4, none⟩ = some (.pointer vr) ∧ w'.cell? ⟨b, 0, none⟩ = some (.int .i64 y.f0.f0) ∧ w'.cell? ⟨b, 1, none⟩ = some (.int .i64 y.f0.f1) ∧ w'.cell? ⟨b, 2, none⟩ = some (.int .i64 y.f1) from
    ⟨(blk_cell (HS.out w' hB).1 3).trans (congrArg some HVL.out), (blk_cell (HS.out w' hB).1 4).trans (congrArg some HVR.out), (blk_cell (HS.out w' hB).1 0).trans rfl, (blk_cell (HS.out w' hB).1 1).trans rfl, (blk_cell (HS.out w' hB).1 2).trans rfl⟩))
  clear h hlt hbase hR hn hn' ihl ihr hvl hvr
  go_enter Try.func37, Try.ntmps37
  go_wp2_with fail
  have HB0 := Aside0.mk (below_drew (Below.refl base w))
  have HD := Aside0.mk (below_drew (Below.refl w.heap.size w))
  refine start_ (n := 18) (S := fun w' => (w'.cell? ⟨b, 3, none⟩ = some (.pointer vl) ∧ w'.cell? ⟨b, 4, none⟩ = some (.pointer vr) ∧ w'.cell? ⟨b, 0, none⟩ = some (.int .i64 y.f0.f0) ∧ w'.cell? ⟨b, 1, none⟩ = some (.int .i64 y.f0.f1) ∧ w'.cell? ⟨b, 2, none⟩ = some (.int .i64 y.f1))) (ds := []) #[false, false, false, false, false, false, false, false, false, false, false, false, false, false, false, false, false, false] (by kernel_rfl) rfl rfl ?_ (fun hHeld => ?_)
  · exact HSS.out _ HB0.out
  refine pure_ (i := 0) (N := some 8) (v := ?_) (a' := ?_) #[true, false, false, false, false, false, false, false, false, false, false, false, false, false, false, false, false, false] rfl rfl (by kernel_rfl) (fun _ _ _ h => h) (Or.inl ⟨by rfl, ?_⟩) ?_ ?_
  rotate_left
  · intro w'
    go_simp
    with_reducible rfl
  rotate_left
  · simp only [Act.put, List.setIfInBounds_toArray, List.set_cons_zero, List.set_cons_succ, i64_w, i32_w]
    rfl
  refine pure_ (i := 1) (N := some 9) (v := ?_) (a' := ?_) #[true, true, false, false, false, false, false, false, false, false, false, false, false, false, false, false, false, false] rfl rfl (by kernel_rfl) (fun _ _ _ h => h) (Or.inl ⟨by rfl, ?_⟩) ?_ ?_
  rotate_left
  · intro w'
    go_simp
    with_reducible rfl
  rotate_left
  · simp only [Act.put, List.setIfInBounds_toArray, List.set_cons_zero, List.set_cons_succ, i64_w, i32_w]
    rfl
  refine pure_ (i := 2) (N := some 10) (v := ?_) (a' := ?_) #[true, true, true, false, false, false, false, false, false, false, false, false, false, false, false, false, false, false] rfl rfl (by kernel_rfl) (fun _ _ _ h => h) (Or.inl ⟨by rfl, ?_⟩) ?_ ?_
  rotate_left
  · intro w'
    go_simp
    with_reducible rfl
  rotate_left
  · simp only [Act.put, List.setIfInBounds_toArray, List.set_cons_zero, List.set_cons_succ, i64_w, i32_w]
    rfl
  refine take_ (i := 3) (N := some 11) (v := ?_) (a' := ?_) #[true, true, true, true, false, false, false, false, false, false, false, false, false, false, false, false, false, false] rfl rfl (by kernel_rfl) (fun _ _ _ h => h) (Or.inl ⟨by rfl, ?_⟩) hHeld ?_ ?_
  rotate_left
  · rintro w' ⟨s0, s1, s2, s3, s4⟩
    go_simp
    with_reducible rfl
  rotate_left
  · simp only [Act.put, List.setIfInBounds_toArray, List.set_cons_zero, List.set_cons_succ, i64_w, i32_w]
    rfl
  refine pure_ (i := 4) (N := some 12) (v := ?_) (a' := ?_) #[true, true, true, true, true, false, false, false, false, false, false, false, false, false, false, false, false, false] rfl rfl (by kernel_rfl) (fun _ _ _ h => h) (Or.inl ⟨by rfl, ?_⟩) ?_ ?_
  rotate_left
  · intro w'
    go_simp
    with_reducible rfl
  rotate_left
  · simp only [Act.put, List.setIfInBounds_toArray, List.set_cons_zero, List.set_cons_succ, i64_w, i32_w]
    rfl
  refine pure_ (i := 5) (N := some 13) (v := ?_) (a' := ?_) #[true, true, true, true, true, true, false, false, false, false, false, false, false, false, false, false, false, false] rfl rfl (by kernel_rfl) (fun _ _ _ h => h) (Or.inl ⟨by rfl, ?_⟩) ?_ ?_
  rotate_left
  · intro w'
    go_simp
    with_reducible rfl
  rotate_left
  · simp only [Act.put, List.setIfInBounds_toArray, List.set_cons_zero, List.set_cons_succ, i64_w, i32_w]
    rfl
  refine pure_ (i := 6) (N := some 14) (v := ?_) (a' := ?_) #[true, true, true, true, true, true, true, false, false, false, false, false, false, false, false, false, false, false] rfl rfl (by kernel_rfl) (fun _ _ _ h => h) (Or.inl ⟨by rfl, ?_⟩) ?_ ?_
  rotate_left
  · intro w'
    go_simp
    with_reducible rfl
  rotate_left
  · simp only [Act.put, List.setIfInBounds_toArray, List.set_cons_zero, List.set_cons_succ, i64_w, i32_w]
    rfl
  refine take_ (i := 7) (N := some 15) (v := ?_) (a' := ?_) #[true, true, true, true, true, true, true, true, false, false, false, false, false, false, false, false, false, false] rfl rfl (by kernel_rfl) (fun _ _ _ h => h) (Or.inl ⟨by rfl, ?_⟩) hHeld ?_ ?_
  rotate_left
  · rintro w' ⟨s0, s1, s2, s3, s4⟩
    go_simp
    with_reducible rfl
  rotate_left
  · simp only [Act.put, List.setIfInBounds_toArray, List.set_cons_zero, List.set_cons_succ, i64_w, i32_w]
    rfl
  refine pure_ (i := 8) (N := some 16) (v := ?_) (a' := ?_) #[true, true, true, true, true, true, true, true, true, false, false, false, false, false, false, false, false, false] rfl rfl (by kernel_rfl) (fun _ _ _ h => h) (Or.inl ⟨by rfl, ?_⟩) ?_ ?_
  rotate_left
  · intro w'
    go_simp
    with_reducible rfl
  rotate_left
  · simp only [Act.put, List.setIfInBounds_toArray, List.set_cons_zero, List.set_cons_succ, i64_w, i32_w]
    rfl
  refine pure_ (i := 10) (N := some 18) (v := ?_) (a' := ?_) #[true, true, true, true, true, true, true, true, true, false, true, false, false, false, false, false, false, false] rfl rfl (by kernel_rfl) (fun _ _ _ h => h) (Or.inl ⟨by rfl, ?_⟩) ?_ ?_
  rotate_left
  · intro w'
    go_simp
    with_reducible rfl
  rotate_left
  · simp only [Act.put, List.setIfInBounds_toArray, List.set_cons_zero, List.set_cons_succ, i64_w, i32_w]
    rfl
  refine pure_ (i := 11) (N := some 19) (v := ?_) (a' := ?_) #[true, true, true, true, true, true, true, true, true, false, true, true, false, false, false, false, false, false] rfl rfl (by kernel_rfl) (fun _ _ _ h => h) (Or.inl ⟨by rfl, ?_⟩) ?_ ?_
  rotate_left
  · intro w'
    go_simp
    with_reducible rfl
  rotate_left
  · simp only [Act.put, List.setIfInBounds_toArray, List.set_cons_zero, List.set_cons_succ, i64_w, i32_w]
    rfl
  refine pure_ (i := 12) (N := some 20) (v := ?_) (a' := ?_) #[true, true, true, true, true, true, true, true, true, false, true, true, true, false, false, false, false, false] rfl rfl (by kernel_rfl) (fun _ _ _ h => h) (Or.inl ⟨by rfl, ?_⟩) ?_ ?_
  rotate_left
  · intro w'
    go_simp
    with_reducible rfl
  rotate_left
  · simp only [Act.put, List.setIfInBounds_toArray, List.set_cons_zero, List.set_cons_succ, i64_w, i32_w]
    rfl
  refine take_ (i := 13) (N := some 21) (v := ?_) (a' := ?_) #[true, true, true, true, true, true, true, true, true, false, true, true, true, true, false, false, false, false] rfl rfl (by kernel_rfl) (fun _ _ _ h => h) (Or.inl ⟨by rfl, ?_⟩) hHeld ?_ ?_
  rotate_left
  · rintro w' ⟨s0, s1, s2, s3, s4⟩
    go_simp
    with_reducible rfl
  rotate_left
  · simp only [Act.put, List.setIfInBounds_toArray, List.set_cons_zero, List.set_cons_succ, i64_w, i32_w]
    rfl
  refine join_ (σ := Value × Value) 3 #[true, true, true, true, true, true, true, true, true, true, true, true, true, true, true, false, false, false] (fun s_ => [(17, s_.1), (22, s_.2)]) (fun (s : Value × Value) w' => RI w' base s.1 (xs ++ l.sk.list) ∧ Grw w w' (.slice A xs.length c) s.1 ∧ (∃ g, s.2 = .slice (some ⟨g, 0, none⟩) 1 1 ∧ w'.heap[g]? = some (boxI y) ∧ some g ≠ s.1.ownBlock)) ?_ ?_
  rotate_left
  · intro hCont
    refine two_ (i := 9) (j := 14) (Ni := some 17) (Nj := some 22) #[true, true, true, true, true, true, true, true, true, true, true, true, true, true, false, false, false, false] #[true, true, true, true, true, true, true, true, true, false, true, true, true, true, true, false, false, false] rfl rfl rfl rfl (by kernel_rfl) (by decide) (by decide) (fun K hK => ?_) (fun K hK => ?_)
    · skip
      refine goes_ Try.func37 (by kernel_rfl) rfl #[.pointer vl, .slice A xs.length c] (by rfl) rfl rfl (by (try simp only [List.map_toArray, List.map_cons, List.map_nil]); first | done | rfl) ?_
      refine (IL.out w.drew _ xs ((HS.out _ HB0.out).2.1) (Nat.le_trans HBS.out HD.out.size) (HR.out.below HD.out) (by have := HN.out; omega)).mono ?_
      rintro e w1 ⟨v1, rfl, hR1, hG1⟩
      have HR1 := Aside0.mk hR1
      have HG1 := Aside0.mk (Grw.after_below HD.out hG1)
      have HB1 := Aside0.mk (HG1.out.below HBS.out (fun k hk => HR.out.1 k hk))
      refine ⟨_, rfl, hK.out _ _ (HSS.out _ HB1.out) (fun _ => ?_)⟩
      clear hK K hR1 hG1
      refine norm_ (a' := ?_) ?_ ?_
      rotate_left
      · show Act.put _ (some 17) _ = _
        simp only [Act.put, List.setIfInBounds_toArray, List.set_cons_zero, List.set_cons_succ, i64_w, i32_w]
        rfl
      refine one_ (i := 14) (N := some 22) #[true, true, true, true, true, true, true, true, true, true, true, true, true, true, true, false, false, false] rfl rfl (by kernel_rfl) (by decide) (fun K hK => ?_)
      refine lit1_step (cs := #[.int .i64 y.f0.f0, .int .i64 y.f0.f1, .int .i64 y.f1]) (t := 30) (by rfl) (by first | (go_simp; done) | (go_simp; rfl)) ?_
      intro g w2 HG2 HH2 HB2
      have HB3 := Aside0.mk (HG1.out.then_below HB2.out)
      have hg := HG2.out
      refine hK.out _ _ (HSS.out _ (HB3.out.below HBS.out (fun k hk => HR.out.1 k hk))) (fun _ => ?_)
      clear hK K
      refine norm_ (a' := ?_) ?_ ?_
      rotate_left
      · show Act.put _ (some 22) _ = _
        simp only [Act.put, List.setIfInBounds_toArray, List.set_cons_zero, List.set_cons_succ, i64_w, i32_w]
        rfl
      exact norm_ (by simp only [putAll, Act.put, List.setIfInBounds_toArray, List.set_cons_zero, List.set_cons_succ]) (hCont (v1, .slice (some ⟨g, 0, none⟩) 1 1) _ ⟨HR1.out.below HB2.out, HB3.out, g, rfl, HH2.out, fun he => by have := Kd.R_lt HR1.out g he.symm; omega⟩)
    · skip
      refine lit1_step (cs := #[.int .i64 y.f0.f0, .int .i64 y.f0.f1, .int .i64 y.f1]) (t := 30) (by rfl) (by first | (go_simp; done) | (go_simp; rfl)) ?_
      intro g w1 HG1 HH1 HB1
      have HD1 := Aside0.mk (below_then HD.out HD.out.size HB1.out)
      have hg := HG1.out
      have hd : w.drew.heap.size = w.heap.size := rfl
      have HBB := Aside0.mk (below_weaken' HBS.out HD1.out)
      refine hK.out _ _ (HSS.out _ HBB.out) (fun _ => ?_)
      clear hK K
      refine norm_ (a' := ?_) ?_ ?_
      rotate_left
      · show Act.put _ (some 22) _ = _
        simp only [Act.put, List.setIfInBounds_toArray, List.set_cons_zero, List.set_cons_succ, i64_w, i32_w]
        rfl
      refine one_ (i := 9) (N := some 17) #[true, true, true, true, true, true, true, true, true, true, true, true, true, true, true, false, false, false] rfl rfl (by kernel_rfl) (by decide) (fun K hK => ?_)
      refine goes_ Try.func37 (by kernel_rfl) rfl #[.pointer vl, .slice A xs.length c] (by rfl) rfl rfl (by (try simp only [List.map_toArray, List.map_cons, List.map_nil]); first | done | rfl) ?_
      refine (IL.out w1 _ xs ((HS.out _ HBB.out).2.1) (Nat.le_trans HBS.out HD1.out.size) (HR.out.below HD1.out) (by have := HN.out; omega)).mono ?_
      rintro e w2 ⟨v2, rfl, hR2, hG2⟩
      have HR2 := Aside0.mk hR2
      have HX := Aside0.mk (hG2.blk HH1.out (fun he => by have := Kd.R_lt HR.out g he.symm; omega))
      have HG2 := Aside0.mk (Grw.after_below HD1.out hG2)
      have HB2 := Aside0.mk (HG2.out.below HBS.out (fun k hk => HR.out.1 k hk))
      refine ⟨_, rfl, hK.out _ _ (HSS.out _ HB2.out) (fun _ => ?_)⟩
      clear hK K hR2 hG2
      refine norm_ (a' := ?_) ?_ ?_
      rotate_left
      · show Act.put _ (some 17) _ = _
        simp only [Act.put, List.setIfInBounds_toArray, List.set_cons_zero, List.set_cons_succ, i64_w, i32_w]
        rfl
      exact norm_ (by simp only [putAll, Act.put, List.setIfInBounds_toArray, List.set_cons_zero, List.set_cons_succ]) (hCont (v2, .slice (some ⟨g, 0, none⟩) 1 1) _ ⟨HR2.out, HG2.out, g, rfl, HX.out.1, HX.out.2⟩)
  rintro ⟨v1, v22⟩ w1 ⟨hR1, hG1, g, rfl, hg1, hg2⟩
  refine norm_ (a' := ?_) ?_ ?_
  rotate_left
  · simp only [putAll, Act.put, List.setIfInBounds_toArray, List.set_cons_zero, List.set_cons_succ]
    rfl
  replace hR1 : RI w1 base v1 (xs ++ l.sk.list) := hR1
  replace hG1 : Grw w w1 (.slice A xs.length c) v1 := hG1
  have HR1 := Aside0.mk hR1
  have HG1 := Aside0.mk hG1
  have HGB := Aside0.mk hg1
  clear hR1 hG1 hg1 hg2
  refine one_ (i := 15) (N := some 23) #[true, true, true, true, true, true, true, true, true, true, true, true, true, true, true, true, false, false] rfl rfl (by kernel_rfl) (by decide) (fun K hK => ?_)
  refine app_item_step base (by rfl) (.tmp 17) (.tmp 22) (by rfl) v1 (xs ++ l.sk.list) y g rfl rfl HR1.out HGB.out (Nat.le_trans HBS.out HG1.out.size) (by have := HN.out; have := HLL.out; simp only [List.length_append]; omega) ?_
  intro v2 w2 HR2 HG2
  have HGG := Aside0.mk (HG1.out.trans HG2.out)
  obtain ⟨A2, c2, rfl⟩ := Kd.R_slice HR2.out
  refine hK.out _ _ (HSS.out _ (HGG.out.below HBS.out (fun k hk => HR.out.1 k hk))) (fun _ => ?_)
  clear hK K
  refine norm_ (a' := ?_) ?_ ?_
  rotate_left
  · show Act.put _ (some 23) _ = _
    simp only [Act.put, List.setIfInBounds_toArray, List.set_cons_zero, List.set_cons_succ, i64_w, i32_w]
    rfl
  refine one_ (i := 16) (N := some 24) #[true, true, true, true, true, true, true, true, true, true, true, true, true, true, true, true, true, false] rfl rfl (by kernel_rfl) (by decide) (fun K hK => ?_)
  refine goes_ Try.func37 (by kernel_rfl) rfl #[.pointer vr, .slice A2 (xs ++ l.sk.list ++ [y]).length c2] (by rfl) rfl rfl (by (try simp only [List.map_toArray, List.map_cons, List.map_nil]); first | done | rfl) ?_
  refine (IR.out w2 _ _ ((HS.out _ (HGG.out.below HBS.out (fun k hk => HR.out.1 k hk))).2.2) (Nat.le_trans HBS.out HGG.out.size) HR2.out (by have := HN.out; have := HLL.out; simp only [List.length_append, List.length_singleton]; omega)).mono ?_
  rintro e w3 ⟨v3, rfl, hR3, hG3⟩
  have HR3 := Aside0.mk hR3
  have HG3 := Aside0.mk (HGG.out.trans hG3)
  refine ⟨_, rfl, hK.out _ _ (HSS.out _ (HG3.out.below HBS.out (fun k hk => HR.out.1 k hk))) (fun _ => ?_)⟩
  clear hK K hR3 hG3
  refine norm_ (a' := ?_) ?_ ?_
  rotate_left
  · show Act.put _ (some 24) _ = _
    simp only [Act.put, List.setIfInBounds_toArray, List.set_cons_zero, List.set_cons_succ, i64_w, i32_w]
    rfl
  refine pure_ (i := 17) (N := some 4) (v := ?_) (a' := ?_) #[true, true, true, true, true, true, true, true, true, true, true, true, true, true, true, true, true, true] rfl rfl (by kernel_rfl) (fun _ _ _ h => h) (Or.inl ⟨by rfl, ?_⟩) ?_ ?_
  rotate_left
  · intro w'
    go_simp
    with_reducible rfl
  rotate_left
  · simp only [Act.put, List.setIfInBounds_toArray, List.set_cons_zero, List.set_cons_succ, i64_w, i32_w]
    rfl
  refine done_ (by kernel_rfl) ?_
  go_wp2
  go_ret
  refine ⟨_, rfl, ?_, HG3.out⟩
  have he : xs ++ l.sk.list ++ [y] ++ r.sk.list = xs ++ (Tr.nd (b, y) l r).sk.list := by simp [Tr.sk, Tr.map, Tr.list, List.append_assoc]
  rw [← he]
  exact HR3.out
end Go.Proofs.Ytdjfjmcnghfdkaa.My
