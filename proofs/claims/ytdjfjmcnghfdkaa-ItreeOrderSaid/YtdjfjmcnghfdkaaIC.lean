/- fix. -/
import Derived.Test.YtdjfjmcnghfdkaaIB
namespace Go.Proofs.Ytdjfjmcnghfdkaa.My
open Go Go.RowKit Go.Proofs.YtdjfjmcnghfdkaaW.PrintWords Go.Proofs.YtdjfjmcnghfdkaaW.PrintLast Go.Proofs.YtdjfjmcnghfdkaaW.PrintMore Go.Proofs.Ytdjfjmcnghfdkaa.PItreeActs
set_option linter.unusedVariables false
set_option linter.unusedSimpArgs false
attribute [local go_sem] max2_mx max_two
set_option maxHeartbeats 1000000 in
set_option maxRecDepth 100000 in
theorem fix_calls (b : Nat) (x : S30) (l r : BT) (w : World) (h : Raw w b x l r) (hl : b ∉ l.blks) (hr : b ∉ r.blks) (hhl : l.ht ≤ 1000000) (hhr : r.ht ≤ 1000000) :
    Calls Try.prog 46 #[.pointer (some ⟨b, 0, none⟩)] w fun e w' => e = .returned (.tuple #[]) ∧ (Tr.nd (b, x) l r).At w' ∧ Wr w w' (fun k => k = b) := by
  obtain ⟨⟨h0, e0, hb⟩, hlA, hrA⟩ := h
  have HB := Aside0.mk hb
  have HL := Aside0.mk hlA
  have HR := Aside0.mk hrA
  have HM1 := Aside0.mk (measure_levels b l r w hlA hrA ((blk_cell hb 3).trans rfl) ((blk_cell hb 4).trans rfl))
  obtain ⟨m, hm⟩ : ∃ m : Int, m = max (l.ht : Int) (r.ht : Int) := ⟨_, rfl⟩
  rw [← hm] at HM1
  have hm0 : 0 ≤ m := by omega
  have hm1 : m ≤ 1000000 := by omega
  have HM := Aside0.mk hm
  have hf5 := blk_frozen hb 5
  have hc5 : w.cell? ⟨b, 5, none⟩ = some (.int .i64 h0) := (blk_cell hb 5).trans rfl
  clear hb hlA hrA hm
  go_enter Try.func46, Try.ntmps46
  go_wp2_with (go_at_call 60; refine (HM1.out).mono ?_; rintro e w1 ⟨rfl, hd⟩; obtain ⟨n, rfl⟩ := hd.out; clear hd)
  obtain ⟨w2, hw2⟩ : ∃ w2, w2 = (w.drewN n).setCell ⟨b, 5, none⟩ (.int .i64 (1 + m)) := ⟨_, rfl⟩
  have hW2 : Wr w w2 (fun k => k = b) := by rw [hw2]; exact ((Wr.refl w (fun k => k = b)).drewN n).set (S := fun k => k = b) rfl 5 _
  have hb2 : w2.heap[b]? = some (.cells (nodeC x l.ptr r.ptr (1 + m) e0) 69 (0, 0)) := by rw [hw2]; exact blk_put (cs := nodeC x l.ptr r.ptr h0 e0) HB.out 5 _ rfl
  rw [← hw2]
  have HW2 := Aside0.mk hW2
  have HB2 := Aside0.mk hb2
  have HL2 := Aside0.mk (HL.out.wr hW2 (fun k hk e => hl (e ▸ hk)))
  have HR2 := Aside0.mk (HR.out.wr hW2 (fun k hk e => hr (e ▸ hk)))
  have HM2 := Aside0.mk (measure_last b l r w2.drew (HL2.out.drewN 1) (HR2.out.drewN 1) ((blk_cell (w := w2.drew) hb2 3).trans rfl) ((blk_cell (w := w2.drew) hb2 4).trans rfl))
  have hz1 : w2.cell? ⟨b, 1, none⟩ = some (.int .i64 x.f0.f1) := (blk_cell hb2 1).trans rfl
  clear hW2 hb2 hw2 hc5 hf5
  refine start_ (n := 13) (S := fun w' => w'.cell? ⟨b, 1, none⟩ = some (.int .i64 x.f0.f1)) (ds := [12]) #[false, false, false, false, false, false, false, false, false, false, false, false, false] (by kernel_rfl) rfl rfl ?_ (fun hHeld => ?_)
  · exact hz1
  refine pure_ (i := 0) (N := some 8) (v := ?_) (a' := ?_) #[true, false, false, false, false, false, false, false, false, false, false, false, false] rfl rfl (by kernel_rfl) (fun _ _ _ h => h) (Or.inl ⟨by rfl, ?_⟩) ?_ ?_
  rotate_left
  · intro w'
    go_simp
    with_reducible rfl
  rotate_left
  · simp only [Act.put, List.setIfInBounds_toArray, List.set_cons_zero, List.set_cons_succ, i64_w, i32_w]
    rfl
  refine pure_ (i := 1) (N := some 9) (v := ?_) (a' := ?_) #[true, true, false, false, false, false, false, false, false, false, false, false, false] rfl rfl (by kernel_rfl) (fun _ _ _ h => h) (Or.inl ⟨by rfl, ?_⟩) ?_ ?_
  rotate_left
  · intro w'
    go_simp
    with_reducible rfl
  rotate_left
  · simp only [Act.put, List.setIfInBounds_toArray, List.set_cons_zero, List.set_cons_succ, i64_w, i32_w]
    rfl
  refine pure_ (i := 2) (N := some 10) (v := ?_) (a' := ?_) #[true, true, true, false, false, false, false, false, false, false, false, false, false] rfl rfl (by kernel_rfl) (fun _ _ _ h => h) (Or.inl ⟨by rfl, ?_⟩) ?_ ?_
  rotate_left
  · intro w'
    go_simp
    with_reducible rfl
  rotate_left
  · simp only [Act.put, List.setIfInBounds_toArray, List.set_cons_zero, List.set_cons_succ, i64_w, i32_w]
    rfl
  refine pure_ (i := 3) (N := some 11) (v := ?_) (a' := ?_) #[true, true, true, true, false, false, false, false, false, false, false, false, false] rfl rfl (by kernel_rfl) (fun _ _ _ h => h) (Or.inl ⟨by rfl, ?_⟩) ?_ ?_
  rotate_left
  · intro w'
    go_simp
    with_reducible rfl
  rotate_left
  · simp only [Act.put, List.setIfInBounds_toArray, List.set_cons_zero, List.set_cons_succ, i64_w, i32_w]
    rfl
  refine pure_ (i := 4) (N := some 12) (v := ?_) (a' := ?_) #[true, true, true, true, true, false, false, false, false, false, false, false, false] rfl rfl (by kernel_rfl) (fun _ _ _ h => h) (Or.inl ⟨by rfl, ?_⟩) ?_ ?_
  rotate_left
  · intro w'
    go_simp
    with_reducible rfl
  rotate_left
  · simp only [Act.put, List.setIfInBounds_toArray, List.set_cons_zero, List.set_cons_succ, i64_w, i32_w]
    rfl
  refine pure_ (i := 5) (N := some 13) (v := ?_) (a' := ?_) #[true, true, true, true, true, true, false, false, false, false, false, false, false] rfl rfl (by kernel_rfl) (fun _ _ _ h => h) (Or.inl ⟨by rfl, ?_⟩) ?_ ?_
  rotate_left
  · intro w'
    go_simp
    with_reducible rfl
  rotate_left
  · simp only [Act.put, List.setIfInBounds_toArray, List.set_cons_zero, List.set_cons_succ, i64_w, i32_w]
    rfl
  refine take_ (i := 6) (N := some 14) (v := ?_) (a' := ?_) #[true, true, true, true, true, true, true, false, false, false, false, false, false] rfl rfl (by kernel_rfl) (fun _ _ _ h => h) (Or.inl ⟨by rfl, ?_⟩) hHeld ?_ ?_
  rotate_left
  · rintro w' s0
    go_simp
    with_reducible rfl
  rotate_left
  · simp only [Act.put, List.setIfInBounds_toArray, List.set_cons_zero, List.set_cons_succ, i64_w, i32_w]
    rfl
  refine pure_ (i := 7) (N := some 15) (v := ?_) (a' := ?_) #[true, true, true, true, true, true, true, true, false, false, false, false, false] rfl rfl (by kernel_rfl) (fun _ _ _ h => h) (Or.inl ⟨by rfl, ?_⟩) ?_ ?_
  rotate_left
  · intro w'
    go_simp
    with_reducible rfl
  rotate_left
  · simp only [Act.put, List.setIfInBounds_toArray, List.set_cons_zero, List.set_cons_succ, i64_w, i32_w]
    rfl
  clear hz1
  refine one_ (i := 8) (N := some 16) #[true, true, true, true, true, true, true, true, true, false, false, false, false] rfl rfl (by kernel_rfl) (by decide) (fun K hK => ?_)
  refine goes_ Try.func60 (by kernel_rfl) rfl #[.func (.func 61) #[] #[], .pointer (some ⟨b, 0, none⟩)] (by rfl) rfl rfl (by (try simp only [List.map_toArray, List.map_cons, List.map_nil]); first | done | rfl) ?_
  refine HM2.out.mono ?_
  rintro e w3 ⟨rfl, hd⟩
  obtain ⟨n3, rfl⟩ := hd.out
  clear hd
  obtain ⟨w3, hw3⟩ : ∃ w3, w3 = w2.drew.drewN n3 := ⟨_, rfl⟩
  rw [← hw3]
  have HW3 := Aside0.mk (show Wr w w3 (fun k => k = b) by rw [hw3]; exact HW2.out)
  have HB3 := Aside0.mk (show w3.heap[b]? = some (.cells (nodeC x l.ptr r.ptr (1 + m) e0) 69 (0, 0)) by rw [hw3]; exact HB2.out)
  have HL3 := Aside0.mk (show l.At w3 by rw [hw3]; exact (HL2.out.drewN 1).drewN n3)
  have HR3 := Aside0.mk (show r.At w3 by rw [hw3]; exact (HR2.out.drewN 1).drewN n3)
  clear hw3
  refine ⟨_, rfl, hK.out _ _ ((blk_cell HB3.out 1).trans rfl) (fun _ => ?_)⟩
  clear hK K
  refine norm_ (a' := ?_) ?_ ?_
  rotate_left
  · show Act.put _ (some 16) _ = _
    simp only [Act.put, List.setIfInBounds_toArray, List.set_cons_zero, List.set_cons_succ, i64_w, i32_w]
    rfl
  refine pure_ (i := 9) (N := some 17) (v := ?_) (a' := ?_) #[true, true, true, true, true, true, true, true, true, true, false, false, false] rfl rfl (by kernel_rfl) (fun _ _ _ h => h) (Or.inl ⟨by rfl, ?_⟩) ?_ ?_
  rotate_left
  · intro w'
    go_simp
    with_reducible rfl
  rotate_left
  · simp only [Act.put, List.setIfInBounds_toArray, List.set_cons_zero, List.set_cons_succ, i64_w, i32_w]
    rfl
  refine pure_ (i := 10) (N := some 18) (v := ?_) (a' := ?_) #[true, true, true, true, true, true, true, true, true, true, true, false, false] rfl rfl (by kernel_rfl) (fun _ _ _ h => h) (Or.inl ⟨by rfl, ?_⟩) ?_ ?_
  rotate_left
  · intro w'
    go_simp
    with_reducible rfl
  rotate_left
  · simp only [Act.put, List.setIfInBounds_toArray, List.set_cons_zero, List.set_cons_succ, i64_w, i32_w]
    rfl
  refine pure_ (i := 11) (N := some 19) (v := ?_) (a' := ?_) #[true, true, true, true, true, true, true, true, true, true, true, true, false] rfl rfl (by kernel_rfl) (fun _ _ _ h => h) (Or.inl ⟨by rfl, ?_⟩) ?_ ?_
  rotate_left
  · intro w'
    go_simp
    with_reducible rfl
  rotate_left
  · simp only [Act.put, List.setIfInBounds_toArray, List.set_cons_zero, List.set_cons_succ, i64_w, i32_w]
    rfl
  refine last_ (i := 12) (N := none) #[true, true, true, true, true, true, true, true, true, true, true, true, true] rfl rfl (by kernel_rfl) (by decide) (fun K hK => ?_)
  have hc6 : w3.cell? ⟨b, 6, none⟩ = some (.int .i64 e0) := (blk_cell HB3.out 6).trans rfl
  have hf6 := blk_frozen HB3.out 6
  refine skip_ (w1 := ?_) (by rfl) rfl ?_ ?_
  rotate_left
  · go_simp
    rfl
  refine hK.out _ _ ?_
  clear hK K
  refine done_ (by kernel_rfl) ?_
  go_wp2
  go_end0
  refine ⟨rfl, ⟨?_, ?_, ?_⟩, ?_⟩
  · have e1 : ((Tr.nd (b, x) l r).ht : Int) = 1 + m := by rw [HM.out]; simp only [Tr.ht]; omega
    show (World.heap _)[b]? = _
    rw [e1]
    exact blk_put (cs := nodeC x l.ptr r.ptr (1 + m) e0) HB3.out 6 _ rfl
  · exact HL3.out.wr ((Wr.refl w3 (fun k => k = b)).set (S := fun k => k = b) rfl 6 _) (fun k hk e => hl (e ▸ hk))
  · exact HR3.out.wr ((Wr.refl w3 (fun k => k = b)).set (S := fun k => k = b) rfl 6 _) (fun k hk e => hr (e ▸ hk))
  · exact HW3.out.set (S := fun k => k = b) rfl 6 _
theorem ht_sk (t : BT) : t.sk.ht = t.ht := Tr.ht_map _ _
end Go.Proofs.Ytdjfjmcnghfdkaa.My
