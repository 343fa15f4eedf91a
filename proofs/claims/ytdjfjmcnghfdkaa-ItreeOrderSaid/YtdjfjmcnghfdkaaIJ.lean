/- remove, whole. -/
import Derived.Test.YtdjfjmcnghfdkaaII
namespace Go.Proofs.Ytdjfjmcnghfdkaa.My
open Go Go.RowKit Go.Proofs.YtdjfjmcnghfdkaaW.PrintWords Go.Proofs.YtdjfjmcnghfdkaaW.PrintLast Go.Proofs.YtdjfjmcnghfdkaaW.PrintMore Go.Proofs.Ytdjfjmcnghfdkaa.PItreeActs
set_option linter.unusedVariables false
set_option linter.unusedSimpArgs false
set_option maxHeartbeats 1000000 in
set_option maxRecDepth 100000 in
theorem remove_e0 (b : Nat) (y : S30) (r : BT) (x : S30) (w : World) (h : (Tr.nd (b, y) .nil r).At w) (hn : (Tr.nd (b, y) .nil r).blks.Nodup) (hc : cmp y x = 0) :
    Calls Try.prog 33 #[.pointer (some ⟨b, 0, none⟩), aggI x] w (InsPost w (.nd (b, y) .nil r) r.sk) := by
  obtain ⟨n1, n2, n3, n4, n5⟩ := blks_nodup_nd hn
  obtain ⟨wb, hwb⟩ : ∃ wb, wb = w.alloc (boxI x) := ⟨_, rfl⟩
  have hW : Below w.heap.size w wb := by rw [hwb]; exact below_alloc (Below.refl _ _) _
  have hT1 := h.below hW
  have HC := Aside0.mk (ncompare_calls b y x _ _ _ _ wb hT1.1)
  have HS := Aside0.mk (fun (w' : World) (hB : Below wb.heap.size wb w') => h.below (below_then hW hW.size hB))
  rw [hc] at HC
  have hu30 := Try.underlying30
  have hu69 := Try.underlying69
  obtain ⟨vr, hvr⟩ := ptr_pointer r
  have HVR := Aside0.mk hvr
  have HW := Aside0.mk hW
  have HWB := Aside0.mk hwb
  have HN := Aside0.mk n2
  clear h hn hc n1 n2 n3 n4 n5 hW hwb hT1 hvr
  show Calls Try.prog 33 #[.pointer (some ⟨b, 0, none⟩), .agg #[.int .i64 x.f0.f0, .int .i64 x.f0.f1, .int .i64 x.f1]] w _
  go_enter Try.func33, Try.ntmps33
  go_wp2_with (go_at_call 38; rw [show w.alloc (.cells #[.int .i64 x.f0.f0, .int .i64 x.f0.f1, .int .i64 x.f1] 30) = wb from HWB.out.symm]; refine HC.out.mono ?_; rintro e w1 ⟨rfl, hB⟩; have HS1 := Aside0.mk (HS.out w1 hB); have HW1 := Aside0.mk (below_then HW.out HW.out.size hB); clear hB HS HC
               have hc3 : w1.cell? ⟨b, 3, none⟩ = some (.pointer none) := (blk_cell HS1.out.1 3).trans rfl
               have hc4 : w1.cell? ⟨b, 4, none⟩ = some (.pointer vr) := (blk_cell HS1.out.1 4).trans (congrArg some HVR.out))
  go_ret
  refine ⟨r, by rw [HVR.out]; rfl, rfl, HS1.out.2.2, HN.out, Wr.of_below _ HW1.out, fun k hk => .inl (by rw [Tr.blks_nd]; simp [hk])⟩
set_option maxHeartbeats 1000000 in
set_option maxRecDepth 100000 in
theorem remove_e1 (b : Nat) (y : S30) (p : Nat × S30) (la lc : BT) (x : S30) (w : World) (h : (Tr.nd (b, y) (.nd p la lc) .nil).At w) (hn : (Tr.nd (b, y) (.nd p la lc) .nil).blks.Nodup) (hc : cmp y x = 0) :
    Calls Try.prog 33 #[.pointer (some ⟨b, 0, none⟩), aggI x] w (InsPost w (.nd (b, y) (.nd p la lc) .nil) (Tr.nd p la lc).sk) := by
  obtain ⟨n1, n2, n3, n4, n5⟩ := blks_nodup_nd hn
  obtain ⟨wb, hwb⟩ : ∃ wb, wb = w.alloc (boxI x) := ⟨_, rfl⟩
  have hW : Below w.heap.size w wb := by rw [hwb]; exact below_alloc (Below.refl _ _) _
  have hT1 := h.below hW
  have HC := Aside0.mk (ncompare_calls b y x _ _ _ _ wb hT1.1)
  have HS := Aside0.mk (fun (w' : World) (hB : Below wb.heap.size wb w') => h.below (below_then hW hW.size hB))
  rw [hc] at HC
  have hu30 := Try.underlying30
  have hu69 := Try.underlying69
  have HW := Aside0.mk hW
  have HWB := Aside0.mk hwb
  have HN := Aside0.mk n1
  clear h hn hc n1 n2 n3 n4 n5 hW hwb hT1
  show Calls Try.prog 33 #[.pointer (some ⟨b, 0, none⟩), .agg #[.int .i64 x.f0.f0, .int .i64 x.f0.f1, .int .i64 x.f1]] w _
  go_enter Try.func33, Try.ntmps33
  go_wp2_with (go_at_call 38; rw [show w.alloc (.cells #[.int .i64 x.f0.f0, .int .i64 x.f0.f1, .int .i64 x.f1] 30) = wb from HWB.out.symm]; refine HC.out.mono ?_; rintro e w1 ⟨rfl, hB⟩; have HS1 := Aside0.mk (HS.out w1 hB); have HW1 := Aside0.mk (below_then HW.out HW.out.size hB); clear hB HS HC
               have hc3 : w1.cell? ⟨b, 3, none⟩ = some (.pointer (some ⟨p.1, 0, none⟩)) := (blk_cell HS1.out.1 3).trans rfl
               have hc4 : w1.cell? ⟨b, 4, none⟩ = some (.pointer none) := (blk_cell HS1.out.1 4).trans rfl)
  go_ret
  refine ⟨.nd p la lc, rfl, rfl, HS1.out.2.1, HN.out, Wr.of_below _ HW1.out, fun k hk => .inl (by rw [Tr.blks_nd]; simp [hk])⟩
set_option maxHeartbeats 1000000 in
set_option maxRecDepth 100000 in
theorem remove_e2 (b : Nat) (y : S30) (p : Nat × S30) (la lc : BT) (q : Nat × S30) (ra rc : BT) (x : S30) (w : World) (h : (Tr.nd (b, y) (.nd p la lc) (.nd q ra rc)).At w) (hn : (Tr.nd (b, y) (.nd p la lc) (.nd q ra rc)).blks.Nodup) (hh : (Tr.nd (b, y) (.nd p la lc) (.nd q ra rc)).ht ≤ 600000) (hc : cmp y x = 0)
    (ih : ∀ w : World, (Tr.nd q ra rc).At w → Calls Try.prog 33 #[(Tr.nd q ra rc).ptr, aggI (fstT (Tr.nd q ra rc).sk)] w (InsPost w (.nd q ra rc) (rem (Tr.nd q ra rc).sk (fstT (Tr.nd q ra rc).sk)))) :
    Calls Try.prog 33 #[.pointer (some ⟨b, 0, none⟩), aggI x] w (InsPost w (.nd (b, y) (.nd p la lc) (.nd q ra rc)) (.bal (fstT (Tr.nd q ra rc).sk) (Tr.nd p la lc).sk (rem (Tr.nd q ra rc).sk (fstT (Tr.nd q ra rc).sk)))) := by
  obtain ⟨l, hl⟩ : ∃ l, l = Tr.nd p la lc := ⟨_, rfl⟩
  obtain ⟨r, hr⟩ : ∃ r, r = Tr.nd q ra rc := ⟨_, rfl⟩
  have hlp : l.ptr = .pointer (some ⟨p.1, 0, none⟩) := by rw [hl]; rfl
  have hrp : r.ptr = .pointer (some ⟨q.1, 0, none⟩) := by rw [hr]; rfl
  have hrn : r ≠ .nil := by rw [hr]; simp
  rw [← hr] at ih
  rw [← hl, ← hr] at h hn hh ⊢
  clear hl hr
  obtain ⟨n1, n2, n3, n4, n5⟩ := blks_nodup_nd hn
  obtain ⟨wb, hwb⟩ : ∃ wb, wb = w.alloc (boxI x) := ⟨_, rfl⟩
  have hW : Below w.heap.size w wb := by rw [hwb]; exact below_alloc (Below.refl _ _) _
  have hT1 := h.below hW
  have HC := Aside0.mk (ncompare_calls b y x _ _ _ _ wb hT1.1)
  rw [hc] at HC
  have HS := Aside0.mk (fun (w' : World) (hB : Below wb.heap.size wb w') => h.below (below_then hW hW.size hB))
  have HF := Aside0.mk (fun (w' : World) (hB : Below wb.heap.size wb w') => first_calls r w' (h.below (below_then hW hW.size hB)).2.2 hrn)
  obtain ⟨f, hf⟩ : ∃ f, f = fstT r.sk := ⟨_, rfl⟩
  rw [← hf] at ih HF ⊢
  rw [hrp] at ih HF
  have IH := Aside0.mk ih
  have hu30 := Try.underlying30
  have hu69 := Try.underlying69
  have HLP := Aside0.mk hlp
  have HRP := Aside0.mk hrp
  have HW := Aside0.mk hW
  have HWB := Aside0.mk hwb
  have HN := Aside0.mk (And.intro n1 (And.intro n2 (And.intro n3 (And.intro n4 n5))))
  have HL := Aside0.mk h.lt
  have HH := Aside0.mk hh
  clear h hn hc hh ih n1 n2 n3 n4 n5 hW hwb hT1 hlp hrp hrn hf
  show Calls Try.prog 33 #[.pointer (some ⟨b, 0, none⟩), .agg #[.int .i64 x.f0.f0, .int .i64 x.f0.f1, .int .i64 x.f1]] w _
  go_enter Try.func33, Try.ntmps33
  go_wp2_with (first
    | (go_at_call 38; rw [show w.alloc (.cells #[.int .i64 x.f0.f0, .int .i64 x.f0.f1, .int .i64 x.f1] 30) = wb from HWB.out.symm]; refine HC.out.mono ?_; rintro e w1 ⟨rfl, hB⟩; have HS1 := Aside0.mk (HS.out w1 hB); have HW1 := Aside0.mk (below_then HW.out HW.out.size hB); have HF1 := Aside0.mk (HF.out w1 hB); clear hB HS HC HF
       have hc3 : w1.cell? ⟨b, 3, none⟩ = some (.pointer (some ⟨p.1, 0, none⟩)) := (blk_cell HS1.out.1 3).trans (congrArg some HLP.out)
       have hc4 : w1.cell? ⟨b, 4, none⟩ = some (.pointer (some ⟨q.1, 0, none⟩)) := (blk_cell HS1.out.1 4).trans (congrArg some HRP.out))
    | (go_at_call 42; refine HF1.out.mono ?_; rintro e w2 ⟨rfl, hB⟩; have HS2 := Aside0.mk (HS1.out.below hB); have HW2 := Aside0.mk (below_then HW1.out HW1.out.size hB); clear hB HF1 hc3 hc4
       unfold aggI
       have hc0 : w2.cell? ⟨b, 0, none⟩ = some (.int .i64 y.f0.f0) := (blk_cell HS2.out.1 0).trans rfl
       have hc1 : w2.cell? ⟨b, 1, none⟩ = some (.int .i64 y.f0.f1) := (blk_cell HS2.out.1 1).trans rfl
       have hc2 : w2.cell? ⟨b, 2, none⟩ = some (.int .i64 y.f1) := (blk_cell HS2.out.1 2).trans rfl
       have hf0 := blk_frozen HS2.out.1 0
       have hf1 := blk_frozen HS2.out.1 1
       have hf2 := blk_frozen HS2.out.1 2
       simp only at hf0 hf1 hf2))
  clear hc0 hc1 hc2 hf0 hf1 hf2
  obtain ⟨H, hH⟩ : ∃ H : Int, H = ((Tr.nd (b, y) l r).ht : Nat) := ⟨_, rfl⟩
  obtain ⟨E, hE⟩ : ∃ E, E = (Tr.nd (b, y) l r).sk.en := ⟨_, rfl⟩
  have hb2 : w2.heap[b]? = some (.cells (nodeC y l.ptr r.ptr H E) 69 (0, 0)) := by rw [hH, hE]; exact HS2.out.1
  clear hH hE
  obtain ⟨w3, hw3⟩ : ∃ w3, w3 = ((w2.setCell ⟨b, 0, none⟩ (.int .i64 f.f0.f0)).setCell ⟨b, 1, none⟩ (.int .i64 f.f0.f1)).setCell ⟨b, 2, none⟩ (.int .i64 f.f1) := ⟨_, rfl⟩
  rw [← hw3]
  have hb3 : w3.heap[b]? = some (.cells (nodeC f l.ptr r.ptr H E) 69 (0, 0)) := by
    rw [hw3]
    exact blk_put (cs := nodeC ⟨⟨f.f0.f0, f.f0.f1⟩, y.f1⟩ l.ptr r.ptr H E) (blk_put (cs := nodeC ⟨⟨f.f0.f0, y.f0.f1⟩, y.f1⟩ l.ptr r.ptr H E) (blk_put (cs := nodeC y l.ptr r.ptr H E) hb2 0 _ rfl) 1 _ rfl) 2 _ rfl
  have hwr3 : Wr w2 w3 (fun k => k = b) := by
    rw [hw3]
    exact (((Wr.refl w2 (fun k => k = b)).set (S := fun k => k = b) rfl 0 _).set (S := fun k => k = b) rfl 1 _).set (S := fun k => k = b) rfl 2 _
  have HB3 := Aside0.mk hb3
  have HL3 := Aside0.mk (HS2.out.2.1.wr hwr3 (fun k hk e => HN.out.2.2.1 (e ▸ hk)))
  have HR3 := Aside0.mk (HS2.out.2.2.wr hwr3 (fun k hk e => HN.out.2.2.2.1 (e ▸ hk)))
  have HW3 := Aside0.mk (show Wr w w3 (fun k => k = b) from (Wr.of_below _ HW2.out).trans hwr3 (fun k hk => .inl hk))
  clear hb2 hw3 hb3 hwr3
  have HSS := Aside0.mk (show w3.drew.cell? ⟨b, 4, none⟩ = some (.pointer (some ⟨q.1, 0, none⟩)) ∧ w3.drew.cell? ⟨b, 0, none⟩ = some (.int .i64 f.f0.f0) ∧ w3.drew.cell? ⟨b, 1, none⟩ = some (.int .i64 f.f0.f1) ∧ w3.drew.cell? ⟨b, 2, none⟩ = some (.int .i64 f.f1) from
    ⟨(blk_cell HB3.out 4).trans (congrArg some HRP.out), (blk_cell HB3.out 0).trans rfl, (blk_cell HB3.out 1).trans rfl, (blk_cell HB3.out 2).trans rfl⟩)
  refine start_ (n := 13) (S := fun w' => (w'.cell? ⟨b, 4, none⟩ = some (.pointer (some ⟨q.1, 0, none⟩)) ∧ w'.cell? ⟨b, 0, none⟩ = some (.int .i64 f.f0.f0) ∧ w'.cell? ⟨b, 1, none⟩ = some (.int .i64 f.f0.f1) ∧ w'.cell? ⟨b, 2, none⟩ = some (.int .i64 f.f1))) (ds := [12]) #[false, false, false, false, false, false, false, false, false, false, false, false, false] (by kernel_rfl) rfl rfl ?_ (fun hHeld => ?_)
  · exact HSS.out
  refine pure_ (i := 0) (N := some 17) (v := ?_) (a' := ?_) #[true, false, false, false, false, false, false, false, false, false, false, false, false] rfl rfl (by kernel_rfl) (fun _ _ _ h => h) (Or.inl ⟨by rfl, ?_⟩) ?_ ?_
  rotate_left
  · intro w'
    go_simp
    with_reducible rfl
  rotate_left
  · simp only [Act.put, List.setIfInBounds_toArray, List.set_cons_zero, List.set_cons_succ, i64_w, i32_w]
    rfl
  refine pure_ (i := 1) (N := some 18) (v := ?_) (a' := ?_) #[true, true, false, false, false, false, false, false, false, false, false, false, false] rfl rfl (by kernel_rfl) (fun _ _ _ h => h) (Or.inl ⟨by rfl, ?_⟩) ?_ ?_
  rotate_left
  · intro w'
    go_simp
    with_reducible rfl
  rotate_left
  · simp only [Act.put, List.setIfInBounds_toArray, List.set_cons_zero, List.set_cons_succ, i64_w, i32_w]
    rfl
  refine pure_ (i := 2) (N := some 19) (v := ?_) (a' := ?_) #[true, true, true, false, false, false, false, false, false, false, false, false, false] rfl rfl (by kernel_rfl) (fun _ _ _ h => h) (Or.inl ⟨by rfl, ?_⟩) ?_ ?_
  rotate_left
  · intro w'
    go_simp
    with_reducible rfl
  rotate_left
  · simp only [Act.put, List.setIfInBounds_toArray, List.set_cons_zero, List.set_cons_succ, i64_w, i32_w]
    rfl
  refine pure_ (i := 3) (N := some 20) (v := ?_) (a' := ?_) #[true, true, true, true, false, false, false, false, false, false, false, false, false] rfl rfl (by kernel_rfl) (fun _ _ _ h => h) (Or.inl ⟨by rfl, ?_⟩) ?_ ?_
  rotate_left
  · intro w'
    go_simp
    with_reducible rfl
  rotate_left
  · simp only [Act.put, List.setIfInBounds_toArray, List.set_cons_zero, List.set_cons_succ, i64_w, i32_w]
    rfl
  refine take_ (i := 4) (N := some 21) (v := ?_) (a' := ?_) #[true, true, true, true, true, false, false, false, false, false, false, false, false] rfl rfl (by kernel_rfl) (fun _ _ _ h => h) (Or.inl ⟨by rfl, ?_⟩) hHeld ?_ ?_
  rotate_left
  · rintro w' ⟨s0, s1, s2, s3⟩
    go_simp
    with_reducible rfl
  rotate_left
  · simp only [Act.put, List.setIfInBounds_toArray, List.set_cons_zero, List.set_cons_succ, i64_w, i32_w]
    rfl
  refine pure_ (i := 5) (N := some 22) (v := ?_) (a' := ?_) #[true, true, true, true, true, true, false, false, false, false, false, false, false] rfl rfl (by kernel_rfl) (fun _ _ _ h => h) (Or.inl ⟨by rfl, ?_⟩) ?_ ?_
  rotate_left
  · intro w'
    go_simp
    with_reducible rfl
  rotate_left
  · simp only [Act.put, List.setIfInBounds_toArray, List.set_cons_zero, List.set_cons_succ, i64_w, i32_w]
    rfl
  refine pure_ (i := 6) (N := some 23) (v := ?_) (a' := ?_) #[true, true, true, true, true, true, true, false, false, false, false, false, false] rfl rfl (by kernel_rfl) (fun _ _ _ h => h) (Or.inl ⟨by rfl, ?_⟩) ?_ ?_
  rotate_left
  · intro w'
    go_simp
    with_reducible rfl
  rotate_left
  · simp only [Act.put, List.setIfInBounds_toArray, List.set_cons_zero, List.set_cons_succ, i64_w, i32_w]
    rfl
  refine pure_ (i := 7) (N := some 24) (v := ?_) (a' := ?_) #[true, true, true, true, true, true, true, true, false, false, false, false, false] rfl rfl (by kernel_rfl) (fun _ _ _ h => h) (Or.inl ⟨by rfl, ?_⟩) ?_ ?_
  rotate_left
  · intro w'
    go_simp
    with_reducible rfl
  rotate_left
  · simp only [Act.put, List.setIfInBounds_toArray, List.set_cons_zero, List.set_cons_succ, i64_w, i32_w]
    rfl
  refine take_ (i := 8) (N := some 25) (v := ?_) (a' := ?_) #[true, true, true, true, true, true, true, true, true, false, false, false, false] rfl rfl (by kernel_rfl) (fun _ _ _ h => h) (Or.inl ⟨by rfl, ?_⟩) hHeld ?_ ?_
  rotate_left
  · rintro w' ⟨s0, s1, s2, s3⟩
    go_simp
    with_reducible rfl
  rotate_left
  · simp only [Act.put, List.setIfInBounds_toArray, List.set_cons_zero, List.set_cons_succ, i64_w, i32_w]
    rfl
  refine one_ (i := 9) (N := some 26) #[true, true, true, true, true, true, true, true, true, true, false, false, false] rfl rfl (by kernel_rfl) (by decide) (fun K hK => ?_)
  refine goes_ Try.func33 (by kernel_rfl) rfl #[.pointer (some ⟨q.1, 0, none⟩), .agg #[.int .i64 f.f0.f0, .int .i64 f.f0.f1, .int .i64 f.f1]] (by rfl) rfl rfl (by (try simp only [List.map_toArray, List.map_cons, List.map_nil]); first | done | rfl) ?_
  refine (IH.out w3.drew (HR3.out.drewN 1)).mono ?_
  rintro e w4 ⟨T1, rfl, hsk, hA, hN, hWr, hbl⟩
  obtain ⟨v1, hv1⟩ := ptr_pointer T1
  have HV1 := Aside0.mk hv1
  rw [hv1]
  have hb4 : w4.heap[b]? = some (.cells (nodeC f l.ptr r.ptr H E) 69 (0, 0)) := hWr.keep HB3.out HN.out.2.2.2.1
  have HB4 := Aside0.mk hb4
  have HL4 := Aside0.mk ((HL3.out.drewN 1).wr hWr (fun k hk hk' => HN.out.2.2.2.2 k hk hk'))
  have HA := Aside0.mk (And.intro hA (And.intro hN (And.intro hWr hbl)))
  have HK := Aside0.mk hsk
  refine ⟨_, rfl, hK.out _ _ ⟨(blk_cell hb4 4).trans (congrArg some HRP.out), (blk_cell hb4 0).trans rfl, (blk_cell hb4 1).trans rfl, (blk_cell hb4 2).trans rfl⟩ (fun _ => ?_)⟩
  clear hK K hv1 hb4 hA hN hWr hbl hsk
  refine norm_ (a' := ?_) ?_ ?_
  rotate_left
  · show Act.put _ (some 26) _ = _
    simp only [Act.put, List.setIfInBounds_toArray, List.set_cons_zero, List.set_cons_succ, i64_w, i32_w]
    rfl
  refine pure_ (i := 10) (N := some 27) (v := ?_) (a' := ?_) #[true, true, true, true, true, true, true, true, true, true, true, false, false] rfl rfl (by kernel_rfl) (fun _ _ _ h => h) (Or.inl ⟨by rfl, ?_⟩) ?_ ?_
  rotate_left
  · intro w'
    go_simp
    with_reducible rfl
  rotate_left
  · simp only [Act.put, List.setIfInBounds_toArray, List.set_cons_zero, List.set_cons_succ, i64_w, i32_w]
    rfl
  refine pure_ (i := 11) (N := some 28) (v := ?_) (a' := ?_) #[true, true, true, true, true, true, true, true, true, true, true, true, false] rfl rfl (by kernel_rfl) (fun _ _ _ h => h) (Or.inl ⟨by rfl, ?_⟩) ?_ ?_
  rotate_left
  · intro w'
    go_simp
    with_reducible rfl
  rotate_left
  · simp only [Act.put, List.setIfInBounds_toArray, List.set_cons_zero, List.set_cons_succ, i64_w, i32_w]
    rfl
  refine last_ (i := 12) (N := none) #[true, true, true, true, true, true, true, true, true, true, true, true, true] rfl rfl (by kernel_rfl) (by decide) (fun K hK => ?_)
  have hcs : w4.cell? ⟨b, 4, none⟩ = some (.pointer (some ⟨q.1, 0, none⟩)) := (blk_cell HB4.out 4).trans (congrArg some HRP.out)
  have hfs := blk_frozen HB4.out 4
  refine skip_ (w1 := ?_) (by rfl) rfl ?_ ?_
  rotate_left
  · go_simp
    rfl
  refine hK.out _ _ ?_
  clear hK K hcs hfs
  refine done_ (by kernel_rfl) ?_
  have hb5 := blk_put (cs := nodeC f l.ptr r.ptr H E) (cs' := nodeC f l.ptr T1.ptr H E) HB4.out 4 (.pointer v1) (by rw [HV1.out]; rfl)
  obtain ⟨w5, hw5⟩ : ∃ w5, w5 = w4.setCell ⟨b, 4, none⟩ (.pointer v1) := ⟨_, rfl⟩
  rw [← hw5] at hb5 ⊢
  have hwr5 : Wr w4 w5 (fun k => k = b) := by rw [hw5]; exact (Wr.refl w4 (fun k => k = b)).set (S := fun k => k = b) rfl 4 _
  have hsz3 : w.heap.size ≤ w3.heap.size := HW3.out.size
  have hT1 : ∀ k ∈ T1.blks, k ∈ r.blks ∨ w.heap.size ≤ k := fun k hk => by
    rcases HA.out.2.2.2 k hk with h | h
    · exact .inl h
    · have : w3.drew.heap.size = w3.heap.size := rfl
      exact .inr (by omega)
  have hbl1 : b ∉ T1.blks := fun hk => by
    rcases hT1 b hk with h | h
    · exact HN.out.2.2.2.1 h
    · have h' := HL.out b (by rw [Tr.blks_nd]; simp)
      omega
  have ha5 : T1.At w5 := HA.out.1.wr hwr5 (fun k hk e => hbl1 (e ▸ hk))
  have ho5 : l.At w5 := HL4.out.wr hwr5 (fun k hk e => HN.out.2.2.1 (e ▸ hk))
  have hn5 : (Tr.nd (b, f) l T1).blks.Nodup := nodup_nd_mk HN.out.1 HA.out.2.1 HN.out.2.2.1 hbl1 (fun k hk hk' => by
    rcases hT1 k hk' with h | h
    · exact HN.out.2.2.2.2 k hk h
    · have h' := HL.out k (by rw [Tr.blks_nd]; simp [hk])
      omega)
  have hht : T1.ht ≤ r.ht := by rw [← ht_sk T1, HK.out, ← ht_sk r]; exact ht_rem _ _
  have HBal := Aside0.mk (balance_calls b f l T1 w5 ⟨⟨_, _, hb5⟩, ho5, ha5⟩ hn5 (by have := HH.out; simp only [Tr.ht] at this; omega) (by have := HH.out; simp only [Tr.ht] at this; omega))
  have HW5 := Aside0.mk (show Wr w w5 (fun k => k ∈ (Tr.nd (b, y) l r).blks) from ((((HW3.out.mono (fun k hk => by rw [hk, Tr.blks_nd]; simp)).drewN 1).trans HA.out.2.2.1 (fun k hk => .inl (by rw [Tr.blks_nd]; simp [hk]))).trans hwr5 (fun k hk => .inl (by rw [hk, Tr.blks_nd]; simp))))
  have HN5 := Aside0.mk hn5
  have HT1 := Aside0.mk hT1
  clear hb5 hwr5 hbl1 ha5 ho5 hn5 hht hw5 hT1 hsz3
  go_wp2_with (go_at_call 39; refine HBal.out.mono ?_; rintro e w6 ⟨rfl, hT, hw⟩; have HE := Aside0.mk (And.intro hT hw); clear hT hw)
  go_ret
  have hin : ∀ k ∈ (Tr.nd (b, f) l T1).blks, k ∈ (Tr.nd (b, y) l r).blks ∨ w.heap.size ≤ k := fun k hk => by
    rw [Tr.blks_nd] at hk ⊢
    simp only [List.mem_append, List.mem_cons] at hk ⊢
    rcases hk with hk | hk | hk
    · exact .inl (.inl hk)
    · exact .inl (.inr (.inl hk))
    · rcases HT1.out k hk with h | h
      · exact .inl (.inr (.inr h))
      · exact .inr h
  refine ⟨Tr.bal (b, f) l T1, rfl, by rw [sk_bal, HK.out], HE.out.1, by rw [blks_bal]; exact HN5.out, HW5.out.trans HE.out.2 hin, fun k hk => hin k (by rw [← blks_bal]; exact hk)⟩
theorem remove_calls (T : BT) : ∀ (x : S30) (w : World), T.At w → T.blks.Nodup → T.ht ≤ 600000 → RemOk T.sk x → Calls Try.prog 33 #[T.ptr, aggI x] w (InsPost w T (rem T.sk x)) := by
  induction T with
  | nil => exact fun x w _ _ _ h => h.elim
  | nd p l r hl hr =>
    obtain ⟨b, y⟩ := p
    intro x w h hn hh ho
    obtain ⟨n1, n2, _⟩ := blks_nodup_nd hn
    have hh' := hh
    simp only [Tr.ht] at hh'
    have ho' : if 0 < cmp y x then RemOk l.sk x else if cmp y x < 0 then RemOk r.sk x else (l.sk = .nil ∨ r.sk = .nil ∨ RemOk r.sk (fstT r.sk)) := ho
    show Calls Try.prog 33 #[.pointer (some ⟨b, 0, none⟩), aggI x] w (InsPost w _ (rem (.nd y l.sk r.sk) x))
    unfold rem
    by_cases hc : 0 < cmp y x
    · rw [if_pos hc] at ho' ⊢
      exact remove_l b y l r x w h hn hh hc (fun w hA => hl x w hA n1 (by omega) ho')
    · rw [if_neg hc] at ho' ⊢
      by_cases hc2 : cmp y x < 0
      · rw [if_pos hc2] at ho' ⊢
        exact remove_r b y l r x w h hn hh ⟨hc, hc2⟩ (fun w hA => hr x w hA n2 (by omega) ho')
      · rw [if_neg hc2] at ho' ⊢
        have hz : cmp y x = 0 := by omega
        match l, r with
        | .nil, r => exact remove_e0 b y r x w h hn hz
        | .nd p la lc, .nil => exact remove_e1 b y p la lc x w h hn hz
        | .nd p la lc, .nd q ra rc =>
          have ho2 : RemOk (Tr.nd q ra rc).sk (fstT (Tr.nd q ra rc).sk) := by
            rcases ho' with h | h | h
            · cases h
            · cases h
            · exact h
          exact remove_e2 b y p la lc q ra rc x w h hn hh hz (fun w hA => hr _ w hA n2 (by omega) ho2)
end Go.Proofs.Ytdjfjmcnghfdkaa.My
