/- A tree: New, Len, Height, Add, Remove. -/
import Derived.Test.YtdjfjmcnghfdkaaIK
namespace Go.Proofs.Ytdjfjmcnghfdkaa.My
open Go Go.RowKit Go.Proofs.YtdjfjmcnghfdkaaW.PrintWords Go.Proofs.YtdjfjmcnghfdkaaW.PrintLast Go.Proofs.YtdjfjmcnghfdkaaW.PrintMore Go.Proofs.Ytdjfjmcnghfdkaa.PItreeActs
set_option linter.unusedVariables false
set_option linter.unusedSimpArgs false
def ext (S : Nat → Prop) (w w' : World) : Nat → Prop := fun k => (S k ∨ w.heap.size ≤ k) ∧ k < w'.heap.size
/-- The tree at t lives in S: its items stand as in Q, and it counts n. -/
def TreeAt (w : World) (S : Nat → Prop) (t : Nat) (Q : Tr S30) (n : Nat) : Prop :=
  ∃ T : BT, T.sk = Q ∧ T.At w ∧ T.blks.Nodup ∧ w.heap[t]? = some (.cells #[T.ptr, .int .i64 n] 57 (0, 0)) ∧ S t ∧ (∀ k ∈ T.blks, S k) ∧ t ∉ T.blks ∧ ∀ k, S k → k < w.heap.size
theorem TreeAt.keep {w w' : World} {S : Nat → Prop} {t : Nat} {Q : Tr S30} {n : Nat} (h : TreeAt w S t Q n) (hs : w.heap.size ≤ w'.heap.size) (hk : ∀ k, k < w.heap.size → S k → w'.heap[k]? = w.heap[k]?) : TreeAt w' S t Q n := by
  obtain ⟨T, h1, h2, h3, h4, h5, h6, h7, h8⟩ := h
  exact ⟨T, h1, h2.keep (fun k hm hl => hk k hl (h6 k hm)), h3, (hk t (h8 t h5) h5).trans h4, h5, h6, h7, fun k hk => Nat.lt_of_lt_of_le (h8 k hk) hs⟩
theorem TreeAt.below {w w' : World} {S : Nat → Prop} {t : Nat} {Q : Tr S30} {n : Nat} (h : TreeAt w S t Q n) (hb : Below w.heap.size w w') : TreeAt w' S t Q n := h.keep hb.size (fun k hl _ => hb.block k hl)
theorem TreeAt.off {w w' : World} {S U : Nat → Prop} {t : Nat} {Q : Tr S30} {n : Nat} (h : TreeAt w S t Q n) (hb : Wr w w' U) (hd : ∀ k, S k → ¬ U k) : TreeAt w' S t Q n := h.keep hb.size (fun k hl hs => hb.2.2.2.2 k hl (hd k hs))
theorem TreeAt.lt {w : World} {S : Nat → Prop} {t : Nat} {Q : Tr S30} {n : Nat} (h : TreeAt w S t Q n) : ∀ k, S k → k < w.heap.size := by
  obtain ⟨T, h1, h2, h3, h4, h5, h6, h7, h8⟩ := h
  exact h8
theorem TreeAt.mem {w : World} {S : Nat → Prop} {t : Nat} {Q : Tr S30} {n : Nat} (h : TreeAt w S t Q n) : S t := by
  obtain ⟨T, h1, h2, h3, h4, h5, h6, h7, h8⟩ := h
  exact h5
theorem TreeAt.ext_ {w w' : World} {S : Nat → Prop} {t : Nat} {Q : Tr S30} {n : Nat} (h : TreeAt w' S t Q n) : TreeAt w' (ext S w w') t Q n := by
  obtain ⟨T, h1, h2, h3, h4, h5, h6, h7, h8⟩ := h
  exact ⟨T, h1, h2, h3, h4, ⟨.inl h5, h8 t h5⟩, fun k hk => ⟨.inl (h6 k hk), h8 k (h6 k hk)⟩, h7, fun k hk => hk.2⟩
theorem new_calls (w : World) : Calls Try.prog 10 #[] w fun e w' => ∃ t, e = .returned (.pointer (some ⟨t, 0, none⟩)) ∧ TreeAt w' (fun k => w.heap.size ≤ k ∧ k < w'.heap.size) t .nil 0 ∧ Below w.heap.size w w' := by
  go_enter Try.func10, Try.ntmps10
  go_wp2
  go_ret
  have hb := blk_new w (.cells #[.pointer none, .int .i64 0] 57)
  exact ⟨_, rfl, ⟨.nil, rfl, trivial, by simp [Tr.blks, Tr.list], hb, ⟨Nat.le_refl _, blk_lt hb⟩, fun k hk => by simp [Tr.blks, Tr.list] at hk, by simp [Tr.blks, Tr.list], fun k hk => hk.2⟩, below_alloc (Below.refl _ _) _⟩
theorem len_calls (w : World) (S : Nat → Prop) (t : Nat) (Q : Tr S30) (n : Nat) (h : TreeAt w S t Q n) : Calls Try.prog 20 #[.pointer (some ⟨t, 0, none⟩)] w fun e w' => e = .returned (.int .i64 n) ∧ w = w' := by
  obtain ⟨T, h1, h2, h3, h4, h5, h6, h7, h8⟩ := h
  have hc : w.cell? ⟨t, 1, none⟩ = some (.int .i64 n) := (blk_cell h4 1).trans rfl
  clear h1 h2 h3 h4 h5 h6 h7 h8
  go_enter Try.func20, Try.ntmps20
  go_wp2
  go_ret
  exact ⟨rfl, rfl⟩
theorem height_calls (w : World) (S : Nat → Prop) (t : Nat) (Q : Tr S30) (n : Nat) (h : TreeAt w S t Q n) : Calls Try.prog 21 #[.pointer (some ⟨t, 0, none⟩)] w fun e w' => e = .returned (.int .i64 (Q.ht : Nat)) ∧ w = w' := by
  obtain ⟨T, h1, h2, h3, h4, h5, h6, h7, h8⟩ := h
  obtain ⟨v, hv⟩ := ptr_pointer T
  have hc : w.cell? ⟨t, 0, none⟩ = some (.pointer v) := (blk_cell h4 0).trans (congrArg some hv)
  have HL := Aside0.mk (levels_calls T w h2)
  rw [hv, ← ht_sk, h1] at HL
  obtain ⟨m, hm⟩ : ∃ m, m = Q.ht := ⟨_, rfl⟩
  rw [← hm] at HL ⊢
  clear h1 h2 h3 h4 h5 h6 h7 h8 hv hm
  go_enter Try.func21, Try.ntmps21
  go_wp2_with (go_at_call 34; refine HL.out.mono ?_; rintro e _ ⟨rfl, rfl⟩)
  go_ret
  exact ⟨rfl, rfl⟩
theorem len_nil (w : World) : Calls Try.prog 20 #[.pointer none] w fun e w' => e = .returned (.int .i64 0) ∧ w = w' := by
  go_enter Try.func20, Try.ntmps20
  go_wp2
  go_ret
  exact ⟨rfl, rfl⟩
theorem height_nil (w : World) : Calls Try.prog 21 #[.pointer none] w fun e w' => e = .returned (.int .i64 0) ∧ w = w' := by
  go_enter Try.func21, Try.ntmps21
  go_wp2
  go_ret
  exact ⟨rfl, rfl⟩
def vldB (p : S28) : Bool := decide (0 ≤ p.f0 ∧ p.f0 < p.f1 ∧ p.f1 ≤ 1099511627776)
theorem valid_f (p : S28) : period_Valid.f p.f0 p.f1 = some (vldB p) := by
  unfold period_Valid.f vldB
  by_cases h1 : 0 ≤ p.f0
  · by_cases h2 : p.f0 < p.f1
    · simp [h1, h2]
    · simp [h1, h2]
  · simp [h1]
set_option maxHeartbeats 1000000 in
set_option maxRecDepth 100000 in
theorem add_bad (w : World) (S : Nat → Prop) (t : Nat) (Q : Tr S30) (n : Nat) (p : S28) (id : Int) (h : TreeAt w S t Q n) (hv : vldB p = false) :
    Calls Try.prog 11 #[.pointer (some ⟨t, 0, none⟩), .agg #[.int .i64 p.f0, .int .i64 p.f1], .int .i64 id] w fun e w' => e = .returned (.bool false) ∧ TreeAt w' (ext S w w') t Q n ∧ Wr w w' S := by
  have HT0 := Aside0.mk h
  obtain ⟨T, h1, h2, h3, h4, h5, h6, h7, h8⟩ := h
  obtain ⟨x, hx⟩ : ∃ x : S30, x = ⟨p, id⟩ := ⟨_, rfl⟩
  obtain ⟨wb, hwb⟩ : ∃ wb, wb = (w.alloc (.cells #[.int .i64 p.f0, .int .i64 p.f1] 28)).alloc (boxI x) := ⟨_, rfl⟩
  have hW : Below w.heap.size w wb := by rw [hwb]; exact below_alloc (below_alloc (Below.refl _ _) _) _
  have hsz : (w.alloc (.cells #[.int .i64 p.f0, .int .i64 p.f1] 28)).heap.size = w.heap.size + 1 := by simp [World.alloc_eq]
  have hg : wb.heap[w.heap.size + 1]? = some (boxI x) := by
    have := blk_new (w.alloc (.cells #[.int .i64 p.f0, .int .i64 p.f1] 28)) (boxI x)
    rw [hsz] at this
    rw [hwb]; exact this
  have hp : wb.heap[w.heap.size]? = some (.cells #[.int .i64 p.f0, .int .i64 p.f1] 28 (0, 0)) := by
    rw [hwb]
    exact (Below.heap_alloc _ _ _ (by rw [hsz]; omega)).trans (blk_new w _)
  have hz0 : wb.cell? ⟨w.heap.size, 0, none⟩ = some (.int .i64 p.f0) := (blk_cell hp 0).trans rfl
  have hz1 : wb.cell? ⟨w.heap.size, 1, none⟩ = some (.int .i64 p.f1) := (blk_cell hp 1).trans rfl
  obtain ⟨bv, hbv⟩ : ∃ bv, bv = vldB p := ⟨_, rfl⟩
  have HV := Aside0.mk (period_Valid.calls p.f0 p.f1 _ wb (valid_f p))
  rw [← hbv] at HV
  rw [← hbv] at hv
  subst hv
  clear hbv
  have HS := Aside0.mk (fun (w' : World) (hB : Below wb.heap.size wb w') => And.intro (h2.below (below_then hW hW.size hB)) (And.intro (((below_then hW hW.size hB).block t (h8 t h5)).trans h4) (((hB.block _ (blk_lt hg)).trans hg))))
  have HH := Aside0.mk (fun (w' : World) (hB : Below wb.heap.size wb w') => has_calls t T n x w' (((below_then hW hW.size hB).block t (h8 t h5)).trans h4) (h2.below (below_then hW hW.size hB)))
  obtain ⟨vr, hvr⟩ := ptr_pointer T
  have HVR := Aside0.mk hvr
  have HQ := Aside0.mk h1
  have H3 := Aside0.mk h3
  have H5 := Aside0.mk h5
  have H6 := Aside0.mk h6
  have H7 := Aside0.mk h7
  have H8 := Aside0.mk h8
  have HX := Aside0.mk hx
  have HW := Aside0.mk hW
  have HWB := Aside0.mk hwb
  have hxf : x.f0.f0 = p.f0 ∧ x.f0.f1 = p.f1 ∧ x.f1 = id := by rw [hx]; exact ⟨rfl, rfl, rfl⟩
  have HXF := Aside0.mk hxf
  skip
  have hu28 := Try.underlying28
  have hu30 := Try.underlying30
  have hu57 := Try.underlying57
  clear h1 h2 h3 h4 h5 h6 h7 h8 hx hW hwb hg hp hsz hvr hxf
  go_enter Try.func11, Try.ntmps11
  go_wp2_with (first
    | (go_at_call 25; rw [show (w.alloc (.cells #[.int .i64 p.f0, .int .i64 p.f1] 28)).alloc (.cells #[.int .i64 p.f0, .int .i64 p.f1, .int .i64 id] 30) = wb from by rw [HWB.out, boxI, HXF.out.1, HXF.out.2.1, HXF.out.2.2]]; refine HV.out.mono ?_; rintro e w1 ⟨rfl, hB⟩; have HB1 := Aside0.mk hB; have hs1 := HS.out w1 hB; have HS1 := Aside0.mk hs1; have HHC := Aside0.mk (HH.out w1 hB)
       have hz3 : w1.cell? ⟨w.heap.size + 1, 0, none⟩ = some (.int .i64 p.f0) := (blk_cell hs1.2.2 0).trans (congrArg (fun z => some (Value.int .i64 z)) HXF.out.1)
       have hz4 : w1.cell? ⟨w.heap.size + 1, 1, none⟩ = some (.int .i64 p.f1) := (blk_cell hs1.2.2 1).trans (congrArg (fun z => some (Value.int .i64 z)) HXF.out.2.1)
       have hz5 : w1.cell? ⟨w.heap.size + 1, 2, none⟩ = some (.int .i64 id) := (blk_cell hs1.2.2 2).trans (congrArg (fun z => some (Value.int .i64 z)) HXF.out.2.2)
       clear hs1 hB HV HH)
    | (go_at_call 26; rw [show (Value.agg #[.int .i64 p.f0, .int .i64 p.f1, .int .i64 id]) = aggI x from by rw [aggI, HXF.out.1, HXF.out.2.1, HXF.out.2.2]]; refine HHC.out.mono ?_; rintro e w2 ⟨rfl, hB⟩; have HB2 := Aside0.mk (below_then HB1.out HB1.out.size hB)
       clear hB HHC hz3 hz4 hz5))
  go_ret
  have hb := below_then HW.out HW.out.size HB1.out
  exact ⟨rfl, (HT0.out.below hb).ext_, Wr.of_below _ hb⟩
set_option maxHeartbeats 1000000 in
set_option maxRecDepth 100000 in
theorem add_old (w : World) (S : Nat → Prop) (t : Nat) (Q : Tr S30) (n : Nat) (p : S28) (id : Int) (h : TreeAt w S t Q n) (hv : vldB p = true) (hq : hasT Q ⟨p, id⟩ = true) :
    Calls Try.prog 11 #[.pointer (some ⟨t, 0, none⟩), .agg #[.int .i64 p.f0, .int .i64 p.f1], .int .i64 id] w fun e w' => e = .returned (.bool false) ∧ TreeAt w' (ext S w w') t Q n ∧ Wr w w' S := by
  have HT0 := Aside0.mk h
  obtain ⟨T, h1, h2, h3, h4, h5, h6, h7, h8⟩ := h
  obtain ⟨x, hx⟩ : ∃ x : S30, x = ⟨p, id⟩ := ⟨_, rfl⟩
  obtain ⟨wb, hwb⟩ : ∃ wb, wb = (w.alloc (.cells #[.int .i64 p.f0, .int .i64 p.f1] 28)).alloc (boxI x) := ⟨_, rfl⟩
  have hW : Below w.heap.size w wb := by rw [hwb]; exact below_alloc (below_alloc (Below.refl _ _) _) _
  have hsz : (w.alloc (.cells #[.int .i64 p.f0, .int .i64 p.f1] 28)).heap.size = w.heap.size + 1 := by simp [World.alloc_eq]
  have hg : wb.heap[w.heap.size + 1]? = some (boxI x) := by
    have := blk_new (w.alloc (.cells #[.int .i64 p.f0, .int .i64 p.f1] 28)) (boxI x)
    rw [hsz] at this
    rw [hwb]; exact this
  have hp : wb.heap[w.heap.size]? = some (.cells #[.int .i64 p.f0, .int .i64 p.f1] 28 (0, 0)) := by
    rw [hwb]
    exact (Below.heap_alloc _ _ _ (by rw [hsz]; omega)).trans (blk_new w _)
  have hz0 : wb.cell? ⟨w.heap.size, 0, none⟩ = some (.int .i64 p.f0) := (blk_cell hp 0).trans rfl
  have hz1 : wb.cell? ⟨w.heap.size, 1, none⟩ = some (.int .i64 p.f1) := (blk_cell hp 1).trans rfl
  obtain ⟨bv, hbv⟩ : ∃ bv, bv = vldB p := ⟨_, rfl⟩
  have HV := Aside0.mk (period_Valid.calls p.f0 p.f1 _ wb (valid_f p))
  rw [← hbv] at HV
  rw [← hbv] at hv
  subst hv
  clear hbv
  have HS := Aside0.mk (fun (w' : World) (hB : Below wb.heap.size wb w') => And.intro (h2.below (below_then hW hW.size hB)) (And.intro (((below_then hW hW.size hB).block t (h8 t h5)).trans h4) (((hB.block _ (blk_lt hg)).trans hg))))
  have HH := Aside0.mk (fun (w' : World) (hB : Below wb.heap.size wb w') => has_calls t T n x w' (((below_then hW hW.size hB).block t (h8 t h5)).trans h4) (h2.below (below_then hW hW.size hB)))
  obtain ⟨vr, hvr⟩ := ptr_pointer T
  have HVR := Aside0.mk hvr
  have HQ := Aside0.mk h1
  have H3 := Aside0.mk h3
  have H5 := Aside0.mk h5
  have H6 := Aside0.mk h6
  have H7 := Aside0.mk h7
  have H8 := Aside0.mk h8
  have HX := Aside0.mk hx
  have HW := Aside0.mk hW
  have HWB := Aside0.mk hwb
  have hxf : x.f0.f0 = p.f0 ∧ x.f0.f1 = p.f1 ∧ x.f1 = id := by rw [hx]; exact ⟨rfl, rfl, rfl⟩
  have HXF := Aside0.mk hxf
  obtain ⟨bq, hbq⟩ : ∃ bq, bq = hasT T.sk x := ⟨_, rfl⟩
  rw [← hbq] at HH
  have hbq' : bq = hasT Q ⟨p, id⟩ := by rw [hbq, h1, hx]
  rw [hq] at hbq'
  subst hbq'
  clear hbq hq
  have hu28 := Try.underlying28
  have hu30 := Try.underlying30
  have hu57 := Try.underlying57
  clear h1 h2 h3 h4 h5 h6 h7 h8 hx hW hwb hg hp hsz hvr hxf
  go_enter Try.func11, Try.ntmps11
  go_wp2_with (first
    | (go_at_call 25; rw [show (w.alloc (.cells #[.int .i64 p.f0, .int .i64 p.f1] 28)).alloc (.cells #[.int .i64 p.f0, .int .i64 p.f1, .int .i64 id] 30) = wb from by rw [HWB.out, boxI, HXF.out.1, HXF.out.2.1, HXF.out.2.2]]; refine HV.out.mono ?_; rintro e w1 ⟨rfl, hB⟩; have HB1 := Aside0.mk hB; have hs1 := HS.out w1 hB; have HS1 := Aside0.mk hs1; have HHC := Aside0.mk (HH.out w1 hB)
       have hz3 : w1.cell? ⟨w.heap.size + 1, 0, none⟩ = some (.int .i64 p.f0) := (blk_cell hs1.2.2 0).trans (congrArg (fun z => some (Value.int .i64 z)) HXF.out.1)
       have hz4 : w1.cell? ⟨w.heap.size + 1, 1, none⟩ = some (.int .i64 p.f1) := (blk_cell hs1.2.2 1).trans (congrArg (fun z => some (Value.int .i64 z)) HXF.out.2.1)
       have hz5 : w1.cell? ⟨w.heap.size + 1, 2, none⟩ = some (.int .i64 id) := (blk_cell hs1.2.2 2).trans (congrArg (fun z => some (Value.int .i64 z)) HXF.out.2.2)
       clear hs1 hB HV HH)
    | (go_at_call 26; rw [show (Value.agg #[.int .i64 p.f0, .int .i64 p.f1, .int .i64 id]) = aggI x from by rw [aggI, HXF.out.1, HXF.out.2.1, HXF.out.2.2]]; refine HHC.out.mono ?_; rintro e w2 ⟨rfl, hB⟩; have HB2 := Aside0.mk (below_then HB1.out HB1.out.size hB)
       clear hB HHC hz3 hz4 hz5))
  go_ret
  have hb := below_then HW.out HW.out.size HB2.out
  exact ⟨rfl, (HT0.out.below hb).ext_, Wr.of_below _ hb⟩
set_option maxHeartbeats 1000000 in
set_option maxRecDepth 100000 in
theorem remove_no (w : World) (S : Nat → Prop) (t : Nat) (Q : Tr S30) (n : Nat) (p : S28) (id : Int) (h : TreeAt w S t Q n) (hq : hasT Q ⟨p, id⟩ = false) :
    Calls Try.prog 19 #[.pointer (some ⟨t, 0, none⟩), .agg #[.int .i64 p.f0, .int .i64 p.f1], .int .i64 id] w fun e w' => e = .returned (.bool false) ∧ TreeAt w' (ext S w w') t Q n ∧ Wr w w' S := by
  have HT0 := Aside0.mk h
  obtain ⟨T, h1, h2, h3, h4, h5, h6, h7, h8⟩ := h
  obtain ⟨x, hx⟩ : ∃ x : S30, x = ⟨p, id⟩ := ⟨_, rfl⟩
  obtain ⟨wb, hwb⟩ : ∃ wb, wb = (w.alloc (.cells #[.int .i64 p.f0, .int .i64 p.f1] 28)).alloc (boxI x) := ⟨_, rfl⟩
  have hW : Below w.heap.size w wb := by rw [hwb]; exact below_alloc (below_alloc (Below.refl _ _) _) _
  have hsz : (w.alloc (.cells #[.int .i64 p.f0, .int .i64 p.f1] 28)).heap.size = w.heap.size + 1 := by simp [World.alloc_eq]
  have hg : wb.heap[w.heap.size + 1]? = some (boxI x) := by
    have := blk_new (w.alloc (.cells #[.int .i64 p.f0, .int .i64 p.f1] 28)) (boxI x)
    rw [hsz] at this
    rw [hwb]; exact this
  have hp : wb.heap[w.heap.size]? = some (.cells #[.int .i64 p.f0, .int .i64 p.f1] 28 (0, 0)) := by
    rw [hwb]
    exact (Below.heap_alloc _ _ _ (by rw [hsz]; omega)).trans (blk_new w _)
  have hz0 : wb.cell? ⟨w.heap.size, 0, none⟩ = some (.int .i64 p.f0) := (blk_cell hp 0).trans rfl
  have hz1 : wb.cell? ⟨w.heap.size, 1, none⟩ = some (.int .i64 p.f1) := (blk_cell hp 1).trans rfl
  skip
  have HS := Aside0.mk (fun (w' : World) (hB : Below wb.heap.size wb w') => And.intro (h2.below (below_then hW hW.size hB)) (And.intro (((below_then hW hW.size hB).block t (h8 t h5)).trans h4) (((hB.block _ (blk_lt hg)).trans hg))))
  have HH := Aside0.mk (fun (w' : World) (hB : Below wb.heap.size wb w') => has_calls t T n x w' (((below_then hW hW.size hB).block t (h8 t h5)).trans h4) (h2.below (below_then hW hW.size hB)))
  obtain ⟨vr, hvr⟩ := ptr_pointer T
  have HVR := Aside0.mk hvr
  have HQ := Aside0.mk h1
  have H3 := Aside0.mk h3
  have H5 := Aside0.mk h5
  have H6 := Aside0.mk h6
  have H7 := Aside0.mk h7
  have H8 := Aside0.mk h8
  have HX := Aside0.mk hx
  have HW := Aside0.mk hW
  have HWB := Aside0.mk hwb
  have hxf : x.f0.f0 = p.f0 ∧ x.f0.f1 = p.f1 ∧ x.f1 = id := by rw [hx]; exact ⟨rfl, rfl, rfl⟩
  have HXF := Aside0.mk hxf
  obtain ⟨bq, hbq⟩ : ∃ bq, bq = hasT T.sk x := ⟨_, rfl⟩
  rw [← hbq] at HH
  have hbq' : bq = hasT Q ⟨p, id⟩ := by rw [hbq, h1, hx]
  rw [hq] at hbq'
  subst hbq'
  clear hbq hq
  have hu28 := Try.underlying28
  have hu30 := Try.underlying30
  have hu57 := Try.underlying57
  clear h1 h2 h3 h4 h5 h6 h7 h8 hx hW hwb hg hp hsz hvr hxf
  go_enter Try.func19, Try.ntmps19
  go_wp2_with (first
    | (go_at_call 26; rw [show (w.alloc (.cells #[.int .i64 p.f0, .int .i64 p.f1] 28)).alloc (.cells #[.int .i64 p.f0, .int .i64 p.f1, .int .i64 id] 30) = wb from by rw [HWB.out, boxI, HXF.out.1, HXF.out.2.1, HXF.out.2.2]]; rw [show (Value.agg #[.int .i64 p.f0, .int .i64 p.f1, .int .i64 id]) = aggI x from by rw [aggI, HXF.out.1, HXF.out.2.1, HXF.out.2.2]]; refine (HH.out wb (Below.refl _ _)).mono ?_; rintro e w2 ⟨rfl, hB⟩; have HB2 := Aside0.mk hB
       clear hB HH))
  go_ret
  have hb := below_then HW.out HW.out.size HB2.out
  exact ⟨rfl, (HT0.out.below hb).ext_, Wr.of_below _ hb⟩
set_option maxHeartbeats 1000000 in
set_option maxRecDepth 100000 in
theorem add_new (w : World) (S : Nat → Prop) (t : Nat) (Q : Tr S30) (n : Nat) (p : S28) (id : Int) (h : TreeAt w S t Q n) (hh : Q.ht ≤ 600000) (hn : n ≤ 1000000) (hv : vldB p = true) (hq : hasT Q ⟨p, id⟩ = false) :
    Calls Try.prog 11 #[.pointer (some ⟨t, 0, none⟩), .agg #[.int .i64 p.f0, .int .i64 p.f1], .int .i64 id] w fun e w' => e = .returned (.bool true) ∧ TreeAt w' (ext S w w') t (ins Q ⟨p, id⟩) (n + 1) ∧ Wr w w' S := by
  have HT0 := Aside0.mk h
  obtain ⟨T, h1, h2, h3, h4, h5, h6, h7, h8⟩ := h
  obtain ⟨x, hx⟩ : ∃ x : S30, x = ⟨p, id⟩ := ⟨_, rfl⟩
  obtain ⟨wb, hwb⟩ : ∃ wb, wb = (w.alloc (.cells #[.int .i64 p.f0, .int .i64 p.f1] 28)).alloc (boxI x) := ⟨_, rfl⟩
  have hW : Below w.heap.size w wb := by rw [hwb]; exact below_alloc (below_alloc (Below.refl _ _) _) _
  have hsz : (w.alloc (.cells #[.int .i64 p.f0, .int .i64 p.f1] 28)).heap.size = w.heap.size + 1 := by simp [World.alloc_eq]
  have hg : wb.heap[w.heap.size + 1]? = some (boxI x) := by
    have := blk_new (w.alloc (.cells #[.int .i64 p.f0, .int .i64 p.f1] 28)) (boxI x)
    rw [hsz] at this
    rw [hwb]; exact this
  have hp : wb.heap[w.heap.size]? = some (.cells #[.int .i64 p.f0, .int .i64 p.f1] 28 (0, 0)) := by
    rw [hwb]
    exact (Below.heap_alloc _ _ _ (by rw [hsz]; omega)).trans (blk_new w _)
  have hz0 : wb.cell? ⟨w.heap.size, 0, none⟩ = some (.int .i64 p.f0) := (blk_cell hp 0).trans rfl
  have hz1 : wb.cell? ⟨w.heap.size, 1, none⟩ = some (.int .i64 p.f1) := (blk_cell hp 1).trans rfl
  obtain ⟨bv, hbv⟩ : ∃ bv, bv = vldB p := ⟨_, rfl⟩
  have HV := Aside0.mk (period_Valid.calls p.f0 p.f1 _ wb (valid_f p))
  rw [← hbv] at HV
  rw [← hbv] at hv
  subst hv
  clear hbv
  have HS := Aside0.mk (fun (w' : World) (hB : Below wb.heap.size wb w') => And.intro (h2.below (below_then hW hW.size hB)) (And.intro (((below_then hW hW.size hB).block t (h8 t h5)).trans h4) (((hB.block _ (blk_lt hg)).trans hg))))
  have HH := Aside0.mk (fun (w' : World) (hB : Below wb.heap.size wb w') => has_calls t T n x w' (((below_then hW hW.size hB).block t (h8 t h5)).trans h4) (h2.below (below_then hW hW.size hB)))
  obtain ⟨vr, hvr⟩ := ptr_pointer T
  have HVR := Aside0.mk hvr
  have HQ := Aside0.mk h1
  have H3 := Aside0.mk h3
  have H5 := Aside0.mk h5
  have H6 := Aside0.mk h6
  have H7 := Aside0.mk h7
  have H8 := Aside0.mk h8
  have HX := Aside0.mk hx
  have HW := Aside0.mk hW
  have HWB := Aside0.mk hwb
  have hxf : x.f0.f0 = p.f0 ∧ x.f0.f1 = p.f1 ∧ x.f1 = id := by rw [hx]; exact ⟨rfl, rfl, rfl⟩
  have HXF := Aside0.mk hxf
  obtain ⟨bq, hbq⟩ : ∃ bq, bq = hasT T.sk x := ⟨_, rfl⟩
  rw [← hbq] at HH
  have hbq' : bq = hasT Q ⟨p, id⟩ := by rw [hbq, h1, hx]
  rw [hq] at hbq'
  subst hbq'
  clear hbq hq
  have HHT := Aside0.mk hh
  clear hh
  have hu28 := Try.underlying28
  have hu30 := Try.underlying30
  have hu57 := Try.underlying57
  clear h1 h2 h3 h4 h5 h6 h7 h8 hx hW hwb hg hp hsz hvr hxf
  go_enter Try.func11, Try.ntmps11
  go_wp2_with (first
    | (go_at_call 25; rw [show (w.alloc (.cells #[.int .i64 p.f0, .int .i64 p.f1] 28)).alloc (.cells #[.int .i64 p.f0, .int .i64 p.f1, .int .i64 id] 30) = wb from by rw [HWB.out, boxI, HXF.out.1, HXF.out.2.1, HXF.out.2.2]]; refine HV.out.mono ?_; rintro e w1 ⟨rfl, hB⟩; have HB1 := Aside0.mk hB; have hs1 := HS.out w1 hB; have HS1 := Aside0.mk hs1; have HHC := Aside0.mk (HH.out w1 hB)
       have hz3 : w1.cell? ⟨w.heap.size + 1, 0, none⟩ = some (.int .i64 p.f0) := (blk_cell hs1.2.2 0).trans (congrArg (fun z => some (Value.int .i64 z)) HXF.out.1)
       have hz4 : w1.cell? ⟨w.heap.size + 1, 1, none⟩ = some (.int .i64 p.f1) := (blk_cell hs1.2.2 1).trans (congrArg (fun z => some (Value.int .i64 z)) HXF.out.2.1)
       have hz5 : w1.cell? ⟨w.heap.size + 1, 2, none⟩ = some (.int .i64 id) := (blk_cell hs1.2.2 2).trans (congrArg (fun z => some (Value.int .i64 z)) HXF.out.2.2)
       clear hs1 hB HV HH)
    | (go_at_call 26; rw [show (Value.agg #[.int .i64 p.f0, .int .i64 p.f1, .int .i64 id]) = aggI x from by rw [aggI, HXF.out.1, HXF.out.2.1, HXF.out.2.2]]; refine HHC.out.mono ?_; rintro e w2 ⟨rfl, hB⟩; have HB2 := Aside0.mk (below_then HB1.out HB1.out.size hB)
       clear hB HHC hz3 hz4 hz5))
  have hs2 := HS.out w2 HB2.out
  have HS2 := Aside0.mk hs2
  have HW2 := Aside0.mk (below_then HW.out HW.out.size HB2.out)
  have HSS := Aside0.mk (show w2.drew.cell? ⟨t, 0, none⟩ = some (.pointer vr) ∧ w2.drew.cell? ⟨w.heap.size + 1, 0, none⟩ = some (.int .i64 p.f0) ∧ w2.drew.cell? ⟨w.heap.size + 1, 1, none⟩ = some (.int .i64 p.f1) ∧ w2.drew.cell? ⟨w.heap.size + 1, 2, none⟩ = some (.int .i64 id) from
    ⟨(blk_cell hs2.2.1 0).trans (congrArg some HVR.out), (blk_cell hs2.2.2 0).trans (congrArg (fun z => some (Value.int .i64 z)) HXF.out.1), (blk_cell hs2.2.2 1).trans (congrArg (fun z => some (Value.int .i64 z)) HXF.out.2.1), (blk_cell hs2.2.2 2).trans (congrArg (fun z => some (Value.int .i64 z)) HXF.out.2.2)⟩)
  clear hs2
  refine start_ (n := 10) (S := fun w' => (w'.cell? ⟨t, 0, none⟩ = some (.pointer vr) ∧ w'.cell? ⟨w.heap.size + 1, 0, none⟩ = some (.int .i64 p.f0) ∧ w'.cell? ⟨w.heap.size + 1, 1, none⟩ = some (.int .i64 p.f1) ∧ w'.cell? ⟨w.heap.size + 1, 2, none⟩ = some (.int .i64 id))) (ds := [9]) #[false, false, false, false, false, false, false, false, false, false] (by kernel_rfl) rfl rfl ?_ (fun hHeld => ?_)
  · exact HSS.out
  refine pure_ (i := 0) (N := some 23) (v := ?_) (a' := ?_) #[true, false, false, false, false, false, false, false, false, false] rfl rfl (by kernel_rfl) (fun _ _ _ h => h) (Or.inl ⟨by rfl, ?_⟩) ?_ ?_
  rotate_left
  · intro w'
    go_simp
    with_reducible rfl
  rotate_left
  · simp only [Act.put, List.setIfInBounds_toArray, List.set_cons_zero, List.set_cons_succ, i64_w, i32_w]
    rfl
  refine pure_ (i := 1) (N := some 24) (v := ?_) (a' := ?_) #[true, true, false, false, false, false, false, false, false, false] rfl rfl (by kernel_rfl) (fun _ _ _ h => h) (Or.inl ⟨by rfl, ?_⟩) ?_ ?_
  rotate_left
  · intro w'
    go_simp
    with_reducible rfl
  rotate_left
  · simp only [Act.put, List.setIfInBounds_toArray, List.set_cons_zero, List.set_cons_succ, i64_w, i32_w]
    rfl
  refine pure_ (i := 2) (N := some 25) (v := ?_) (a' := ?_) #[true, true, true, false, false, false, false, false, false, false] rfl rfl (by kernel_rfl) (fun _ _ _ h => h) (Or.inl ⟨by rfl, ?_⟩) ?_ ?_
  rotate_left
  · intro w'
    go_simp
    with_reducible rfl
  rotate_left
  · simp only [Act.put, List.setIfInBounds_toArray, List.set_cons_zero, List.set_cons_succ, i64_w, i32_w]
    rfl
  refine pure_ (i := 3) (N := some 26) (v := ?_) (a' := ?_) #[true, true, true, true, false, false, false, false, false, false] rfl rfl (by kernel_rfl) (fun _ _ _ h => h) (Or.inl ⟨by rfl, ?_⟩) ?_ ?_
  rotate_left
  · intro w'
    go_simp
    with_reducible rfl
  rotate_left
  · simp only [Act.put, List.setIfInBounds_toArray, List.set_cons_zero, List.set_cons_succ, i64_w, i32_w]
    rfl
  refine take_ (i := 4) (N := some 27) (v := ?_) (a' := ?_) #[true, true, true, true, true, false, false, false, false, false] rfl rfl (by kernel_rfl) (fun _ _ _ h => h) (Or.inl ⟨by rfl, ?_⟩) hHeld ?_ ?_
  rotate_left
  · rintro w' ⟨s0, s1, s2, s3⟩
    go_simp
    with_reducible rfl
  rotate_left
  · simp only [Act.put, List.setIfInBounds_toArray, List.set_cons_zero, List.set_cons_succ, i64_w, i32_w]
    rfl
  refine take_ (i := 5) (N := some 28) (v := ?_) (a' := ?_) #[true, true, true, true, true, true, false, false, false, false] rfl rfl (by kernel_rfl) (fun _ _ _ h => h) (Or.inl ⟨by rfl, ?_⟩) hHeld ?_ ?_
  rotate_left
  · rintro w' ⟨s0, s1, s2, s3⟩
    go_simp
    with_reducible rfl
  rotate_left
  · simp only [Act.put, List.setIfInBounds_toArray, List.set_cons_zero, List.set_cons_succ, i64_w, i32_w]
    rfl
  refine one_ (i := 6) (N := some 29) #[true, true, true, true, true, true, true, false, false, false] rfl rfl (by kernel_rfl) (by decide) (fun K hK => ?_)
  refine goes_ Try.func27 (by kernel_rfl) rfl #[.pointer vr, .agg #[.int .i64 p.f0, .int .i64 p.f1, .int .i64 id]] (by rfl) rfl rfl (by (try simp only [List.map_toArray, List.map_cons, List.map_nil]); first | done | rfl) ?_
  rw [show (Value.agg #[.int .i64 p.f0, .int .i64 p.f1, .int .i64 id]) = aggI x from by rw [aggI, HXF.out.1, HXF.out.2.1, HXF.out.2.2], ← HVR.out]
  refine (insert_calls x T w2.drew (HS2.out.1.drewN 1) H3.out (by rw [← ht_sk, HQ.out]; exact HHT.out)).mono ?_
  rintro e w3 ⟨T1, rfl, hsk, hA, hN, hWr, hbl⟩
  obtain ⟨v1, hv1⟩ := ptr_pointer T1
  have HV1 := Aside0.mk hv1
  rw [hv1]
  have hb3 : w3.heap[t]? = some (.cells #[T.ptr, .int .i64 n] 57 (0, 0)) := hWr.keep HS2.out.2.1 H7.out
  have hg3 : w3.heap[w.heap.size + 1]? = some (boxI x) := hWr.keep HS2.out.2.2 (fun hk => by have := H8.out _ (H6.out _ hk); omega)
  have HB3 := Aside0.mk hb3
  have HA := Aside0.mk (And.intro hA (And.intro hN (And.intro hWr hbl)))
  have HK := Aside0.mk hsk
  refine ⟨_, rfl, hK.out _ _ ⟨(blk_cell hb3 0).trans (congrArg some HVR.out), (blk_cell hg3 0).trans (congrArg (fun z => some (Value.int .i64 z)) HXF.out.1), (blk_cell hg3 1).trans (congrArg (fun z => some (Value.int .i64 z)) HXF.out.2.1), (blk_cell hg3 2).trans (congrArg (fun z => some (Value.int .i64 z)) HXF.out.2.2)⟩ (fun _ => ?_)⟩
  clear hK K hv1 hb3 hg3 hA hN hWr hbl hsk
  refine norm_ (a' := ?_) ?_ ?_
  rotate_left
  · show Act.put _ (some 29) _ = _
    simp only [Act.put, List.setIfInBounds_toArray, List.set_cons_zero, List.set_cons_succ, i64_w, i32_w]
    rfl
  refine pure_ (i := 7) (N := some 30) (v := ?_) (a' := ?_) #[true, true, true, true, true, true, true, true, false, false] rfl rfl (by kernel_rfl) (fun _ _ _ h => h) (Or.inl ⟨by rfl, ?_⟩) ?_ ?_
  rotate_left
  · intro w'
    go_simp
    with_reducible rfl
  rotate_left
  · simp only [Act.put, List.setIfInBounds_toArray, List.set_cons_zero, List.set_cons_succ, i64_w, i32_w]
    rfl
  refine pure_ (i := 8) (N := some 31) (v := ?_) (a' := ?_) #[true, true, true, true, true, true, true, true, true, false] rfl rfl (by kernel_rfl) (fun _ _ _ h => h) (Or.inl ⟨by rfl, ?_⟩) ?_ ?_
  rotate_left
  · intro w'
    go_simp
    with_reducible rfl
  rotate_left
  · simp only [Act.put, List.setIfInBounds_toArray, List.set_cons_zero, List.set_cons_succ, i64_w, i32_w]
    rfl
  refine last_ (i := 9) (N := none) #[true, true, true, true, true, true, true, true, true, true] rfl rfl (by kernel_rfl) (by decide) (fun K hK => ?_)
  have hcs : w3.cell? ⟨t, 0, none⟩ = some (.pointer vr) := (blk_cell HB3.out 0).trans (congrArg some HVR.out)
  have hfs := blk_frozen HB3.out 0
  refine skip_ (w1 := ?_) (by rfl) rfl ?_ ?_
  rotate_left
  · go_simp
    rfl
  refine hK.out _ _ ?_
  clear hK K hcs hfs
  refine done_ (by kernel_rfl) ?_
  have hb4 := blk_put (cs := #[T.ptr, .int .i64 n]) (cs' := #[T1.ptr, .int .i64 n]) HB3.out 0 (.pointer v1) (by rw [HV1.out]; rfl)
  obtain ⟨w4, hw4⟩ : ∃ w4, w4 = w3.setCell ⟨t, 0, none⟩ (.pointer v1) := ⟨_, rfl⟩
  rw [← hw4] at hb4 ⊢
  have hwr4 : Wr w3 w4 (fun k => k = t) := by rw [hw4]; exact (Wr.refl w3 (fun k => k = t)).set (S := fun k => k = t) rfl 0 _
  have hT1 : ∀ k ∈ T1.blks, k ∈ T.blks ∨ w.heap.size ≤ k := fun k hk => by
    rcases HA.out.2.2.2 k hk with h | h
    · exact .inl h
    · have := HW2.out.size
      have : w2.drew.heap.size = w2.heap.size := rfl
      exact .inr (by omega)
  have hbl1 : t ∉ T1.blks := fun hk => by
    rcases hT1 t hk with h | h
    · exact H7.out h
    · have h' := H8.out t H5.out
      omega
  have HA4 := Aside0.mk (HA.out.1.wr hwr4 (fun k hk e => hbl1 (e ▸ hk)))
  have HB4 := Aside0.mk hb4
  have HW4 := Aside0.mk (show Wr w w4 S from (((Wr.of_below _ HW2.out).drewN 1).trans HA.out.2.2.1 (fun k hk => .inl (H6.out k hk))).trans hwr4 (fun k hk => .inl (hk ▸ H5.out)))
  have HT1 := Aside0.mk hT1
  have HBL := Aside0.mk hbl1
  have hc1 : w4.cell? ⟨t, 1, none⟩ = some (.int .i64 n) := (blk_cell hb4 1).trans rfl
  have hf1 := blk_frozen hb4 1
  have hs1 : IntKind.i64.wrap ((n : Int) + 1) = (n : Int) + 1 := by rw [i64_w]; unfold wrap64; omega
  clear hb4 hwr4 hbl1 hw4 hT1
  go_wp2
  go_ret
  have hset : Wr w4 (w4.setCell ⟨t, 1, none⟩ (.int .i64 ((n : Int) + 1))) (fun k => k = t) := (Wr.refl w4 (fun k => k = t)).set (S := fun k => k = t) rfl 1 _
  refine ⟨rfl, ⟨T1, by rw [HK.out, HQ.out, HX.out], HA4.out.wr hset (fun k hk e => HBL.out (e ▸ hk)), HA.out.2.1, ?_, ⟨.inl H5.out, Nat.lt_of_lt_of_le (blk_lt HB4.out) hset.size⟩, fun k hk => ⟨(HT1.out k hk).imp (H6.out k) (fun h => h), Nat.lt_of_lt_of_le (HA4.out.lt k hk) hset.size⟩, HBL.out, fun k hk => hk.2⟩, HW4.out.trans hset (fun k hk => .inl (hk ▸ H5.out))⟩
  exact blk_put (cs := #[T1.ptr, .int .i64 n]) HB4.out 1 _ rfl
set_option maxHeartbeats 1000000 in
set_option maxRecDepth 100000 in
theorem remove_yes (w : World) (S : Nat → Prop) (t : Nat) (Q : Tr S30) (n : Nat) (p : S28) (id : Int) (h : TreeAt w S t Q n) (hh : Q.ht ≤ 600000) (hn : n ≤ 1000000) (hn1 : 1 ≤ n) (hro : RemOk Q ⟨p, id⟩) (hq : hasT Q ⟨p, id⟩ = true) :
    Calls Try.prog 19 #[.pointer (some ⟨t, 0, none⟩), .agg #[.int .i64 p.f0, .int .i64 p.f1], .int .i64 id] w fun e w' => e = .returned (.bool true) ∧ TreeAt w' (ext S w w') t (rem Q ⟨p, id⟩) (n - 1) ∧ Wr w w' S := by
  have HT0 := Aside0.mk h
  obtain ⟨T, h1, h2, h3, h4, h5, h6, h7, h8⟩ := h
  obtain ⟨x, hx⟩ : ∃ x : S30, x = ⟨p, id⟩ := ⟨_, rfl⟩
  obtain ⟨wb, hwb⟩ : ∃ wb, wb = (w.alloc (.cells #[.int .i64 p.f0, .int .i64 p.f1] 28)).alloc (boxI x) := ⟨_, rfl⟩
  have hW : Below w.heap.size w wb := by rw [hwb]; exact below_alloc (below_alloc (Below.refl _ _) _) _
  have hsz : (w.alloc (.cells #[.int .i64 p.f0, .int .i64 p.f1] 28)).heap.size = w.heap.size + 1 := by simp [World.alloc_eq]
  have hg : wb.heap[w.heap.size + 1]? = some (boxI x) := by
    have := blk_new (w.alloc (.cells #[.int .i64 p.f0, .int .i64 p.f1] 28)) (boxI x)
    rw [hsz] at this
    rw [hwb]; exact this
  have hp : wb.heap[w.heap.size]? = some (.cells #[.int .i64 p.f0, .int .i64 p.f1] 28 (0, 0)) := by
    rw [hwb]
    exact (Below.heap_alloc _ _ _ (by rw [hsz]; omega)).trans (blk_new w _)
  have hz0 : wb.cell? ⟨w.heap.size, 0, none⟩ = some (.int .i64 p.f0) := (blk_cell hp 0).trans rfl
  have hz1 : wb.cell? ⟨w.heap.size, 1, none⟩ = some (.int .i64 p.f1) := (blk_cell hp 1).trans rfl
  skip
  have HS := Aside0.mk (fun (w' : World) (hB : Below wb.heap.size wb w') => And.intro (h2.below (below_then hW hW.size hB)) (And.intro (((below_then hW hW.size hB).block t (h8 t h5)).trans h4) (((hB.block _ (blk_lt hg)).trans hg))))
  have HH := Aside0.mk (fun (w' : World) (hB : Below wb.heap.size wb w') => has_calls t T n x w' (((below_then hW hW.size hB).block t (h8 t h5)).trans h4) (h2.below (below_then hW hW.size hB)))
  obtain ⟨vr, hvr⟩ := ptr_pointer T
  have HVR := Aside0.mk hvr
  have HQ := Aside0.mk h1
  have H3 := Aside0.mk h3
  have H5 := Aside0.mk h5
  have H6 := Aside0.mk h6
  have H7 := Aside0.mk h7
  have H8 := Aside0.mk h8
  have HX := Aside0.mk hx
  have HW := Aside0.mk hW
  have HWB := Aside0.mk hwb
  have hxf : x.f0.f0 = p.f0 ∧ x.f0.f1 = p.f1 ∧ x.f1 = id := by rw [hx]; exact ⟨rfl, rfl, rfl⟩
  have HXF := Aside0.mk hxf
  obtain ⟨bq, hbq⟩ : ∃ bq, bq = hasT T.sk x := ⟨_, rfl⟩
  rw [← hbq] at HH
  have hbq' : bq = hasT Q ⟨p, id⟩ := by rw [hbq, h1, hx]
  rw [hq] at hbq'
  subst hbq'
  clear hbq hq
  have HHT := Aside0.mk hh
  have HRO := Aside0.mk hro
  clear hh hro
  have hu28 := Try.underlying28
  have hu30 := Try.underlying30
  have hu57 := Try.underlying57
  clear h1 h2 h3 h4 h5 h6 h7 h8 hx hW hwb hg hp hsz hvr hxf
  go_enter Try.func19, Try.ntmps19
  go_wp2_with (first
    | (go_at_call 26; rw [show (w.alloc (.cells #[.int .i64 p.f0, .int .i64 p.f1] 28)).alloc (.cells #[.int .i64 p.f0, .int .i64 p.f1, .int .i64 id] 30) = wb from by rw [HWB.out, boxI, HXF.out.1, HXF.out.2.1, HXF.out.2.2]]; rw [show (Value.agg #[.int .i64 p.f0, .int .i64 p.f1, .int .i64 id]) = aggI x from by rw [aggI, HXF.out.1, HXF.out.2.1, HXF.out.2.2]]; refine (HH.out wb (Below.refl _ _)).mono ?_; rintro e w2 ⟨rfl, hB⟩; have HB2 := Aside0.mk hB
       clear hB HH))
  have hs2 := HS.out w2 HB2.out
  have HS2 := Aside0.mk hs2
  have HW2 := Aside0.mk (below_then HW.out HW.out.size HB2.out)
  have HSS := Aside0.mk (show w2.drew.cell? ⟨t, 0, none⟩ = some (.pointer vr) ∧ w2.drew.cell? ⟨w.heap.size + 1, 0, none⟩ = some (.int .i64 p.f0) ∧ w2.drew.cell? ⟨w.heap.size + 1, 1, none⟩ = some (.int .i64 p.f1) ∧ w2.drew.cell? ⟨w.heap.size + 1, 2, none⟩ = some (.int .i64 id) from
    ⟨(blk_cell hs2.2.1 0).trans (congrArg some HVR.out), (blk_cell hs2.2.2 0).trans (congrArg (fun z => some (Value.int .i64 z)) HXF.out.1), (blk_cell hs2.2.2 1).trans (congrArg (fun z => some (Value.int .i64 z)) HXF.out.2.1), (blk_cell hs2.2.2 2).trans (congrArg (fun z => some (Value.int .i64 z)) HXF.out.2.2)⟩)
  clear hs2
  refine start_ (n := 10) (S := fun w' => (w'.cell? ⟨t, 0, none⟩ = some (.pointer vr) ∧ w'.cell? ⟨w.heap.size + 1, 0, none⟩ = some (.int .i64 p.f0) ∧ w'.cell? ⟨w.heap.size + 1, 1, none⟩ = some (.int .i64 p.f1) ∧ w'.cell? ⟨w.heap.size + 1, 2, none⟩ = some (.int .i64 id))) (ds := [9]) #[false, false, false, false, false, false, false, false, false, false] (by kernel_rfl) rfl rfl ?_ (fun hHeld => ?_)
  · exact HSS.out
  refine pure_ (i := 0) (N := some 19) (v := ?_) (a' := ?_) #[true, false, false, false, false, false, false, false, false, false] rfl rfl (by kernel_rfl) (fun _ _ _ h => h) (Or.inl ⟨by rfl, ?_⟩) ?_ ?_
  rotate_left
  · intro w'
    go_simp
    with_reducible rfl
  rotate_left
  · simp only [Act.put, List.setIfInBounds_toArray, List.set_cons_zero, List.set_cons_succ, i64_w, i32_w]
    rfl
  refine pure_ (i := 1) (N := some 20) (v := ?_) (a' := ?_) #[true, true, false, false, false, false, false, false, false, false] rfl rfl (by kernel_rfl) (fun _ _ _ h => h) (Or.inl ⟨by rfl, ?_⟩) ?_ ?_
  rotate_left
  · intro w'
    go_simp
    with_reducible rfl
  rotate_left
  · simp only [Act.put, List.setIfInBounds_toArray, List.set_cons_zero, List.set_cons_succ, i64_w, i32_w]
    rfl
  refine pure_ (i := 2) (N := some 21) (v := ?_) (a' := ?_) #[true, true, true, false, false, false, false, false, false, false] rfl rfl (by kernel_rfl) (fun _ _ _ h => h) (Or.inl ⟨by rfl, ?_⟩) ?_ ?_
  rotate_left
  · intro w'
    go_simp
    with_reducible rfl
  rotate_left
  · simp only [Act.put, List.setIfInBounds_toArray, List.set_cons_zero, List.set_cons_succ, i64_w, i32_w]
    rfl
  refine pure_ (i := 3) (N := some 22) (v := ?_) (a' := ?_) #[true, true, true, true, false, false, false, false, false, false] rfl rfl (by kernel_rfl) (fun _ _ _ h => h) (Or.inl ⟨by rfl, ?_⟩) ?_ ?_
  rotate_left
  · intro w'
    go_simp
    with_reducible rfl
  rotate_left
  · simp only [Act.put, List.setIfInBounds_toArray, List.set_cons_zero, List.set_cons_succ, i64_w, i32_w]
    rfl
  refine take_ (i := 4) (N := some 23) (v := ?_) (a' := ?_) #[true, true, true, true, true, false, false, false, false, false] rfl rfl (by kernel_rfl) (fun _ _ _ h => h) (Or.inl ⟨by rfl, ?_⟩) hHeld ?_ ?_
  rotate_left
  · rintro w' ⟨s0, s1, s2, s3⟩
    go_simp
    with_reducible rfl
  rotate_left
  · simp only [Act.put, List.setIfInBounds_toArray, List.set_cons_zero, List.set_cons_succ, i64_w, i32_w]
    rfl
  refine take_ (i := 5) (N := some 24) (v := ?_) (a' := ?_) #[true, true, true, true, true, true, false, false, false, false] rfl rfl (by kernel_rfl) (fun _ _ _ h => h) (Or.inl ⟨by rfl, ?_⟩) hHeld ?_ ?_
  rotate_left
  · rintro w' ⟨s0, s1, s2, s3⟩
    go_simp
    with_reducible rfl
  rotate_left
  · simp only [Act.put, List.setIfInBounds_toArray, List.set_cons_zero, List.set_cons_succ, i64_w, i32_w]
    rfl
  refine one_ (i := 6) (N := some 25) #[true, true, true, true, true, true, true, false, false, false] rfl rfl (by kernel_rfl) (by decide) (fun K hK => ?_)
  refine goes_ Try.func33 (by kernel_rfl) rfl #[.pointer vr, .agg #[.int .i64 p.f0, .int .i64 p.f1, .int .i64 id]] (by rfl) rfl rfl (by (try simp only [List.map_toArray, List.map_cons, List.map_nil]); first | done | rfl) ?_
  rw [show (Value.agg #[.int .i64 p.f0, .int .i64 p.f1, .int .i64 id]) = aggI x from by rw [aggI, HXF.out.1, HXF.out.2.1, HXF.out.2.2], ← HVR.out]
  refine (remove_calls T x w2.drew (HS2.out.1.drewN 1) H3.out (by rw [← ht_sk, HQ.out]; exact HHT.out) (by rw [HQ.out, HX.out]; exact HRO.out)).mono ?_
  rintro e w3 ⟨T1, rfl, hsk, hA, hN, hWr, hbl⟩
  obtain ⟨v1, hv1⟩ := ptr_pointer T1
  have HV1 := Aside0.mk hv1
  rw [hv1]
  have hb3 : w3.heap[t]? = some (.cells #[T.ptr, .int .i64 n] 57 (0, 0)) := hWr.keep HS2.out.2.1 H7.out
  have hg3 : w3.heap[w.heap.size + 1]? = some (boxI x) := hWr.keep HS2.out.2.2 (fun hk => by have := H8.out _ (H6.out _ hk); omega)
  have HB3 := Aside0.mk hb3
  have HA := Aside0.mk (And.intro hA (And.intro hN (And.intro hWr hbl)))
  have HK := Aside0.mk hsk
  refine ⟨_, rfl, hK.out _ _ ⟨(blk_cell hb3 0).trans (congrArg some HVR.out), (blk_cell hg3 0).trans (congrArg (fun z => some (Value.int .i64 z)) HXF.out.1), (blk_cell hg3 1).trans (congrArg (fun z => some (Value.int .i64 z)) HXF.out.2.1), (blk_cell hg3 2).trans (congrArg (fun z => some (Value.int .i64 z)) HXF.out.2.2)⟩ (fun _ => ?_)⟩
  clear hK K hv1 hb3 hg3 hA hN hWr hbl hsk
  refine norm_ (a' := ?_) ?_ ?_
  rotate_left
  · show Act.put _ (some 25) _ = _
    simp only [Act.put, List.setIfInBounds_toArray, List.set_cons_zero, List.set_cons_succ, i64_w, i32_w]
    rfl
  refine pure_ (i := 7) (N := some 26) (v := ?_) (a' := ?_) #[true, true, true, true, true, true, true, true, false, false] rfl rfl (by kernel_rfl) (fun _ _ _ h => h) (Or.inl ⟨by rfl, ?_⟩) ?_ ?_
  rotate_left
  · intro w'
    go_simp
    with_reducible rfl
  rotate_left
  · simp only [Act.put, List.setIfInBounds_toArray, List.set_cons_zero, List.set_cons_succ, i64_w, i32_w]
    rfl
  refine pure_ (i := 8) (N := some 27) (v := ?_) (a' := ?_) #[true, true, true, true, true, true, true, true, true, false] rfl rfl (by kernel_rfl) (fun _ _ _ h => h) (Or.inl ⟨by rfl, ?_⟩) ?_ ?_
  rotate_left
  · intro w'
    go_simp
    with_reducible rfl
  rotate_left
  · simp only [Act.put, List.setIfInBounds_toArray, List.set_cons_zero, List.set_cons_succ, i64_w, i32_w]
    rfl
  refine last_ (i := 9) (N := none) #[true, true, true, true, true, true, true, true, true, true] rfl rfl (by kernel_rfl) (by decide) (fun K hK => ?_)
  have hcs : w3.cell? ⟨t, 0, none⟩ = some (.pointer vr) := (blk_cell HB3.out 0).trans (congrArg some HVR.out)
  have hfs := blk_frozen HB3.out 0
  refine skip_ (w1 := ?_) (by rfl) rfl ?_ ?_
  rotate_left
  · go_simp
    rfl
  refine hK.out _ _ ?_
  clear hK K hcs hfs
  refine done_ (by kernel_rfl) ?_
  have hb4 := blk_put (cs := #[T.ptr, .int .i64 n]) (cs' := #[T1.ptr, .int .i64 n]) HB3.out 0 (.pointer v1) (by rw [HV1.out]; rfl)
  obtain ⟨w4, hw4⟩ : ∃ w4, w4 = w3.setCell ⟨t, 0, none⟩ (.pointer v1) := ⟨_, rfl⟩
  rw [← hw4] at hb4 ⊢
  have hwr4 : Wr w3 w4 (fun k => k = t) := by rw [hw4]; exact (Wr.refl w3 (fun k => k = t)).set (S := fun k => k = t) rfl 0 _
  have hT1 : ∀ k ∈ T1.blks, k ∈ T.blks ∨ w.heap.size ≤ k := fun k hk => by
    rcases HA.out.2.2.2 k hk with h | h
    · exact .inl h
    · have := HW2.out.size
      have : w2.drew.heap.size = w2.heap.size := rfl
      exact .inr (by omega)
  have hbl1 : t ∉ T1.blks := fun hk => by
    rcases hT1 t hk with h | h
    · exact H7.out h
    · have h' := H8.out t H5.out
      omega
  have HA4 := Aside0.mk (HA.out.1.wr hwr4 (fun k hk e => hbl1 (e ▸ hk)))
  have HB4 := Aside0.mk hb4
  have HW4 := Aside0.mk (show Wr w w4 S from (((Wr.of_below _ HW2.out).drewN 1).trans HA.out.2.2.1 (fun k hk => .inl (H6.out k hk))).trans hwr4 (fun k hk => .inl (hk ▸ H5.out)))
  have HT1 := Aside0.mk hT1
  have HBL := Aside0.mk hbl1
  have hc1 : w4.cell? ⟨t, 1, none⟩ = some (.int .i64 n) := (blk_cell hb4 1).trans rfl
  have hf1 := blk_frozen hb4 1
  have hs1 : IntKind.i64.wrap ((n : Int) - 1) = (n : Int) - 1 := by rw [i64_w]; unfold wrap64; omega
  clear hb4 hwr4 hbl1 hw4 hT1
  go_wp2
  go_ret
  have hset : Wr w4 (w4.setCell ⟨t, 1, none⟩ (.int .i64 ((n : Int) - 1))) (fun k => k = t) := (Wr.refl w4 (fun k => k = t)).set (S := fun k => k = t) rfl 1 _
  refine ⟨rfl, ⟨T1, by rw [HK.out, HQ.out, HX.out], HA4.out.wr hset (fun k hk e => HBL.out (e ▸ hk)), HA.out.2.1, ?_, ⟨.inl H5.out, Nat.lt_of_lt_of_le (blk_lt HB4.out) hset.size⟩, fun k hk => ⟨(HT1.out k hk).imp (H6.out k) (fun h => h), Nat.lt_of_lt_of_le (HA4.out.lt k hk) hset.size⟩, HBL.out, fun k hk => hk.2⟩, HW4.out.trans hset (fun k hk => .inl (hk ▸ H5.out))⟩
  have e1 : ((n - 1 : Nat) : Int) = (n : Int) - 1 := by omega
  rw [e1]
  exact blk_put (cs := #[T1.ptr, .int .i64 n]) HB4.out 1 _ rfl
end Go.Proofs.Ytdjfjmcnghfdkaa.My
