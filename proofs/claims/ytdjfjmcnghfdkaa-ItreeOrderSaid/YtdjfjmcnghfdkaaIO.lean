/- Sort and Compact at a row of the call's own; Overlap, Stab. -/
import Derived.Test.YtdjfjmcnghfdkaaIN
import Derived.Test.YtdjfjmcnghfdkaaShelf
namespace Go.Proofs.Ytdjfjmcnghfdkaa.My
open Go Go.RowKit Go.Sort Go.Proofs.YtdjfjmcnghfdkaaW.PrintWords Go.Proofs.YtdjfjmcnghfdkaaW.PrintLast Go.Proofs.YtdjfjmcnghfdkaaW.PrintMore Go.Proofs.Ytdjfjmcnghfdkaa.PItreeActs
set_option linter.unusedVariables false
set_option linter.unusedSimpArgs false
/-- A row of numbers in a block of the call's own, told by its cells. -/
def HN (w : World) (base : Nat) (v : Value) (zs : List Int) : Prop :=
  ∃ A c, v = .slice A zs.length c ∧ zs.length ≤ 1000000 ∧ ((A = none ∧ zs = []) ∨ ∃ g, A = some ⟨g, 0, none⟩ ∧ base ≤ g ∧ g < w.heap.size ∧ zs.length ≤ c ∧ Holds (Value.int .i64) w g 0 zs.toArray)
theorem HN.of_row {w : World} {base : Nat} {v : Value} {zs : List Int} (h : RN w base v zs) (hn : zs.length ≤ 1000000) : HN w base v zs := by
  obtain ⟨A, c, rfl⟩ := Kd.R_slice h
  obtain ⟨h0, inner, ho, hr⟩ := h
  rcases ho.2 with ⟨h1, h2⟩ | ⟨g, cap, cur, h1, hg, hh, hc, hm, hs, ht⟩
  · injection h1 with h1 h3 h4
    exact ⟨A, c, rfl, hn, .inl ⟨h1, List.length_eq_zero_iff.1 h2⟩⟩
  · injection h1 with h1 h3 h4
    subst h4
    refine ⟨A, c, rfl, hn, .inr ⟨g, h1, hg, blk_lt hh, hc, fun j hj => ⟨?_, by rw [Nat.zero_add]; exact blk_frozen hh j⟩⟩⟩
    rw [Nat.zero_add, blk_cell hh j]
    have hj' : j < zs.length := by simpa using hj
    have h5 : (inner.drop (j * 1)).take 1 = [Value.int .i64 zs[j]] := hr.2 j _ (List.getElem?_eq_getElem hj')
    have hil : inner.length = zs.length * 1 := ho.1
    have h6 : inner[j]? = some (Value.int .i64 zs[j]) := by
      have : ((inner.drop (j * 1)).take 1)[0]? = some (Value.int .i64 zs[j]) := by rw [h5]; rfl
      simpa using this
    rw [← ht] at h6
    rw [List.getElem?_take] at h6
    split at h6
    · rw [show cur[j]? = cur.toList[j]? by simp]
      rw [h6]
      simp [hj']
    · cases h6
theorem HN.reads {w : World} {base : Nat} {v : Value} {zs : List Int} (h : HN w base v zs) : ∃ A c, v = .slice A zs.length c ∧ (A = none ∨ zs.length ≤ c) ∧ Kd.C (Kd.int .i64) w A zs.length zs := by
  obtain ⟨A, c, rfl, hn, h | ⟨g, rfl, hg, hl, hc, hH⟩⟩ := h
  · obtain ⟨rfl, rfl⟩ := h
    exact ⟨none, c, rfl, .inl rfl, rfl, by simp, fun h => absurd h (by simp)⟩
  · refine ⟨_, c, rfl, .inr hc, rfl, by omega, fun _ => ⟨_, rfl, fun j p hj => ⟨[.int .i64 p], rfl, rfl, fun i u hu => ?_⟩⟩⟩
    obtain ⟨hj1, hj2⟩ := List.getElem?_eq_some_iff.1 hj
    rcases i with _ | i
    · simp at hu
      subst hu
      have := (hH j (by simpa using hj1)).1
      show w.cell? (Addr.add ⟨g, 0, none⟩ (j * 1 + 0)) = _
      rw [show Addr.add ⟨g, 0, none⟩ (j * 1 + 0) = ⟨g, 0 + j, none⟩ from by simp [Addr.add, eq_comm], this]
      simp [hj1, ← hj2]
    · simp at hu
theorem below_putRow {w : World} {base g n off : Nat} {d : Array Int} (hg : base ≤ g) : Below base w (putRow (Value.int .i64) (Sort.ahead w n) g off d) := by
  refine ⟨rfl, rfl, rfl, by simp, fun k hk => ?_⟩
  show (Array.modify _ _ _)[k]? = _
  rw [Array.getElem?_modify, if_neg (by omega)]
  rfl
theorem below_grow {w w1 : World} {base : Nat} (h : Below base w w1) (hb : base ≤ w1.heap.size) (os : Array Obj) : Below base w (grow w1 os) := by
  refine ⟨h.os, h.tape, h.output, by simp [grow]; exact Nat.le_trans h.size (Nat.le_add_right _ _), fun k hk => ?_⟩
  show (w1.heap ++ os)[k]? = _
  rw [Array.getElem?_append_left (by omega)]
  exact h.block k hk
def srt (xs : List Int) : List Int := xs.mergeSort fun x y => decide (x ≤ y)
theorem srt_length (xs : List Int) : (srt xs).length = xs.length := List.length_mergeSort xs
theorem holds_grow {w : World} {g : Nat} {d : Array Int} (h : Holds (Value.int .i64) w g 0 d) (hg : g < w.heap.size) (os : Array Obj) : Holds (Value.int .i64) (grow w os) g 0 d := by
  have hh : (grow w os).heap[g]? = w.heap[g]? := by
    show (w.heap ++ os)[g]? = _
    rw [Array.getElem?_append_left hg]
  exact fun j hj => ⟨(World.cell?_of_block (w := w) hh).trans (h j hj).1, (World.frozen?_of_block (w := w) hh).trans (h j hj).2⟩
theorem sort_calls (w : World) (base : Nat) (v : Value) (zs : List Int) (h : HN w base v zs) (hb : base ≤ w.heap.size) :
    Calls Try.prog 29 #[v] w fun e w' => e = .returned (.tuple #[]) ∧ HN w' base v (srt zs) ∧ Below base w w' := by
  obtain ⟨A, c, rfl, hn, h | ⟨g, rfl, hg, hl, hc, hH⟩⟩ := h
  · obtain ⟨rfl, rfl⟩ := h
    refine (AnyM.slices_Sort_int_none Try.sort29 none c w).mono fun e w' ⟨he, hw⟩ => ?_
    subst hw
    exact ⟨he, ⟨none, c, by rw [srt_length], by rw [srt_length]; exact hn, .inl ⟨rfl, by simp [srt]⟩⟩, Below.refl _ _⟩
  · refine (AnyM.slices_Sort_int Try.sort29 g 0 c zs w hH hl (by omega)).mono fun e w' ⟨he, n, os, hw⟩ => ?_
    subst hw
    have hH1 : Holds (Value.int .i64) (putRow (Value.int .i64) (Sort.ahead w n) g 0 (srt zs).toArray) g 0 (srt zs).toArray :=
      holds_putRow _ _ _ _ zs.toArray _ (holds_ahead _ _ n _ _ _ hH) (by simp [srt_length])
    have hsz : (putRow (Value.int .i64) (Sort.ahead w n) g 0 (srt zs).toArray).heap.size = w.heap.size := by simp
    refine ⟨he, ⟨_, c, by rw [srt_length], by rw [srt_length]; exact hn, .inr ⟨g, rfl, hg, ?_, by rw [srt_length]; exact hc, holds_grow hH1 (by rw [hsz]; exact hl) os⟩⟩, below_grow (below_putRow hg) (Nat.le_trans hb (Nat.le_of_eq hsz.symm)) os⟩
    show g < (Array.append _ _).size
    have : (putRow (Value.int .i64) (Sort.ahead w n) g 0 (srt zs).toArray).heap.size ≤ (grow (putRow (Value.int .i64) (Sort.ahead w n) g 0 (srt zs).toArray) os).heap.size := by simp [grow]
    exact Nat.lt_of_lt_of_le (by rw [hsz]; exact hl) this
theorem compact_length_le (zs : List Int) : (Lib.compact zs).length ≤ zs.length := by
  unfold Lib.compact Lib.compactUpTo
  rw [List.length_map]
  exact Nat.le_trans (List.length_filter_le _ _) (by simp)
theorem compact_calls (w : World) (base : Nat) (v : Value) (zs : List Int) (h : HN w base v zs) :
    Calls Try.prog 30 #[v] w fun e w' => ∃ v', e = .returned v' ∧ HN w' base v' (Lib.compact zs) ∧ Below base w w' := by
  have hcl := compact_length_le zs
  obtain ⟨A, c, rfl, hn, h | ⟨g, rfl, hg, hl, hc, hH⟩⟩ := h
  · obtain ⟨rfl, rfl⟩ := h
    refine (AnyG.slices_Compact_int_empty Try.compact30 none c w).mono fun e w' ⟨he, hw⟩ => ?_
    subst hw
    exact ⟨_, he, ⟨none, c, rfl, by simp [Lib.compact, Lib.compactUpTo], .inl ⟨rfl, rfl⟩⟩, Below.refl _ _⟩
  · refine (AnyG.slices_Compact_int Try.compact30 g 0 c zs w hH (by omega) hc).mono fun e w' ⟨he, n, hw⟩ => ?_
    subst hw
    have hH1 : Holds (Value.int .i64) (putRow (Value.int .i64) (Sort.ahead w n) g 0 (Lib.compact zs ++ List.replicate (zs.length - (Lib.compact zs).length) 0).toArray) g 0 (Lib.compact zs ++ List.replicate (zs.length - (Lib.compact zs).length) 0).toArray :=
      holds_putRow _ _ _ _ zs.toArray _ (holds_ahead _ _ n _ _ _ hH) (by simp; omega)
    refine ⟨_, he, ⟨_, c, rfl, by omega, .inr ⟨g, rfl, hg, by simpa using hl, by omega, fun j hj => ?_⟩⟩, below_putRow hg⟩
    have hj' : j < (Lib.compact zs).length := by simpa using hj
    obtain ⟨h1, h2⟩ := hH1 j (by simp; omega)
    refine ⟨h1.trans ?_, h2⟩
    congr 2
    simp [hj']
    rw [List.getElem?_append_left hj']
    simp [hj']
/-! ### Overlap, Stab -/
def ovlL (p : S28) (Q : Tr S30) : List Int := Lib.compact (srt (ovl p Q))
abbrev OvPost (w : World) (l : List Int) : Ending → World → Prop := fun e w' => ∃ v, e = .returned v ∧ HN w' w.heap.size v l ∧ Below w.heap.size w w'
theorem HN.move {w w' : World} {base : Nat} {v : Value} {zs : List Int} (h : HN w base v zs) (hb : Below w.heap.size w w') : HN w' base v zs := by
  obtain ⟨A, c, rfl, hn, h | ⟨g, rfl, hg, hl, hc, hH⟩⟩ := h
  · exact ⟨A, c, rfl, hn, .inl h⟩
  · refine ⟨_, c, rfl, hn, .inr ⟨g, rfl, hg, Nat.lt_of_lt_of_le hl hb.size, hc, fun j hj => ⟨(World.cell?_of_block (w := w) (hb.block g hl)).trans (hH j hj).1, (World.frozen?_of_block (w := w) (hb.block g hl)).trans (hH j hj).2⟩⟩⟩
theorem HN.lower {w : World} {base base' : Nat} {v : Value} {zs : List Int} (h : HN w base v zs) (hb : base' ≤ base) : HN w base' v zs := by
  obtain ⟨A, c, rfl, hn, h | ⟨g, rfl, hg, hl, hc, hH⟩⟩ := h
  · exact ⟨A, c, rfl, hn, .inl h⟩
  · exact ⟨_, c, rfl, hn, .inr ⟨g, rfl, Nat.le_trans hb hg, hl, hc, hH⟩⟩
theorem HN.nil (w : World) (base c : Nat) : HN w base (.slice none 0 c) [] := ⟨none, c, rfl, by simp, .inl ⟨rfl, rfl⟩⟩
set_option maxHeartbeats 1000000 in
set_option maxRecDepth 100000 in
theorem overlap_bad (w : World) (t : Nat) (p : S28) (hv : vldB p = false) :
    Calls Try.prog 12 #[.pointer (some ⟨t, 0, none⟩), .agg #[.int .i64 p.f0, .int .i64 p.f1]] w (OvPost w []) := by
  obtain ⟨wb, hwb⟩ : ∃ wb, wb = w.alloc (.cells #[.int .i64 p.f0, .int .i64 p.f1] 28) := ⟨_, rfl⟩
  have hW : Below w.heap.size w wb := by rw [hwb]; exact below_alloc (Below.refl _ _) _
  have HV := Aside0.mk (period_Valid.calls p.f0 p.f1 _ wb (valid_f p))
  rw [hv] at HV
  have HW := Aside0.mk hW
  have HWB := Aside0.mk hwb
  have hu28 := Try.underlying28
  clear hv hW hwb
  go_enter Try.func12, Try.ntmps12
  go_wp2_with (go_at_call 25; rw [← HWB.out]; refine HV.out.mono ?_; rintro e w1 ⟨rfl, hB⟩; have HB := Aside0.mk hB; clear hB)
  go_ret
  exact ⟨_, rfl, HN.nil _ _ _, below_then HW.out HW.out.size HB.out⟩
set_option maxHeartbeats 1000000 in
set_option maxRecDepth 100000 in
theorem overlap_nilT (w : World) (p : S28) :
    Calls Try.prog 12 #[.pointer none, .agg #[.int .i64 p.f0, .int .i64 p.f1]] w (OvPost w []) := by
  have hu28 := Try.underlying28
  go_enter Try.func12, Try.ntmps12
  go_wp2
  go_ret
  exact ⟨_, rfl, HN.nil _ _ _, below_alloc (Below.refl _ _) _⟩
set_option maxHeartbeats 1000000 in
set_option maxRecDepth 100000 in
theorem overlap_good (w : World) (S : Nat → Prop) (t : Nat) (Q : Tr S30) (n : Nat) (p : S28) (h : TreeAt w S t Q n) (hn : Q.list.length ≤ 1000000) (hv : vldB p = true) :
    Calls Try.prog 12 #[.pointer (some ⟨t, 0, none⟩), .agg #[.int .i64 p.f0, .int .i64 p.f1]] w (OvPost w (ovlL p Q)) := by
  obtain ⟨wb, hwb⟩ : ∃ wb, wb = w.alloc (.cells #[.int .i64 p.f0, .int .i64 p.f1] 28) := ⟨_, rfl⟩
  have hW : Below w.heap.size w wb := by rw [hwb]; exact below_alloc (Below.refl _ _) _
  have hg : wb.heap[w.heap.size]? = some (.cells #[.int .i64 p.f0, .int .i64 p.f1] 28 (0, 0)) := by rw [hwb]; exact blk_new w _
  have HV := Aside0.mk (period_Valid.calls p.f0 p.f1 _ wb (valid_f p))
  rw [hv] at HV
  obtain ⟨T, h1, h2, h3, h4, h5, h6, h7, h8⟩ := h
  obtain ⟨v, hvp⟩ := ptr_pointer T
  have HVP := Aside0.mk hvp
  have hll : T.list.length = Q.list.length := by rw [← h1, Tr.list_map]; simp
  have HO := Aside0.mk (fun (w' : World) (hB : Below w.heap.size w w') => overlap_calls p w.heap.size T (fun k hk => h8 k (h6 k hk)) w' (.slice none 0 0) [] (h2.below hB) hB.size (Kd.R_nil _ _ _ _ _) (by rw [hll]; simpa using hn))
  rw [hvp, h1] at HO
  have HOL := Aside0.mk (Nat.le_trans (ovl_length p Q) hn)
  have HSS := Aside0.mk (fun (w' : World) (hB : Below wb.heap.size wb w') => (show w'.cell? ⟨t, 0, none⟩ = some (.pointer v) ∧ w'.cell? ⟨w.heap.size, 0, none⟩ = some (.int .i64 p.f0) ∧ w'.cell? ⟨w.heap.size, 1, none⟩ = some (.int .i64 p.f1) from
    ⟨(blk_cell (((below_then hW hW.size hB).block t (blk_lt h4)).trans h4) 0).trans (congrArg some hvp), (blk_cell ((hB.block _ (blk_lt hg)).trans hg) 0).trans rfl, (blk_cell ((hB.block _ (blk_lt hg)).trans hg) 1).trans rfl⟩))
  have HTO := Aside0.mk (And.intro h4 (And.intro (fun k (hk : k = t) => hk ▸ blk_lt h4) hvp))
  have HG := Aside0.mk hg
  have HW := Aside0.mk hW
  have HWB := Aside0.mk hwb
  have hu28 := Try.underlying28
  have hu57 := Try.underlying57
  clear hv hW hwb hg hvp h1 h2 h3 h4 h5 h6 h7 h8 hll hn
  go_enter Try.func12, Try.ntmps12
  go_wp2_with (go_at_call 25; rw [← HWB.out]; refine HV.out.mono ?_; rintro e w1 ⟨rfl, hB⟩; have HB := Aside0.mk hB; clear hB)
  have HB1 := Aside0.mk (below_drew HB.out)
  have HW1 := Aside0.mk (below_then HW.out HW.out.size HB1.out)
  have hss := HSS.out w1.drew HB1.out
  refine start_ (n := 7) (S := fun w' => (w'.cell? ⟨t, 0, none⟩ = some (.pointer v) ∧ w'.cell? ⟨w.heap.size, 0, none⟩ = some (.int .i64 p.f0) ∧ w'.cell? ⟨w.heap.size, 1, none⟩ = some (.int .i64 p.f1))) (ds := []) #[false, false, false, false, false, false, false] (by kernel_rfl) rfl rfl ?_ (fun hHeld => ?_)
  · exact hss
  refine pure_ (i := 0) (N := some 13) (v := ?_) (a' := ?_) #[true, false, false, false, false, false, false] rfl rfl (by kernel_rfl) (fun _ _ _ h => h) (Or.inl ⟨by rfl, ?_⟩) ?_ ?_
  rotate_left
  · intro w'
    go_simp
    with_reducible rfl
  rotate_left
  · simp only [Act.put, List.setIfInBounds_toArray, List.set_cons_zero, List.set_cons_succ, i64_w, i32_w]
    rfl
  refine pure_ (i := 1) (N := some 14) (v := ?_) (a' := ?_) #[true, true, false, false, false, false, false] rfl rfl (by kernel_rfl) (fun _ _ _ h => h) (Or.inl ⟨by rfl, ?_⟩) ?_ ?_
  rotate_left
  · intro w'
    go_simp
    with_reducible rfl
  rotate_left
  · simp only [Act.put, List.setIfInBounds_toArray, List.set_cons_zero, List.set_cons_succ, i64_w, i32_w]
    rfl
  refine pure_ (i := 2) (N := some 15) (v := ?_) (a' := ?_) #[true, true, true, false, false, false, false] rfl rfl (by kernel_rfl) (fun _ _ _ h => h) (Or.inl ⟨by rfl, ?_⟩) ?_ ?_
  rotate_left
  · intro w'
    go_simp
    with_reducible rfl
  rotate_left
  · simp only [Act.put, List.setIfInBounds_toArray, List.set_cons_zero, List.set_cons_succ, i64_w, i32_w]
    rfl
  refine take_ (i := 3) (N := some 16) (v := ?_) (a' := ?_) #[true, true, true, true, false, false, false] rfl rfl (by kernel_rfl) (fun _ _ _ h => h) (Or.inl ⟨by rfl, ?_⟩) hHeld ?_ ?_
  rotate_left
  · rintro w' ⟨s0, s1, s2⟩
    go_simp
    with_reducible rfl
  rotate_left
  · simp only [Act.put, List.setIfInBounds_toArray, List.set_cons_zero, List.set_cons_succ, i64_w, i32_w]
    rfl
  refine take_ (i := 4) (N := some 17) (v := ?_) (a' := ?_) #[true, true, true, true, true, false, false] rfl rfl (by kernel_rfl) (fun _ _ _ h => h) (Or.inl ⟨by rfl, ?_⟩) hHeld ?_ ?_
  rotate_left
  · rintro w' ⟨s0, s1, s2⟩
    go_simp
    with_reducible rfl
  rotate_left
  · simp only [Act.put, List.setIfInBounds_toArray, List.set_cons_zero, List.set_cons_succ, i64_w, i32_w]
    rfl
  clear hss
  refine one_ (i := 5) (N := some 18) #[true, true, true, true, true, true, false] rfl rfl (by kernel_rfl) (by decide) (fun K hK => ?_)
  refine goes_ Try.func28 (by kernel_rfl) rfl #[.pointer v, .agg #[.int .i64 p.f0, .int .i64 p.f1], .slice none 0 0] (by rfl) rfl rfl (by (try simp only [List.map_toArray, List.map_cons, List.map_nil]); first | done | rfl) ?_
  refine (HO.out w1.drew HW1.out).mono ?_
  rintro e w2 ⟨v2, rfl, hR, hG⟩
  have hBx : Below w1.heap.size w1.drew w2 := hG.below (Nat.le_refl _) (fun k hk => by simp [Value.ownBlock] at hk)
  have HB2 := Aside0.mk (below_then HB1.out (below_drew HB.out).size hBx)
  have HW2 := Aside0.mk (below_then HW1.out HW1.out.size hBx)
  rw [List.nil_append] at hR
  have HR := Aside0.mk (HN.of_row hR HOL.out)
  refine ⟨_, rfl, hK.out _ _ (HSS.out w2 HB2.out) (fun _ => ?_)⟩
  clear hK K hR hG hBx
  obtain ⟨A2, c2, he2, _, _⟩ := HR.out
  have HE2 := Aside0.mk he2
  rw [he2]
  clear he2
  refine norm_ (a' := ?_) ?_ ?_
  rotate_left
  · show Act.put _ (some 18) _ = _
    simp only [Act.put, List.setIfInBounds_toArray, List.set_cons_zero, List.set_cons_succ, i64_w, i32_w]
    rfl
  refine pure_ (i := 6) (N := some 5) (v := ?_) (a' := ?_) #[true, true, true, true, true, true, true] rfl rfl (by kernel_rfl) (fun _ _ _ h => h) (Or.inl ⟨by rfl, ?_⟩) ?_ ?_
  rotate_left
  · intro w'
    go_simp
    with_reducible rfl
  rotate_left
  · simp only [Act.put, List.setIfInBounds_toArray, List.set_cons_zero, List.set_cons_succ, i64_w, i32_w]
    rfl
  refine done_ (by kernel_rfl) ?_
  go_wp2_with (first
    | (go_at_call 29; rw [← HE2.out]; refine (sort_calls w2 w.heap.size v2 (ovl p Q) HR.out HW2.out.size).mono ?_; rintro e w3 ⟨rfl, hH, hB⟩; have HH3 := Aside0.mk hH; have HB3 := Aside0.mk (HW2.out.trans hB); clear hH hB)
    | (go_at_call 30; refine (compact_calls w3 w.heap.size v2 _ HH3.out).mono ?_; rintro e w4 ⟨v4, rfl, hH, hB⟩; have HH4 := Aside0.mk hH; have HB4 := Aside0.mk (HB3.out.trans hB); clear hH hB))
  go_ret
  exact ⟨_, rfl, HH4.out, HB4.out⟩
theorem overlapT_calls (w : World) (S : Nat → Prop) (t : Nat) (Q : Tr S30) (n : Nat) (p : S28) (h : TreeAt w S t Q n) (hn : Q.list.length ≤ 1000000) :
    Calls Try.prog 12 #[.pointer (some ⟨t, 0, none⟩), .agg #[.int .i64 p.f0, .int .i64 p.f1]] w (OvPost w (if vldB p = true then ovlL p Q else [])) := by
  cases hv : vldB p with
  | true => simpa using overlap_good w S t Q n p h hn hv
  | false => simpa using overlap_bad w t p hv
/-! Stab -/
def stabOk (at_ : Int) : Bool := decide (0 ≤ at_ ∧ at_ < 1099511627776)
theorem stab_nilT (w : World) (at_ : Int) : Calls Try.prog 14 #[.pointer none, .int .i64 at_] w (OvPost w []) := by
  by_cases h0 : at_ < 0
  · go_enter Try.func14, Try.ntmps14
    go_wp2
    go_ret
    exact ⟨_, rfl, HN.nil _ _ _, Below.refl _ _⟩
  · by_cases h1 : 1099511627776 ≤ at_
    · go_enter Try.func14, Try.ntmps14
      go_wp2
      go_ret
      exact ⟨_, rfl, HN.nil _ _ _, Below.refl _ _⟩
    · have hs : IntKind.i64.wrap (at_ + 1) = at_ + 1 := by rw [i64_w]; unfold wrap64; omega
      go_enter Try.func14, Try.ntmps14
      go_wp2_with (go_at_call 12; refine (overlap_nilT w ⟨at_, at_ + 1⟩).mono ?_; rintro e w1 ⟨v1, rfl, hH, hB⟩; have HH := Aside0.mk hH; have HB := Aside0.mk hB; clear hH hB)
      go_ret
      exact ⟨_, rfl, HH.out, HB.out⟩
theorem stab_calls (w : World) (S : Nat → Prop) (t : Nat) (Q : Tr S30) (n : Nat) (at_ : Int) (h : TreeAt w S t Q n) (hn : Q.list.length ≤ 1000000) :
    Calls Try.prog 14 #[.pointer (some ⟨t, 0, none⟩), .int .i64 at_] w (OvPost w (if stabOk at_ = true then ovlL ⟨at_, at_ + 1⟩ Q else [])) := by
  unfold stabOk
  by_cases h0 : at_ < 0
  · rw [if_neg (by simp; omega)]
    clear h hn
    go_enter Try.func14, Try.ntmps14
    go_wp2
    go_ret
    exact ⟨_, rfl, HN.nil _ _ _, Below.refl _ _⟩
  · by_cases h1 : 1099511627776 ≤ at_
    · rw [if_neg (by simp; omega)]
      clear h hn
      go_enter Try.func14, Try.ntmps14
      go_wp2
      go_ret
      exact ⟨_, rfl, HN.nil _ _ _, Below.refl _ _⟩
    · rw [if_pos (by simp; omega)]
      have HO := Aside0.mk (overlap_good w S t Q n ⟨at_, at_ + 1⟩ h hn (by simp [vldB]; omega))
      clear h hn
      go_enter Try.func14, Try.ntmps14
      go_wp2_with (go_at_call 12; refine HO.out.mono ?_; rintro e w1 ⟨v1, rfl, hH, hB⟩; have HH := Aside0.mk hH; have HB := Aside0.mk hB; clear hH hB)
      go_ret
      exact ⟨_, rfl, HH.out, HB.out⟩
end Go.Proofs.Ytdjfjmcnghfdkaa.My
