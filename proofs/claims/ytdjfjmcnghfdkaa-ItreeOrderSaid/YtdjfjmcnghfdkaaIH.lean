/- insert. -/
import Derived.Test.YtdjfjmcnghfdkaaIG
namespace Go.Proofs.Ytdjfjmcnghfdkaa.My
open Go Go.RowKit Go.Proofs.YtdjfjmcnghfdkaaW.PrintWords Go.Proofs.YtdjfjmcnghfdkaaW.PrintLast Go.Proofs.YtdjfjmcnghfdkaaW.PrintMore Go.Proofs.Ytdjfjmcnghfdkaa.PItreeActs
set_option linter.unusedVariables false
set_option linter.unusedSimpArgs false
theorem Tr.ht_bal {α : Type} (x : α) (l r : Tr α) : (Tr.bal x l r).ht ≤ 1 + max l.ht r.ht := by
  unfold Tr.bal
  split
  · rename_i hd
    match l with
    | .nil => simp [Tr.ht] at hd
    | .nd y a c =>
      by_cases hac : (Tr.nd y a c).lft.ht < (Tr.nd y a c).rgt.ht
      · rw [if_pos hac]
        match c with
        | .nil => simp [Tr.ht, Tr.lft, Tr.rgt] at hac
        | .nd z c1 c2 => simp only [Tr.dnT, Tr.dn, Tr.up, Tr.ht, Tr.lft, Tr.rgt] at *; omega
      · rw [if_neg hac]
        simp only [Tr.up, Tr.ht, Tr.lft, Tr.rgt] at *; omega
  · split
    · rename_i hd
      match r with
      | .nil => simp [Tr.ht] at hd
      | .nd y c a =>
        by_cases hac : (Tr.nd y c a).rgt.ht < (Tr.nd y c a).lft.ht
        · rw [if_pos hac]
          match c with
          | .nil => simp [Tr.ht, Tr.lft, Tr.rgt] at hac
          | .nd z c1 c2 => simp only [Tr.upT, Tr.dn, Tr.up, Tr.ht, Tr.lft, Tr.rgt] at *; omega
        · rw [if_neg hac]
          simp only [Tr.dn, Tr.ht, Tr.lft, Tr.rgt] at *; omega
    · simp only [Tr.ht]; omega
def ins : Tr S30 → S30 → Tr S30
  | .nil, x => .bal x .nil .nil
  | .nd y l r, x => if 0 < cmp y x then .bal y (ins l x) r else .bal y l (ins r x)
theorem ht_ins (t : Tr S30) (x : S30) : (ins t x).ht ≤ t.ht + 1 := by
  induction t with
  | nil => simp [ins, Tr.bal, Tr.ht]
  | nd y l r hl hr =>
    unfold ins
    have h1 := Tr.ht_bal y (ins l x) r
    have h2 := Tr.ht_bal y l (ins r x)
    split <;> simp only [Tr.ht] <;> omega
theorem blks_bal (x : Nat × S30) (l r : BT) : (Tr.bal x l r).blks = (Tr.nd x l r).blks := by unfold Tr.blks; rw [Tr.list_bal]; rfl
theorem sk_bal (x : Nat × S30) (l r : BT) : (Tr.bal x l r).sk = Tr.bal x.2 l.sk r.sk := Tr.map_bal _ _ _ _
/-- A tree was changed: T became T'. -/
def Chg (w w' : World) (T T' : BT) : Prop := T'.At w' ∧ T'.blks.Nodup ∧ Wr w w' (fun k => k ∈ T.blks) ∧ (∀ k ∈ T'.blks, k ∈ T.blks ∨ w.heap.size ≤ k)
abbrev InsPost (w : World) (T : BT) (Q : Tr S30) : Ending → World → Prop := fun e w' => ∃ T' : BT, e = .returned T'.ptr ∧ T'.sk = Q ∧ Chg w w' T T'
theorem bal_after {w w' : World} {x : Nat × S30} {l r T : BT} (h : BalPost w (Tr.bal x l r) (.nd x l r) (.returned (Tr.bal x l r).ptr) w') : (Tr.bal x l r).At w' ∧ Wr w w' (fun k => k ∈ (Tr.nd x l r).blks) := h.2
theorem nodup_nd_mk {x : Nat × S30} {l r : BT} (h1 : l.blks.Nodup) (h2 : r.blks.Nodup) (h3 : x.1 ∉ l.blks) (h4 : x.1 ∉ r.blks) (h5 : ∀ k ∈ l.blks, k ∉ r.blks) : (Tr.nd x l r).blks.Nodup := by
  rw [Tr.blks_nd, List.nodup_append]
  refine ⟨h1, List.nodup_cons.2 ⟨h4, h2⟩, fun a ha b hb e => ?_⟩
  rcases List.mem_cons.1 hb with rfl | hb
  · exact h3 (e ▸ ha)
  · exact h5 a ha (e ▸ hb)
set_option maxHeartbeats 1000000 in
set_option maxRecDepth 100000 in
theorem insert_nil (x : S30) (w : World) : Calls Try.prog 27 #[.pointer none, aggI x] w (InsPost w .nil (ins .nil x)) := by
  obtain ⟨wb, hwb⟩ : ∃ wb, wb = (w.alloc (boxI x)).alloc (.cells (nodeC x (.pointer none) (.pointer none) 0 0) 69) := ⟨_, rfl⟩
  have hW : Below w.heap.size w wb := by rw [hwb]; exact below_alloc (below_alloc (Below.refl _ _) _) _
  have hsz : (w.alloc (boxI x)).heap.size = w.heap.size + 1 := by simp [World.alloc_eq]
  have hb : wb.heap[w.heap.size + 1]? = some (.cells (nodeC x (.pointer none) (.pointer none) 0 0) 69 (0, 0)) := by
    have := blk_new (w.alloc (boxI x)) (.cells (nodeC x (.pointer none) (.pointer none) 0 0) 69)
    rw [hsz] at this
    rw [hwb]; exact this
  have HB := Aside0.mk (balance_calls (w.heap.size + 1) x .nil .nil wb ⟨⟨0, 0, hb⟩, trivial, trivial⟩ (by simp [Tr.blks, Tr.list]) (by simp) (by simp))
  have HW := Aside0.mk hW
  have HWB := Aside0.mk hwb
  have hu30 := Try.underlying30
  have hu69 := Try.underlying69
  clear hW hsz hb hwb
  show Calls Try.prog 27 #[.pointer none, .agg #[.int .i64 x.f0.f0, .int .i64 x.f0.f1, .int .i64 x.f1]] w _
  go_enter Try.func27, Try.ntmps27
  go_wp2_with (go_at_call 39; rw [show (w.alloc (.cells #[.int .i64 x.f0.f0, .int .i64 x.f0.f1, .int .i64 x.f1] 30)).alloc (.cells #[.int .i64 x.f0.f0, .int .i64 x.f0.f1, .int .i64 x.f1, .pointer none, .pointer none, .int .i64 0, .int .i64 0] 69) = wb from HWB.out.symm]; refine HB.out.mono ?_; rintro e w1 ⟨rfl, hT, hw⟩; have HE := Aside0.mk (And.intro hT hw); clear hT hw)
  go_ret
  refine ⟨Tr.bal (w.heap.size + 1, x) .nil .nil, rfl, rfl, HE.out.1, by simp [Tr.bal, Tr.ht, Tr.blks, Tr.list], ?_, fun k hk => .inr (by simp [Tr.bal, Tr.ht, Tr.blks, Tr.list] at hk; omega)⟩
  exact (Wr.of_below _ HW.out).trans HE.out.2 (fun k hk => .inr (by simp [Tr.blks, Tr.list] at hk; omega))
set_option maxHeartbeats 1000000 in
set_option maxRecDepth 100000 in
theorem insert_l (b : Nat) (y : S30) (l r : BT) (x : S30) (w : World) (h : (Tr.nd (b, y) l r).At w) (hn : (Tr.nd (b, y) l r).blks.Nodup) (hh : (Tr.nd (b, y) l r).ht ≤ 600000) (hc : 0 < cmp y x)
    (ih : ∀ w : World, l.At w → Calls Try.prog 27 #[l.ptr, aggI x] w (InsPost w l (ins l.sk x))) :
    Calls Try.prog 27 #[.pointer (some ⟨b, 0, none⟩), aggI x] w (InsPost w (.nd (b, y) l r) (Tr.bal y (ins l.sk x) r.sk)) := by
  obtain ⟨n1, n2, n3, n4, n5⟩ := blks_nodup_nd hn
  obtain ⟨wb, hwb⟩ : ∃ wb, wb = w.alloc (boxI x) := ⟨_, rfl⟩
  have hW : Below w.heap.size w wb := by rw [hwb]; exact below_alloc (Below.refl _ _) _
  have hT1 := h.below hW
  have hg1 : wb.heap[w.heap.size]? = some (boxI x) := by rw [hwb]; exact blk_new w _
  have HC := Aside0.mk (ncompare_calls b y x _ _ _ _ wb hT1.1)
  have HS := Aside0.mk (fun (w' : World) (hB : Below wb.heap.size wb w') => And.intro (h.below (below_then hW hW.size hB)) ((hB.block _ (blk_lt hg1)).trans hg1))
  obtain ⟨c, hcc⟩ : ∃ c, c = cmp y x := ⟨_, rfl⟩
  rw [← hcc] at hc HC
  have hd : decide (0 < c) = true := by simpa using hc
  have hu30 := Try.underlying30
  have hu69 := Try.underlying69
  obtain ⟨vs, hvs⟩ := ptr_pointer l
  have HVS := Aside0.mk hvs
  have IH := Aside0.mk ih
  rw [hvs] at IH
  have HW := Aside0.mk hW
  have HWB := Aside0.mk hwb
  have HN := Aside0.mk (And.intro n1 (And.intro n2 (And.intro n3 (And.intro n4 n5))))
  have HL := Aside0.mk h.lt
  have HH := Aside0.mk hh
  clear h hn hh hc ih n1 n2 n3 n4 n5 hW hwb hT1 hg1 hcc hvs
  show Calls Try.prog 27 #[.pointer (some ⟨b, 0, none⟩), .agg #[.int .i64 x.f0.f0, .int .i64 x.f0.f1, .int .i64 x.f1]] w _
  go_enter Try.func27, Try.ntmps27
  go_wp2_with (go_at_call 38; rw [show w.alloc (.cells #[.int .i64 x.f0.f0, .int .i64 x.f0.f1, .int .i64 x.f1] 30) = wb from HWB.out.symm]; refine HC.out.mono ?_; rintro e w1 ⟨rfl, hB⟩; have HS1 := Aside0.mk (HS.out w1 hB); have HW1 := Aside0.mk (below_then HW.out HW.out.size hB); clear hB HS HC)
  have HSS := Aside0.mk (show w1.drew.cell? ⟨b, 3, none⟩ = some (.pointer vs) ∧ w1.drew.cell? ⟨w.heap.size, 0, none⟩ = some (.int .i64 x.f0.f0) ∧ w1.drew.cell? ⟨w.heap.size, 1, none⟩ = some (.int .i64 x.f0.f1) ∧ w1.drew.cell? ⟨w.heap.size, 2, none⟩ = some (.int .i64 x.f1) from
    ⟨(blk_cell HS1.out.1.1 3).trans (congrArg some HVS.out), (blk_cell HS1.out.2 0).trans rfl, (blk_cell HS1.out.2 1).trans rfl, (blk_cell HS1.out.2 2).trans rfl⟩)
  refine start_ (n := 10) (S := fun w' => (w'.cell? ⟨b, 3, none⟩ = some (.pointer vs) ∧ w'.cell? ⟨w.heap.size, 0, none⟩ = some (.int .i64 x.f0.f0) ∧ w'.cell? ⟨w.heap.size, 1, none⟩ = some (.int .i64 x.f0.f1) ∧ w'.cell? ⟨w.heap.size, 2, none⟩ = some (.int .i64 x.f1))) (ds := [9]) #[false, false, false, false, false, false, false, false, false, false] (by kernel_rfl) rfl rfl ?_ (fun hHeld => ?_)
  · exact HSS.out
  refine pure_ (i := 0) (N := some 14) (v := ?_) (a' := ?_) #[true, false, false, false, false, false, false, false, false, false] rfl rfl (by kernel_rfl) (fun _ _ _ h => h) (Or.inl ⟨by rfl, ?_⟩) ?_ ?_
  rotate_left
  · intro w'
    go_simp
    with_reducible rfl
  rotate_left
  · simp only [Act.put, List.setIfInBounds_toArray, List.set_cons_zero, List.set_cons_succ, i64_w, i32_w]
    rfl
  refine pure_ (i := 1) (N := some 15) (v := ?_) (a' := ?_) #[true, true, false, false, false, false, false, false, false, false] rfl rfl (by kernel_rfl) (fun _ _ _ h => h) (Or.inl ⟨by rfl, ?_⟩) ?_ ?_
  rotate_left
  · intro w'
    go_simp
    with_reducible rfl
  rotate_left
  · simp only [Act.put, List.setIfInBounds_toArray, List.set_cons_zero, List.set_cons_succ, i64_w, i32_w]
    rfl
  refine pure_ (i := 2) (N := some 16) (v := ?_) (a' := ?_) #[true, true, true, false, false, false, false, false, false, false] rfl rfl (by kernel_rfl) (fun _ _ _ h => h) (Or.inl ⟨by rfl, ?_⟩) ?_ ?_
  rotate_left
  · intro w'
    go_simp
    with_reducible rfl
  rotate_left
  · simp only [Act.put, List.setIfInBounds_toArray, List.set_cons_zero, List.set_cons_succ, i64_w, i32_w]
    rfl
  refine pure_ (i := 3) (N := some 17) (v := ?_) (a' := ?_) #[true, true, true, true, false, false, false, false, false, false] rfl rfl (by kernel_rfl) (fun _ _ _ h => h) (Or.inl ⟨by rfl, ?_⟩) ?_ ?_
  rotate_left
  · intro w'
    go_simp
    with_reducible rfl
  rotate_left
  · simp only [Act.put, List.setIfInBounds_toArray, List.set_cons_zero, List.set_cons_succ, i64_w, i32_w]
    rfl
  refine take_ (i := 4) (N := some 18) (v := ?_) (a' := ?_) #[true, true, true, true, true, false, false, false, false, false] rfl rfl (by kernel_rfl) (fun _ _ _ h => h) (Or.inl ⟨by rfl, ?_⟩) hHeld ?_ ?_
  rotate_left
  · rintro w' ⟨s0, s1, s2, s3⟩
    go_simp
    with_reducible rfl
  rotate_left
  · simp only [Act.put, List.setIfInBounds_toArray, List.set_cons_zero, List.set_cons_succ, i64_w, i32_w]
    rfl
  refine take_ (i := 5) (N := some 19) (v := ?_) (a' := ?_) #[true, true, true, true, true, true, false, false, false, false] rfl rfl (by kernel_rfl) (fun _ _ _ h => h) (Or.inl ⟨by rfl, ?_⟩) hHeld ?_ ?_
  rotate_left
  · rintro w' ⟨s0, s1, s2, s3⟩
    go_simp
    with_reducible rfl
  rotate_left
  · simp only [Act.put, List.setIfInBounds_toArray, List.set_cons_zero, List.set_cons_succ, i64_w, i32_w]
    rfl
  refine one_ (i := 6) (N := some 20) #[true, true, true, true, true, true, true, false, false, false] rfl rfl (by kernel_rfl) (by decide) (fun K hK => ?_)
  refine goes_ Try.func27 (by kernel_rfl) rfl #[.pointer vs, .agg #[.int .i64 x.f0.f0, .int .i64 x.f0.f1, .int .i64 x.f1]] (by rfl) rfl rfl (by (try simp only [List.map_toArray, List.map_cons, List.map_nil]); first | done | rfl) ?_
  refine (IH.out w1.drew (HS1.out.1.2.1.drewN 1)).mono ?_
  rintro e w2 ⟨T1, rfl, hsk, hA, hN, hWr, hbl⟩
  obtain ⟨v1, hv1⟩ := ptr_pointer T1
  have HV1 := Aside0.mk hv1
  rw [hv1]
  have hb2 : w2.heap[b]? = some (.cells (nodeC y l.ptr r.ptr ((Tr.nd (b, y) l r).ht : Nat) (Tr.nd (b, y) l r).sk.en) 69 (0, 0)) := hWr.keep HS1.out.1.1 HN.out.2.2.1
  have hg2 : w2.heap[w.heap.size]? = some (boxI x) := hWr.keep HS1.out.2 (fun hk => Nat.lt_irrefl _ (HL.out _ (by rw [Tr.blks_nd]; simp [hk])))
  have ho2 : r.At w2 := (HS1.out.1.2.2.drewN 1).wr hWr (fun k hk hk' => HN.out.2.2.2.2 k hk' hk)
  have HB2 := Aside0.mk hb2
  have HO2 := Aside0.mk ho2
  have HA := Aside0.mk (And.intro hA (And.intro hN (And.intro hWr hbl)))
  have HK := Aside0.mk hsk
  refine ⟨_, rfl, hK.out _ _ ⟨(blk_cell hb2 3).trans (congrArg some HVS.out), (blk_cell hg2 0).trans rfl, (blk_cell hg2 1).trans rfl, (blk_cell hg2 2).trans rfl⟩ (fun _ => ?_)⟩
  clear hK K hv1 hb2 hg2 ho2 hA hN hWr hbl hsk
  refine norm_ (a' := ?_) ?_ ?_
  rotate_left
  · show Act.put _ (some 20) _ = _
    simp only [Act.put, List.setIfInBounds_toArray, List.set_cons_zero, List.set_cons_succ, i64_w, i32_w]
    rfl
  refine pure_ (i := 7) (N := some 21) (v := ?_) (a' := ?_) #[true, true, true, true, true, true, true, true, false, false] rfl rfl (by kernel_rfl) (fun _ _ _ h => h) (Or.inl ⟨by rfl, ?_⟩) ?_ ?_
  rotate_left
  · intro w'
    go_simp
    with_reducible rfl
  rotate_left
  · simp only [Act.put, List.setIfInBounds_toArray, List.set_cons_zero, List.set_cons_succ, i64_w, i32_w]
    rfl
  refine pure_ (i := 8) (N := some 22) (v := ?_) (a' := ?_) #[true, true, true, true, true, true, true, true, true, false] rfl rfl (by kernel_rfl) (fun _ _ _ h => h) (Or.inl ⟨by rfl, ?_⟩) ?_ ?_
  rotate_left
  · intro w'
    go_simp
    with_reducible rfl
  rotate_left
  · simp only [Act.put, List.setIfInBounds_toArray, List.set_cons_zero, List.set_cons_succ, i64_w, i32_w]
    rfl
  refine last_ (i := 9) (N := none) #[true, true, true, true, true, true, true, true, true, true] rfl rfl (by kernel_rfl) (by decide) (fun K hK => ?_)
  have hcs : w2.cell? ⟨b, 3, none⟩ = some (.pointer vs) := (blk_cell HB2.out 3).trans (congrArg some HVS.out)
  have hfs := blk_frozen HB2.out 3
  refine skip_ (w1 := ?_) (by rfl) rfl ?_ ?_
  rotate_left
  · go_simp
    rfl
  refine hK.out _ _ ?_
  clear hK K hcs hfs
  refine done_ (by kernel_rfl) ?_
  have hb3 := blk_put (cs := nodeC y l.ptr r.ptr ((Tr.nd (b, y) l r).ht : Nat) (Tr.nd (b, y) l r).sk.en) (cs' := nodeC y T1.ptr r.ptr ((Tr.nd (b, y) l r).ht : Nat) (Tr.nd (b, y) l r).sk.en) HB2.out 3 (.pointer v1) (by rw [HV1.out]; rfl)
  obtain ⟨w3, hw3⟩ : ∃ w3, w3 = w2.setCell ⟨b, 3, none⟩ (.pointer v1) := ⟨_, rfl⟩
  rw [← hw3] at hb3 ⊢
  have hwr3 : Wr w2 w3 (fun k => k = b) := by rw [hw3]; exact (Wr.refl w2 (fun k => k = b)).set (S := fun k => k = b) rfl 3 _
  have hbl1 : b ∉ T1.blks := fun hk => by
    rcases HA.out.2.2.2 b hk with h | h
    · exact HN.out.2.2.1 h
    · have h' := HL.out b (by rw [Tr.blks_nd]; simp)
      have := HW1.out.size
      have : w1.drew.heap.size = w1.heap.size := rfl
      omega
  have hob : b ∉ r.blks := HN.out.2.2.2.1
  have ha3 : T1.At w3 := HA.out.1.wr hwr3 (fun k hk e => hbl1 (e ▸ hk))
  have ho3 : r.At w3 := HO2.out.wr hwr3 (fun k hk e => hob (e ▸ hk))
  have hdis : ∀ k ∈ T1.blks, k ∉ r.blks := fun k hk hk' => by
    rcases HA.out.2.2.2 k hk with h | h
    · exact HN.out.2.2.2.2 k h hk'
    · have h' := HL.out k (by rw [Tr.blks_nd]; simp [hk'])
      have := HW1.out.size
      have : w1.drew.heap.size = w1.heap.size := rfl
      omega
  have hn3 : (Tr.nd (b, y) T1 r).blks.Nodup := nodup_nd_mk HA.out.2.1 HN.out.2.1 hbl1 hob hdis
  have hht : T1.ht ≤ l.ht + 1 := by rw [← ht_sk T1, HK.out, ← ht_sk l]; exact ht_ins _ _
  have HBal := Aside0.mk (balance_calls b y T1 r w3 ⟨⟨_, _, hb3⟩, ha3, ho3⟩ hn3 (by have := HH.out; simp only [Tr.ht] at this; omega) (by have := HH.out; simp only [Tr.ht] at this; omega))
  have HW3 := Aside0.mk (show Wr w w3 (fun k => k ∈ (Tr.nd (b, y) l r).blks) from ((((Wr.of_below _ HW1.out).drewN 1).trans HA.out.2.2.1 (fun k hk => .inl (by rw [Tr.blks_nd]; simp [hk]))).trans hwr3 (fun k hk => .inl (by rw [Tr.blks_nd]; simp [hk]))))
  have HN3 := Aside0.mk hn3
  clear hb3 hwr3 hbl1 hob ha3 ho3 hdis hn3 hht hw3
  go_wp2_with (go_at_call 39; refine HBal.out.mono ?_; rintro e w5 ⟨rfl, hT, hw⟩; have HE := Aside0.mk (And.intro hT hw); clear hT hw)
  go_ret
  have hin : ∀ k ∈ (Tr.nd (b, y) T1 r).blks, k ∈ (Tr.nd (b, y) l r).blks ∨ w.heap.size ≤ k := fun k hk => by
    rw [Tr.blks_nd] at hk ⊢
    simp only [List.mem_append, List.mem_cons] at hk ⊢
    have hT1 : k ∈ T1.blks → k ∈ l.blks ∨ w.heap.size ≤ k := fun hk => by
      rcases HA.out.2.2.2 k hk with h | h
      · exact .inl h
      · have := HW1.out.size
        have : w1.drew.heap.size = w1.heap.size := rfl
        exact .inr (by omega)
    rcases hk with hk | hk | hk
    · rcases hT1 hk with h | h
      · exact .inl (.inl h)
      · exact .inr h
    · exact .inl (.inr (.inl hk))
    · exact .inl (.inr (.inr hk))
  refine ⟨Tr.bal (b, y) T1 r, rfl, by rw [sk_bal, HK.out], HE.out.1, by rw [blks_bal]; exact HN3.out, HW3.out.trans HE.out.2 hin, fun k hk => hin k (by rw [← blks_bal]; exact hk)⟩
set_option maxHeartbeats 1000000 in
set_option maxRecDepth 100000 in
theorem insert_r (b : Nat) (y : S30) (l r : BT) (x : S30) (w : World) (h : (Tr.nd (b, y) l r).At w) (hn : (Tr.nd (b, y) l r).blks.Nodup) (hh : (Tr.nd (b, y) l r).ht ≤ 600000) (hc : ¬ 0 < cmp y x)
    (ih : ∀ w : World, r.At w → Calls Try.prog 27 #[r.ptr, aggI x] w (InsPost w r (ins r.sk x))) :
    Calls Try.prog 27 #[.pointer (some ⟨b, 0, none⟩), aggI x] w (InsPost w (.nd (b, y) l r) (Tr.bal y l.sk (ins r.sk x))) := by
  obtain ⟨n1, n2, n3, n4, n5⟩ := blks_nodup_nd hn
  obtain ⟨wb, hwb⟩ : ∃ wb, wb = w.alloc (boxI x) := ⟨_, rfl⟩
  have hW : Below w.heap.size w wb := by rw [hwb]; exact below_alloc (Below.refl _ _) _
  have hT1 := h.below hW
  have hg1 : wb.heap[w.heap.size]? = some (boxI x) := by rw [hwb]; exact blk_new w _
  have HC := Aside0.mk (ncompare_calls b y x _ _ _ _ wb hT1.1)
  have HS := Aside0.mk (fun (w' : World) (hB : Below wb.heap.size wb w') => And.intro (h.below (below_then hW hW.size hB)) ((hB.block _ (blk_lt hg1)).trans hg1))
  obtain ⟨c, hcc⟩ : ∃ c, c = cmp y x := ⟨_, rfl⟩
  rw [← hcc] at hc HC
  have hd : decide (0 < c) = false := by simpa using hc
  have hu30 := Try.underlying30
  have hu69 := Try.underlying69
  obtain ⟨vs, hvs⟩ := ptr_pointer r
  have HVS := Aside0.mk hvs
  have IH := Aside0.mk ih
  rw [hvs] at IH
  have HW := Aside0.mk hW
  have HWB := Aside0.mk hwb
  have HN := Aside0.mk (And.intro n1 (And.intro n2 (And.intro n3 (And.intro n4 n5))))
  have HL := Aside0.mk h.lt
  have HH := Aside0.mk hh
  clear h hn hh hc ih n1 n2 n3 n4 n5 hW hwb hT1 hg1 hcc hvs
  show Calls Try.prog 27 #[.pointer (some ⟨b, 0, none⟩), .agg #[.int .i64 x.f0.f0, .int .i64 x.f0.f1, .int .i64 x.f1]] w _
  go_enter Try.func27, Try.ntmps27
  go_wp2_with (go_at_call 38; rw [show w.alloc (.cells #[.int .i64 x.f0.f0, .int .i64 x.f0.f1, .int .i64 x.f1] 30) = wb from HWB.out.symm]; refine HC.out.mono ?_; rintro e w1 ⟨rfl, hB⟩; have HS1 := Aside0.mk (HS.out w1 hB); have HW1 := Aside0.mk (below_then HW.out HW.out.size hB); clear hB HS HC)
  have HSS := Aside0.mk (show w1.drew.cell? ⟨b, 4, none⟩ = some (.pointer vs) ∧ w1.drew.cell? ⟨w.heap.size, 0, none⟩ = some (.int .i64 x.f0.f0) ∧ w1.drew.cell? ⟨w.heap.size, 1, none⟩ = some (.int .i64 x.f0.f1) ∧ w1.drew.cell? ⟨w.heap.size, 2, none⟩ = some (.int .i64 x.f1) from
    ⟨(blk_cell HS1.out.1.1 4).trans (congrArg some HVS.out), (blk_cell HS1.out.2 0).trans rfl, (blk_cell HS1.out.2 1).trans rfl, (blk_cell HS1.out.2 2).trans rfl⟩)
  refine start_ (n := 10) (S := fun w' => (w'.cell? ⟨b, 4, none⟩ = some (.pointer vs) ∧ w'.cell? ⟨w.heap.size, 0, none⟩ = some (.int .i64 x.f0.f0) ∧ w'.cell? ⟨w.heap.size, 1, none⟩ = some (.int .i64 x.f0.f1) ∧ w'.cell? ⟨w.heap.size, 2, none⟩ = some (.int .i64 x.f1))) (ds := [9]) #[false, false, false, false, false, false, false, false, false, false] (by kernel_rfl) rfl rfl ?_ (fun hHeld => ?_)
  · exact HSS.out
  refine pure_ (i := 0) (N := some 23) (v := ?_) (a' := ?_) #[true, false, false, false, false, false, false, false, false, false] rfl rfl (by kernel_rfl) (fun _ _ _ h => h) (Or.inl ⟨by rfl, ?_⟩) ?_ ?_
  rotate_left
  · intro w'
    go_simp
    with_reducible rfl
  rotate_left
  · simp only [Act.put, List.setIfInBounds_toArray, List.set_cons_zero, List.set_cons_succ, i64_w, i32_w]
    rfl
  refine pure_ (i := 1) (N := some 24) (v := ?_) (a' := ?_) #[true, true, false, false, false, false, false, false, false, false] rfl rfl (by kernel_rfl) (fun _ _ _ h => h) (Or.inl ⟨by rfl, ?_⟩) ?_ ?_
  rotate_left
  · intro w'
    go_simp
    with_reducible rfl
  rotate_left
  · simp only [Act.put, List.setIfInBounds_toArray, List.set_cons_zero, List.set_cons_succ, i64_w, i32_w]
    rfl
  refine pure_ (i := 2) (N := some 25) (v := ?_) (a' := ?_) #[true, true, true, false, false, false, false, false, false, false] rfl rfl (by kernel_rfl) (fun _ _ _ h => h) (Or.inl ⟨by rfl, ?_⟩) ?_ ?_
  rotate_left
  · intro w'
    go_simp
    with_reducible rfl
  rotate_left
  · simp only [Act.put, List.setIfInBounds_toArray, List.set_cons_zero, List.set_cons_succ, i64_w, i32_w]
    rfl
  refine pure_ (i := 3) (N := some 26) (v := ?_) (a' := ?_) #[true, true, true, true, false, false, false, false, false, false] rfl rfl (by kernel_rfl) (fun _ _ _ h => h) (Or.inl ⟨by rfl, ?_⟩) ?_ ?_
  rotate_left
  · intro w'
    go_simp
    with_reducible rfl
  rotate_left
  · simp only [Act.put, List.setIfInBounds_toArray, List.set_cons_zero, List.set_cons_succ, i64_w, i32_w]
    rfl
  refine take_ (i := 4) (N := some 27) (v := ?_) (a' := ?_) #[true, true, true, true, true, false, false, false, false, false] rfl rfl (by kernel_rfl) (fun _ _ _ h => h) (Or.inl ⟨by rfl, ?_⟩) hHeld ?_ ?_
  rotate_left
  · rintro w' ⟨s0, s1, s2, s3⟩
    go_simp
    with_reducible rfl
  rotate_left
  · simp only [Act.put, List.setIfInBounds_toArray, List.set_cons_zero, List.set_cons_succ, i64_w, i32_w]
    rfl
  refine take_ (i := 5) (N := some 28) (v := ?_) (a' := ?_) #[true, true, true, true, true, true, false, false, false, false] rfl rfl (by kernel_rfl) (fun _ _ _ h => h) (Or.inl ⟨by rfl, ?_⟩) hHeld ?_ ?_
  rotate_left
  · rintro w' ⟨s0, s1, s2, s3⟩
    go_simp
    with_reducible rfl
  rotate_left
  · simp only [Act.put, List.setIfInBounds_toArray, List.set_cons_zero, List.set_cons_succ, i64_w, i32_w]
    rfl
  refine one_ (i := 6) (N := some 29) #[true, true, true, true, true, true, true, false, false, false] rfl rfl (by kernel_rfl) (by decide) (fun K hK => ?_)
  refine goes_ Try.func27 (by kernel_rfl) rfl #[.pointer vs, .agg #[.int .i64 x.f0.f0, .int .i64 x.f0.f1, .int .i64 x.f1]] (by rfl) rfl rfl (by (try simp only [List.map_toArray, List.map_cons, List.map_nil]); first | done | rfl) ?_
  refine (IH.out w1.drew (HS1.out.1.2.2.drewN 1)).mono ?_
  rintro e w2 ⟨T1, rfl, hsk, hA, hN, hWr, hbl⟩
  obtain ⟨v1, hv1⟩ := ptr_pointer T1
  have HV1 := Aside0.mk hv1
  rw [hv1]
  have hb2 : w2.heap[b]? = some (.cells (nodeC y l.ptr r.ptr ((Tr.nd (b, y) l r).ht : Nat) (Tr.nd (b, y) l r).sk.en) 69 (0, 0)) := hWr.keep HS1.out.1.1 HN.out.2.2.2.1
  have hg2 : w2.heap[w.heap.size]? = some (boxI x) := hWr.keep HS1.out.2 (fun hk => Nat.lt_irrefl _ (HL.out _ (by rw [Tr.blks_nd]; simp [hk])))
  have ho2 : l.At w2 := (HS1.out.1.2.1.drewN 1).wr hWr (fun k hk hk' => HN.out.2.2.2.2 k hk hk')
  have HB2 := Aside0.mk hb2
  have HO2 := Aside0.mk ho2
  have HA := Aside0.mk (And.intro hA (And.intro hN (And.intro hWr hbl)))
  have HK := Aside0.mk hsk
  refine ⟨_, rfl, hK.out _ _ ⟨(blk_cell hb2 4).trans (congrArg some HVS.out), (blk_cell hg2 0).trans rfl, (blk_cell hg2 1).trans rfl, (blk_cell hg2 2).trans rfl⟩ (fun _ => ?_)⟩
  clear hK K hv1 hb2 hg2 ho2 hA hN hWr hbl hsk
  refine norm_ (a' := ?_) ?_ ?_
  rotate_left
  · show Act.put _ (some 29) _ = _
    simp only [Act.put, List.setIfInBounds_toArray, List.set_cons_zero, List.set_cons_succ, i64_w, i32_w]
    rfl
  refine pure_ (i := 7) (N := some 30) (v := ?_) (a' := ?_) #[true, true, true, true, true, true, true, true, false, false] rfl rfl (by kernel_rfl) (fun _ _ _ h => h) (Or.inl ⟨by rfl, ?_⟩) ?_ ?_
  rotate_left
  · intro w'
    go_simp
    with_reducible rfl
  rotate_left
  · simp only [Act.put, List.setIfInBounds_toArray, List.set_cons_zero, List.set_cons_succ, i64_w, i32_w]
    rfl
  refine pure_ (i := 8) (N := some 31) (v := ?_) (a' := ?_) #[true, true, true, true, true, true, true, true, true, false] rfl rfl (by kernel_rfl) (fun _ _ _ h => h) (Or.inl ⟨by rfl, ?_⟩) ?_ ?_
  rotate_left
  · intro w'
    go_simp
    with_reducible rfl
  rotate_left
  · simp only [Act.put, List.setIfInBounds_toArray, List.set_cons_zero, List.set_cons_succ, i64_w, i32_w]
    rfl
  refine last_ (i := 9) (N := none) #[true, true, true, true, true, true, true, true, true, true] rfl rfl (by kernel_rfl) (by decide) (fun K hK => ?_)
  have hcs : w2.cell? ⟨b, 4, none⟩ = some (.pointer vs) := (blk_cell HB2.out 4).trans (congrArg some HVS.out)
  have hfs := blk_frozen HB2.out 4
  refine skip_ (w1 := ?_) (by rfl) rfl ?_ ?_
  rotate_left
  · go_simp
    rfl
  refine hK.out _ _ ?_
  clear hK K hcs hfs
  refine done_ (by kernel_rfl) ?_
  have hb3 := blk_put (cs := nodeC y l.ptr r.ptr ((Tr.nd (b, y) l r).ht : Nat) (Tr.nd (b, y) l r).sk.en) (cs' := nodeC y l.ptr T1.ptr ((Tr.nd (b, y) l r).ht : Nat) (Tr.nd (b, y) l r).sk.en) HB2.out 4 (.pointer v1) (by rw [HV1.out]; rfl)
  obtain ⟨w3, hw3⟩ : ∃ w3, w3 = w2.setCell ⟨b, 4, none⟩ (.pointer v1) := ⟨_, rfl⟩
  rw [← hw3] at hb3 ⊢
  have hwr3 : Wr w2 w3 (fun k => k = b) := by rw [hw3]; exact (Wr.refl w2 (fun k => k = b)).set (S := fun k => k = b) rfl 4 _
  have hbl1 : b ∉ T1.blks := fun hk => by
    rcases HA.out.2.2.2 b hk with h | h
    · exact HN.out.2.2.2.1 h
    · have h' := HL.out b (by rw [Tr.blks_nd]; simp)
      have := HW1.out.size
      have : w1.drew.heap.size = w1.heap.size := rfl
      omega
  have hob : b ∉ l.blks := HN.out.2.2.1
  have ha3 : T1.At w3 := HA.out.1.wr hwr3 (fun k hk e => hbl1 (e ▸ hk))
  have ho3 : l.At w3 := HO2.out.wr hwr3 (fun k hk e => hob (e ▸ hk))
  have hdis : ∀ k ∈ T1.blks, k ∉ l.blks := fun k hk hk' => by
    rcases HA.out.2.2.2 k hk with h | h
    · exact HN.out.2.2.2.2 k hk' h
    · have h' := HL.out k (by rw [Tr.blks_nd]; simp [hk'])
      have := HW1.out.size
      have : w1.drew.heap.size = w1.heap.size := rfl
      omega
  have hn3 : (Tr.nd (b, y) l T1).blks.Nodup := nodup_nd_mk HN.out.1 HA.out.2.1 hob hbl1 (fun k hk hk' => hdis k hk' hk)
  have hht : T1.ht ≤ r.ht + 1 := by rw [← ht_sk T1, HK.out, ← ht_sk r]; exact ht_ins _ _
  have HBal := Aside0.mk (balance_calls b y l T1 w3 ⟨⟨_, _, hb3⟩, ho3, ha3⟩ hn3 (by have := HH.out; simp only [Tr.ht] at this; omega) (by have := HH.out; simp only [Tr.ht] at this; omega))
  have HW3 := Aside0.mk (show Wr w w3 (fun k => k ∈ (Tr.nd (b, y) l r).blks) from ((((Wr.of_below _ HW1.out).drewN 1).trans HA.out.2.2.1 (fun k hk => .inl (by rw [Tr.blks_nd]; simp [hk]))).trans hwr3 (fun k hk => .inl (by rw [Tr.blks_nd]; simp [hk]))))
  have HN3 := Aside0.mk hn3
  clear hb3 hwr3 hbl1 hob ha3 ho3 hdis hn3 hht hw3
  go_wp2_with (go_at_call 39; refine HBal.out.mono ?_; rintro e w5 ⟨rfl, hT, hw⟩; have HE := Aside0.mk (And.intro hT hw); clear hT hw)
  go_ret
  have hin : ∀ k ∈ (Tr.nd (b, y) l T1).blks, k ∈ (Tr.nd (b, y) l r).blks ∨ w.heap.size ≤ k := fun k hk => by
    rw [Tr.blks_nd] at hk ⊢
    simp only [List.mem_append, List.mem_cons] at hk ⊢
    have hT1 : k ∈ T1.blks → k ∈ r.blks ∨ w.heap.size ≤ k := fun hk => by
      rcases HA.out.2.2.2 k hk with h | h
      · exact .inl h
      · have := HW1.out.size
        have : w1.drew.heap.size = w1.heap.size := rfl
        exact .inr (by omega)
    rcases hk with hk | hk | hk
    · exact .inl (.inl hk)
    · exact .inl (.inr (.inl hk))
    · rcases hT1 hk with h | h
      · exact .inl (.inr (.inr h))
      · exact .inr h
  refine ⟨Tr.bal (b, y) l T1, rfl, by rw [sk_bal, HK.out], HE.out.1, by rw [blks_bal]; exact HN3.out, HW3.out.trans HE.out.2 hin, fun k hk => hin k (by rw [← blks_bal]; exact hk)⟩
theorem insert_calls (x : S30) (T : BT) : ∀ (w : World), T.At w → T.blks.Nodup → T.ht ≤ 600000 → Calls Try.prog 27 #[T.ptr, aggI x] w (InsPost w T (ins T.sk x)) := by
  induction T with
  | nil => exact fun w _ _ _ => insert_nil x w
  | nd p l r hl hr =>
    obtain ⟨b, y⟩ := p
    intro w h hn hh
    obtain ⟨n1, n2, _⟩ := blks_nodup_nd hn
    have hh' := hh
    simp only [Tr.ht] at hh'
    show Calls Try.prog 27 #[.pointer (some ⟨b, 0, none⟩), aggI x] w (InsPost w _ (if 0 < cmp y x then Tr.bal y (ins l.sk x) r.sk else Tr.bal y l.sk (ins r.sk x)))
    by_cases hc : 0 < cmp y x
    · rw [if_pos hc]
      exact insert_l b y l r x w h hn hh hc (fun w hA => hl w hA n1 (by omega))
    · rw [if_neg hc]
      exact insert_r b y l r x w h hn hh hc (fun w hA => hr w hA n2 (by omega))
end Go.Proofs.Ytdjfjmcnghfdkaa.My
