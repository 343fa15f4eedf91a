/- first, remove. -/
import Derived.Test.YtdjfjmcnghfdkaaIH
namespace Go.Proofs.Ytdjfjmcnghfdkaa.My
open Go Go.RowKit Go.Proofs.YtdjfjmcnghfdkaaW.PrintWords Go.Proofs.YtdjfjmcnghfdkaaW.PrintLast Go.Proofs.YtdjfjmcnghfdkaaW.PrintMore Go.Proofs.Ytdjfjmcnghfdkaa.PItreeActs
set_option linter.unusedVariables false
set_option linter.unusedSimpArgs false
def fstT : Tr S30 → S30
  | .nil => z30
  | .nd x .nil _ => x
  | .nd _ (.nd y a c) _ => fstT (.nd y a c)
def rem : Tr S30 → S30 → Tr S30
  | .nil, _ => .nil
  | .nd y l r, x => if 0 < cmp y x then .bal y (rem l x) r else if cmp y x < 0 then .bal y l (rem r x) else
      match l, r with
      | .nil, r => r
      | l, .nil => l
      | l, r => .bal (fstT r) l (rem r (fstT r))
/-- The search for x ends at a node, and so does the search for the item that takes its place. -/
def RemOk : Tr S30 → S30 → Prop
  | .nil, _ => False
  | .nd y l r, x => if 0 < cmp y x then RemOk l x else if cmp y x < 0 then RemOk r x else (l = .nil ∨ r = .nil ∨ RemOk r (fstT r))
theorem ht_rem (t : Tr S30) : ∀ x, (rem t x).ht ≤ t.ht := by
  induction t with
  | nil => intro x; simp [rem]
  | nd y l r hl hr =>
    intro x
    unfold rem
    have h1 := Tr.ht_bal y (rem l x) r
    have h2 := Tr.ht_bal y l (rem r x)
    have h3 := Tr.ht_bal (fstT r) l (rem r (fstT r))
    have := hl x
    have := hr x
    have := hr (fstT r)
    split
    · simp only [Tr.ht] at *; omega
    · split
      · simp only [Tr.ht] at *; omega
      · split <;> simp only [Tr.ht] at * <;> omega
def zI : Obj := .cells #[.int .i64 0, .int .i64 0, .int .i64 0] 30
set_option maxHeartbeats 1000000 in
set_option maxRecDepth 100000 in
theorem first_calls (T : BT) (w : World) (h : T.At w) (hne : T ≠ .nil) : Calls Try.prog 42 #[T.ptr] w fun e w' => e = .returned (aggI (fstT T.sk)) ∧ Below w.heap.size w w' := by
  obtain ⟨wb, hwb⟩ : ∃ wb, wb = w.alloc zI := ⟨_, rfl⟩
  have hW : Below w.heap.size w wb := by rw [hwb]; exact below_alloc (Below.refl _ _) _
  have hT := h.below hW
  have HLT := Aside0.mk h.lt
  have hg : wb.heap[w.heap.size]? = some zI := by rw [hwb]; exact blk_new w _
  obtain ⟨x, hx⟩ : ∃ x, x = fstT T.sk := ⟨_, rfl⟩
  rw [← hx]
  have HX := Aside0.mk hx
  have HT := Aside0.mk hT
  have HW := Aside0.mk hW
  have HG := Aside0.mk hg
  have HWB := Aside0.mk hwb
  obtain ⟨v, hv⟩ := ptr_pointer T
  rw [hv]
  have HV := Aside0.mk hv
  have HNE := Aside0.mk hne
  have hu30 := Try.underlying30
  have hu69 := Try.underlying69
  clear h hne hW hT hg hx hv hwb
  go_enter Try.func42, Try.ntmps42
  go_wp2_with fail
  rw [show w.alloc (.cells #[.int .i64 0, .int .i64 0, .int .i64 0] 30) = wb from HWB.out.symm]
  go_loopg [0] (T.ht) (fun k p wr => wr = wb ∧ ∃ (U : BT) (u : Option Addr), U.ht ≤ k ∧ U ≠ .nil ∧ U.ptr = .pointer u ∧ p = .pointer u ∧ U.At wb ∧ fstT U.sk = x)
  case atStart => exact ⟨rfl, T, v, Nat.le_refl _, HNE.out, HV.out, rfl, HT.out, HX.out.symm⟩
  case round =>
    obtain ⟨rfl, U, u, hk, hne, hu, rfl, hA, hf⟩ := hrel
    match U, hne with
    | .nd (b, y) l r, _ =>
      have hue : u = some ⟨b, 0, none⟩ := by simp only [Tr.ptr, Value.pointer.injEq] at hu; exact hu.symm
      subst hue
      have HA := Aside0.mk hA
      have HK := Aside0.mk hk
      have HF := Aside0.mk hf
      have hb := hA.1
      have HB := Aside0.mk hb
      have hbl := blk_lt hb
      have hbg : ¬ (b = w.heap.size) := by
        intro e
        have := HG.out
        have h2 := hb
        simp only [e] at h2
        rw [this] at h2
        injection h2 with h2
        injection h2 with h2 h3
        exact absurd h3 (by decide)
      clear hA hk hf hu hbl
      match l with
      | .nil =>
        have hc3 : wr.cell? ⟨b, 3, none⟩ = some (.pointer none) := (blk_cell hb 3).trans rfl
        have hc0 : wr.cell? ⟨b, 0, none⟩ = some (.int .i64 y.f0.f0) := (blk_cell hb 0).trans rfl
        have hc1 : wr.cell? ⟨b, 1, none⟩ = some (.int .i64 y.f0.f1) := (blk_cell hb 1).trans rfl
        have hc2 : wr.cell? ⟨b, 2, none⟩ = some (.int .i64 y.f1) := (blk_cell hb 2).trans rfl
        have hg0 : wr.cell? ⟨w.heap.size, 0, none⟩ = some (.int .i64 0) := (blk_cell HG.out 0).trans rfl
        have hg1 : wr.cell? ⟨w.heap.size, 1, none⟩ = some (.int .i64 0) := (blk_cell HG.out 1).trans rfl
        have hg2 : wr.cell? ⟨w.heap.size, 2, none⟩ = some (.int .i64 0) := (blk_cell HG.out 2).trans rfl
        have hf0 := blk_frozen HG.out 0
        have hf1 := blk_frozen HG.out 1
        have hf2 := blk_frozen HG.out 2
        clear hb
        go_wp2
        have hxy : x = y := HF.out.symm
        refine bodyPost_ret (results_cell_row rfl _ _ w.heap.size 30 #[.int .i64 y.f0.f0, .int .i64 y.f0.f1, .int .i64 y.f1] (0, 0) _ rfl (blk_put (blk_put (blk_put (cs := #[.int .i64 0, .int .i64 0, .int .i64 0]) HG.out 0 _ rfl) 1 _ rfl) 2 _ rfl) Try.underlying30 rfl (by kernel_rfl)) rfl ?_
        exact ⟨by rw [hxy]; rfl, below_set (below_set (below_set HW.out (Nat.le_refl _)) (Nat.le_refl _)) (Nat.le_refl _)⟩
      | .nd (b2, y2) a c =>
        have hc3 : wr.cell? ⟨b, 3, none⟩ = some (.pointer (some ⟨b2, 0, none⟩)) := (blk_cell hb 3).trans rfl
        clear hb
        go_wp2
        go_roundg ((Tr.nd (b2, y2) a c).ht)
        case measure => have := HK.out; simp only [Tr.ht] at *; omega
        case rel => exact ⟨rfl, .nd (b2, y2) a c, some ⟨b2, 0, none⟩, Nat.le_refl _, by simp, rfl, rfl, HA.out.2.1, HF.out⟩
set_option maxHeartbeats 1000000 in
set_option maxRecDepth 100000 in
theorem remove_l (b : Nat) (y : S30) (l r : BT) (x : S30) (w : World) (h : (Tr.nd (b, y) l r).At w) (hn : (Tr.nd (b, y) l r).blks.Nodup) (hh : (Tr.nd (b, y) l r).ht ≤ 600000) (hc : 0 < cmp y x)
    (ih : ∀ w : World, l.At w → Calls Try.prog 33 #[l.ptr, aggI x] w (InsPost w l (rem l.sk x))) :
    Calls Try.prog 33 #[.pointer (some ⟨b, 0, none⟩), aggI x] w (InsPost w (.nd (b, y) l r) (Tr.bal y (rem l.sk x) r.sk)) := by
  obtain ⟨n1, n2, n3, n4, n5⟩ := blks_nodup_nd hn
  obtain ⟨wb, hwb⟩ : ∃ wb, wb = w.alloc (boxI x) := ⟨_, rfl⟩
  have hW : Below w.heap.size w wb := by rw [hwb]; exact below_alloc (Below.refl _ _) _
  have hT1 := h.below hW
  have hg1 : wb.heap[w.heap.size]? = some (boxI x) := by rw [hwb]; exact blk_new w _
  have HC := Aside0.mk (ncompare_calls b y x _ _ _ _ wb hT1.1)
  have HS := Aside0.mk (fun (w' : World) (hB : Below wb.heap.size wb w') => And.intro (h.below (below_then hW hW.size hB)) ((hB.block _ (blk_lt hg1)).trans hg1))
  obtain ⟨c, hcc⟩ : ∃ c, c = cmp y x := ⟨_, rfl⟩
  rw [← hcc] at hc HC
  have hd : decide (0 < c) = true := by simpa using hc
  have hu30 := Try.underlying30
  have hu69 := Try.underlying69
  obtain ⟨vs, hvs⟩ := ptr_pointer l
  have HVS := Aside0.mk hvs
  have IH := Aside0.mk ih
  rw [hvs] at IH
  have HW := Aside0.mk hW
  have HWB := Aside0.mk hwb
  have HN := Aside0.mk (And.intro n1 (And.intro n2 (And.intro n3 (And.intro n4 n5))))
  have HL := Aside0.mk h.lt
  have HH := Aside0.mk hh
  clear h hn hh hc ih n1 n2 n3 n4 n5 hW hwb hT1 hg1 hcc hvs
  show Calls Try.prog 33 #[.pointer (some ⟨b, 0, none⟩), .agg #[.int .i64 x.f0.f0, .int .i64 x.f0.f1, .int .i64 x.f1]] w _
  go_enter Try.func33, Try.ntmps33
  go_wp2_with (go_at_call 38; rw [show w.alloc (.cells #[.int .i64 x.f0.f0, .int .i64 x.f0.f1, .int .i64 x.f1] 30) = wb from HWB.out.symm]; refine HC.out.mono ?_; rintro e w1 ⟨rfl, hB⟩; have HS1 := Aside0.mk (HS.out w1 hB); have HW1 := Aside0.mk (below_then HW.out HW.out.size hB); clear hB HS HC)
  have HSS := Aside0.mk (show w1.drew.cell? ⟨b, 3, none⟩ = some (.pointer vs) ∧ w1.drew.cell? ⟨w.heap.size, 0, none⟩ = some (.int .i64 x.f0.f0) ∧ w1.drew.cell? ⟨w.heap.size, 1, none⟩ = some (.int .i64 x.f0.f1) ∧ w1.drew.cell? ⟨w.heap.size, 2, none⟩ = some (.int .i64 x.f1) from
    ⟨(blk_cell HS1.out.1.1 3).trans (congrArg some HVS.out), (blk_cell HS1.out.2 0).trans rfl, (blk_cell HS1.out.2 1).trans rfl, (blk_cell HS1.out.2 2).trans rfl⟩)
  refine start_ (n := 10) (S := fun w' => (w'.cell? ⟨b, 3, none⟩ = some (.pointer vs) ∧ w'.cell? ⟨w.heap.size, 0, none⟩ = some (.int .i64 x.f0.f0) ∧ w'.cell? ⟨w.heap.size, 1, none⟩ = some (.int .i64 x.f0.f1) ∧ w'.cell? ⟨w.heap.size, 2, none⟩ = some (.int .i64 x.f1))) (ds := [9]) #[false, false, false, false, false, false, false, false, false, false] (by kernel_rfl) rfl rfl ?_ (fun hHeld => ?_)
  · exact HSS.out
  refine pure_ (i := 0) (N := some 32) (v := ?_) (a' := ?_) #[true, false, false, false, false, false, false, false, false, false] rfl rfl (by kernel_rfl) (fun _ _ _ h => h) (Or.inl ⟨by rfl, ?_⟩) ?_ ?_
  rotate_left
  · intro w'
    go_simp
    with_reducible rfl
  rotate_left
  · simp only [Act.put, List.setIfInBounds_toArray, List.set_cons_zero, List.set_cons_succ, i64_w, i32_w]
    rfl
  refine pure_ (i := 1) (N := some 33) (v := ?_) (a' := ?_) #[true, true, false, false, false, false, false, false, false, false] rfl rfl (by kernel_rfl) (fun _ _ _ h => h) (Or.inl ⟨by rfl, ?_⟩) ?_ ?_
  rotate_left
  · intro w'
    go_simp
    with_reducible rfl
  rotate_left
  · simp only [Act.put, List.setIfInBounds_toArray, List.set_cons_zero, List.set_cons_succ, i64_w, i32_w]
    rfl
  refine pure_ (i := 2) (N := some 34) (v := ?_) (a' := ?_) #[true, true, true, false, false, false, false, false, false, false] rfl rfl (by kernel_rfl) (fun _ _ _ h => h) (Or.inl ⟨by rfl, ?_⟩) ?_ ?_
  rotate_left
  · intro w'
    go_simp
    with_reducible rfl
  rotate_left
  · simp only [Act.put, List.setIfInBounds_toArray, List.set_cons_zero, List.set_cons_succ, i64_w, i32_w]
    rfl
  refine pure_ (i := 3) (N := some 35) (v := ?_) (a' := ?_) #[true, true, true, true, false, false, false, false, false, false] rfl rfl (by kernel_rfl) (fun _ _ _ h => h) (Or.inl ⟨by rfl, ?_⟩) ?_ ?_
  rotate_left
  · intro w'
    go_simp
    with_reducible rfl
  rotate_left
  · simp only [Act.put, List.setIfInBounds_toArray, List.set_cons_zero, List.set_cons_succ, i64_w, i32_w]
    rfl
  refine take_ (i := 4) (N := some 36) (v := ?_) (a' := ?_) #[true, true, true, true, true, false, false, false, false, false] rfl rfl (by kernel_rfl) (fun _ _ _ h => h) (Or.inl ⟨by rfl, ?_⟩) hHeld ?_ ?_
  rotate_left
  · rintro w' ⟨s0, s1, s2, s3⟩
    go_simp
    with_reducible rfl
  rotate_left
  · simp only [Act.put, List.setIfInBounds_toArray, List.set_cons_zero, List.set_cons_succ, i64_w, i32_w]
    rfl
  refine take_ (i := 5) (N := some 37) (v := ?_) (a' := ?_) #[true, true, true, true, true, true, false, false, false, false] rfl rfl (by kernel_rfl) (fun _ _ _ h => h) (Or.inl ⟨by rfl, ?_⟩) hHeld ?_ ?_
  rotate_left
  · rintro w' ⟨s0, s1, s2, s3⟩
    go_simp
    with_reducible rfl
  rotate_left
  · simp only [Act.put, List.setIfInBounds_toArray, List.set_cons_zero, List.set_cons_succ, i64_w, i32_w]
    rfl
  refine one_ (i := 6) (N := some 38) #[true, true, true, true, true, true, true, false, false, false] rfl rfl (by kernel_rfl) (by decide) (fun K hK => ?_)
  refine goes_ Try.func33 (by kernel_rfl) rfl #[.pointer vs, .agg #[.int .i64 x.f0.f0, .int .i64 x.f0.f1, .int .i64 x.f1]] (by rfl) rfl rfl (by (try simp only [List.map_toArray, List.map_cons, List.map_nil]); first | done | rfl) ?_
  refine (IH.out w1.drew (HS1.out.1.2.1.drewN 1)).mono ?_
  rintro e w2 ⟨T1, rfl, hsk, hA, hN, hWr, hbl⟩
  obtain ⟨v1, hv1⟩ := ptr_pointer T1
  have HV1 := Aside0.mk hv1
  rw [hv1]
  have hb2 : w2.heap[b]? = some (.cells (nodeC y l.ptr r.ptr ((Tr.nd (b, y) l r).ht : Nat) (Tr.nd (b, y) l r).sk.en) 69 (0, 0)) := hWr.keep HS1.out.1.1 HN.out.2.2.1
  have hg2 : w2.heap[w.heap.size]? = some (boxI x) := hWr.keep HS1.out.2 (fun hk => Nat.lt_irrefl _ (HL.out _ (by rw [Tr.blks_nd]; simp [hk])))
  have ho2 : r.At w2 := (HS1.out.1.2.2.drewN 1).wr hWr (fun k hk hk' => HN.out.2.2.2.2 k hk' hk)
  have HB2 := Aside0.mk hb2
  have HO2 := Aside0.mk ho2
  have HA := Aside0.mk (And.intro hA (And.intro hN (And.intro hWr hbl)))
  have HK := Aside0.mk hsk
  refine ⟨_, rfl, hK.out _ _ ⟨(blk_cell hb2 3).trans (congrArg some HVS.out), (blk_cell hg2 0).trans rfl, (blk_cell hg2 1).trans rfl, (blk_cell hg2 2).trans rfl⟩ (fun _ => ?_)⟩
  clear hK K hv1 hb2 hg2 ho2 hA hN hWr hbl hsk
  refine norm_ (a' := ?_) ?_ ?_
  rotate_left
  · show Act.put _ (some 38) _ = _
    simp only [Act.put, List.setIfInBounds_toArray, List.set_cons_zero, List.set_cons_succ, i64_w, i32_w]
    rfl
  refine pure_ (i := 7) (N := some 39) (v := ?_) (a' := ?_) #[true, true, true, true, true, true, true, true, false, false] rfl rfl (by kernel_rfl) (fun _ _ _ h => h) (Or.inl ⟨by rfl, ?_⟩) ?_ ?_
  rotate_left
  · intro w'
    go_simp
    with_reducible rfl
  rotate_left
  · simp only [Act.put, List.setIfInBounds_toArray, List.set_cons_zero, List.set_cons_succ, i64_w, i32_w]
    rfl
  refine pure_ (i := 8) (N := some 40) (v := ?_) (a' := ?_) #[true, true, true, true, true, true, true, true, true, false] rfl rfl (by kernel_rfl) (fun _ _ _ h => h) (Or.inl ⟨by rfl, ?_⟩) ?_ ?_
  rotate_left
  · intro w'
    go_simp
    with_reducible rfl
  rotate_left
  · simp only [Act.put, List.setIfInBounds_toArray, List.set_cons_zero, List.set_cons_succ, i64_w, i32_w]
    rfl
  refine last_ (i := 9) (N := none) #[true, true, true, true, true, true, true, true, true, true] rfl rfl (by kernel_rfl) (by decide) (fun K hK => ?_)
  have hcs : w2.cell? ⟨b, 3, none⟩ = some (.pointer vs) := (blk_cell HB2.out 3).trans (congrArg some HVS.out)
  have hfs := blk_frozen HB2.out 3
  refine skip_ (w1 := ?_) (by rfl) rfl ?_ ?_
  rotate_left
  · go_simp
    rfl
  refine hK.out _ _ ?_
  clear hK K hcs hfs
  refine done_ (by kernel_rfl) ?_
  have hb3 := blk_put (cs := nodeC y l.ptr r.ptr ((Tr.nd (b, y) l r).ht : Nat) (Tr.nd (b, y) l r).sk.en) (cs' := nodeC y T1.ptr r.ptr ((Tr.nd (b, y) l r).ht : Nat) (Tr.nd (b, y) l r).sk.en) HB2.out 3 (.pointer v1) (by rw [HV1.out]; rfl)
  obtain ⟨w3, hw3⟩ : ∃ w3, w3 = w2.setCell ⟨b, 3, none⟩ (.pointer v1) := ⟨_, rfl⟩
  rw [← hw3] at hb3 ⊢
  have hwr3 : Wr w2 w3 (fun k => k = b) := by rw [hw3]; exact (Wr.refl w2 (fun k => k = b)).set (S := fun k => k = b) rfl 3 _
  have hbl1 : b ∉ T1.blks := fun hk => by
    rcases HA.out.2.2.2 b hk with h | h
    · exact HN.out.2.2.1 h
    · have h' := HL.out b (by rw [Tr.blks_nd]; simp)
      have := HW1.out.size
      have : w1.drew.heap.size = w1.heap.size := rfl
      omega
  have hob : b ∉ r.blks := HN.out.2.2.2.1
  have ha3 : T1.At w3 := HA.out.1.wr hwr3 (fun k hk e => hbl1 (e ▸ hk))
  have ho3 : r.At w3 := HO2.out.wr hwr3 (fun k hk e => hob (e ▸ hk))
  have hdis : ∀ k ∈ T1.blks, k ∉ r.blks := fun k hk hk' => by
    rcases HA.out.2.2.2 k hk with h | h
    · exact HN.out.2.2.2.2 k h hk'
    · have h' := HL.out k (by rw [Tr.blks_nd]; simp [hk'])
      have := HW1.out.size
      have : w1.drew.heap.size = w1.heap.size := rfl
      omega
  have hn3 : (Tr.nd (b, y) T1 r).blks.Nodup := nodup_nd_mk HA.out.2.1 HN.out.2.1 hbl1 hob hdis
  have hht : T1.ht ≤ l.ht := by rw [← ht_sk T1, HK.out, ← ht_sk l]; exact ht_rem _ _
  have HBal := Aside0.mk (balance_calls b y T1 r w3 ⟨⟨_, _, hb3⟩, ha3, ho3⟩ hn3 (by have := HH.out; simp only [Tr.ht] at this; omega) (by have := HH.out; simp only [Tr.ht] at this; omega))
  have HW3 := Aside0.mk (show Wr w w3 (fun k => k ∈ (Tr.nd (b, y) l r).blks) from ((((Wr.of_below _ HW1.out).drewN 1).trans HA.out.2.2.1 (fun k hk => .inl (by rw [Tr.blks_nd]; simp [hk]))).trans hwr3 (fun k hk => .inl (by rw [Tr.blks_nd]; simp [hk]))))
  have HN3 := Aside0.mk hn3
  clear hb3 hwr3 hbl1 hob ha3 ho3 hdis hn3 hht hw3
  go_wp2_with (go_at_call 39; refine HBal.out.mono ?_; rintro e w5 ⟨rfl, hT, hw⟩; have HE := Aside0.mk (And.intro hT hw); clear hT hw)
  go_ret
  have hin : ∀ k ∈ (Tr.nd (b, y) T1 r).blks, k ∈ (Tr.nd (b, y) l r).blks ∨ w.heap.size ≤ k := fun k hk => by
    rw [Tr.blks_nd] at hk ⊢
    simp only [List.mem_append, List.mem_cons] at hk ⊢
    have hT1 : k ∈ T1.blks → k ∈ l.blks ∨ w.heap.size ≤ k := fun hk => by
      rcases HA.out.2.2.2 k hk with h | h
      · exact .inl h
      · have := HW1.out.size
        have : w1.drew.heap.size = w1.heap.size := rfl
        exact .inr (by omega)
    rcases hk with hk | hk | hk
    · rcases hT1 hk with h | h
      · exact .inl (.inl h)
      · exact .inr h
    · exact .inl (.inr (.inl hk))
    · exact .inl (.inr (.inr hk))
  refine ⟨Tr.bal (b, y) T1 r, rfl, by rw [sk_bal, HK.out], HE.out.1, by rw [blks_bal]; exact HN3.out, HW3.out.trans HE.out.2 hin, fun k hk => hin k (by rw [← blks_bal]; exact hk)⟩
set_option maxHeartbeats 1000000 in
set_option maxRecDepth 100000 in
theorem remove_r (b : Nat) (y : S30) (l r : BT) (x : S30) (w : World) (h : (Tr.nd (b, y) l r).At w) (hn : (Tr.nd (b, y) l r).blks.Nodup) (hh : (Tr.nd (b, y) l r).ht ≤ 600000) (hc : ¬ 0 < cmp y x ∧ cmp y x < 0)
    (ih : ∀ w : World, r.At w → Calls Try.prog 33 #[r.ptr, aggI x] w (InsPost w r (rem r.sk x))) :
    Calls Try.prog 33 #[.pointer (some ⟨b, 0, none⟩), aggI x] w (InsPost w (.nd (b, y) l r) (Tr.bal y l.sk (rem r.sk x))) := by
  obtain ⟨n1, n2, n3, n4, n5⟩ := blks_nodup_nd hn
  obtain ⟨wb, hwb⟩ : ∃ wb, wb = w.alloc (boxI x) := ⟨_, rfl⟩
  have hW : Below w.heap.size w wb := by rw [hwb]; exact below_alloc (Below.refl _ _) _
  have hT1 := h.below hW
  have hg1 : wb.heap[w.heap.size]? = some (boxI x) := by rw [hwb]; exact blk_new w _
  have HC := Aside0.mk (ncompare_calls b y x _ _ _ _ wb hT1.1)
  have HS := Aside0.mk (fun (w' : World) (hB : Below wb.heap.size wb w') => And.intro (h.below (below_then hW hW.size hB)) ((hB.block _ (blk_lt hg1)).trans hg1))
  obtain ⟨c, hcc⟩ : ∃ c, c = cmp y x := ⟨_, rfl⟩
  rw [← hcc] at hc HC
  have hd : decide (0 < c) = false := by simpa using hc.1
  have hd2 : decide (c < 0) = true := by simpa using hc.2
  have hu30 := Try.underlying30
  have hu69 := Try.underlying69
  obtain ⟨vs, hvs⟩ := ptr_pointer r
  have HVS := Aside0.mk hvs
  have IH := Aside0.mk ih
  rw [hvs] at IH
  have HW := Aside0.mk hW
  have HWB := Aside0.mk hwb
  have HN := Aside0.mk (And.intro n1 (And.intro n2 (And.intro n3 (And.intro n4 n5))))
  have HL := Aside0.mk h.lt
  have HH := Aside0.mk hh
  clear h hn hh hc ih n1 n2 n3 n4 n5 hW hwb hT1 hg1 hcc hvs
  show Calls Try.prog 33 #[.pointer (some ⟨b, 0, none⟩), .agg #[.int .i64 x.f0.f0, .int .i64 x.f0.f1, .int .i64 x.f1]] w _
  go_enter Try.func33, Try.ntmps33
  go_wp2_with (go_at_call 38; rw [show w.alloc (.cells #[.int .i64 x.f0.f0, .int .i64 x.f0.f1, .int .i64 x.f1] 30) = wb from HWB.out.symm]; refine HC.out.mono ?_; rintro e w1 ⟨rfl, hB⟩; have HS1 := Aside0.mk (HS.out w1 hB); have HW1 := Aside0.mk (below_then HW.out HW.out.size hB); clear hB HS HC)
  have HSS := Aside0.mk (show w1.drew.cell? ⟨b, 4, none⟩ = some (.pointer vs) ∧ w1.drew.cell? ⟨w.heap.size, 0, none⟩ = some (.int .i64 x.f0.f0) ∧ w1.drew.cell? ⟨w.heap.size, 1, none⟩ = some (.int .i64 x.f0.f1) ∧ w1.drew.cell? ⟨w.heap.size, 2, none⟩ = some (.int .i64 x.f1) from
    ⟨(blk_cell HS1.out.1.1 4).trans (congrArg some HVS.out), (blk_cell HS1.out.2 0).trans rfl, (blk_cell HS1.out.2 1).trans rfl, (blk_cell HS1.out.2 2).trans rfl⟩)
  refine start_ (n := 10) (S := fun w' => (w'.cell? ⟨b, 4, none⟩ = some (.pointer vs) ∧ w'.cell? ⟨w.heap.size, 0, none⟩ = some (.int .i64 x.f0.f0) ∧ w'.cell? ⟨w.heap.size, 1, none⟩ = some (.int .i64 x.f0.f1) ∧ w'.cell? ⟨w.heap.size, 2, none⟩ = some (.int .i64 x.f1))) (ds := [9]) #[false, false, false, false, false, false, false, false, false, false] (by kernel_rfl) rfl rfl ?_ (fun hHeld => ?_)
  · exact HSS.out
  refine pure_ (i := 0) (N := some 44) (v := ?_) (a' := ?_) #[true, false, false, false, false, false, false, false, false, false] rfl rfl (by kernel_rfl) (fun _ _ _ h => h) (Or.inl ⟨by rfl, ?_⟩) ?_ ?_
  rotate_left
  · intro w'
    go_simp
    with_reducible rfl
  rotate_left
  · simp only [Act.put, List.setIfInBounds_toArray, List.set_cons_zero, List.set_cons_succ, i64_w, i32_w]
    rfl
  refine pure_ (i := 1) (N := some 45) (v := ?_) (a' := ?_) #[true, true, false, false, false, false, false, false, false, false] rfl rfl (by kernel_rfl) (fun _ _ _ h => h) (Or.inl ⟨by rfl, ?_⟩) ?_ ?_
  rotate_left
  · intro w'
    go_simp
    with_reducible rfl
  rotate_left
  · simp only [Act.put, List.setIfInBounds_toArray, List.set_cons_zero, List.set_cons_succ, i64_w, i32_w]
    rfl
  refine pure_ (i := 2) (N := some 46) (v := ?_) (a' := ?_) #[true, true, true, false, false, false, false, false, false, false] rfl rfl (by kernel_rfl) (fun _ _ _ h => h) (Or.inl ⟨by rfl, ?_⟩) ?_ ?_
  rotate_left
  · intro w'
    go_simp
    with_reducible rfl
  rotate_left
  · simp only [Act.put, List.setIfInBounds_toArray, List.set_cons_zero, List.set_cons_succ, i64_w, i32_w]
    rfl
  refine pure_ (i := 3) (N := some 47) (v := ?_) (a' := ?_) #[true, true, true, true, false, false, false, false, false, false] rfl rfl (by kernel_rfl) (fun _ _ _ h => h) (Or.inl ⟨by rfl, ?_⟩) ?_ ?_
  rotate_left
  · intro w'
    go_simp
    with_reducible rfl
  rotate_left
  · simp only [Act.put, List.setIfInBounds_toArray, List.set_cons_zero, List.set_cons_succ, i64_w, i32_w]
    rfl
  refine take_ (i := 4) (N := some 48) (v := ?_) (a' := ?_) #[true, true, true, true, true, false, false, false, false, false] rfl rfl (by kernel_rfl) (fun _ _ _ h => h) (Or.inl ⟨by rfl, ?_⟩) hHeld ?_ ?_
  rotate_left
  · rintro w' ⟨s0, s1, s2, s3⟩
    go_simp
    with_reducible rfl
  rotate_left
  · simp only [Act.put, List.setIfInBounds_toArray, List.set_cons_zero, List.set_cons_succ, i64_w, i32_w]
    rfl
  refine take_ (i := 5) (N := some 49) (v := ?_) (a' := ?_) #[true, true, true, true, true, true, false, false, false, false] rfl rfl (by kernel_rfl) (fun _ _ _ h => h) (Or.inl ⟨by rfl, ?_⟩) hHeld ?_ ?_
  rotate_left
  · rintro w' ⟨s0, s1, s2, s3⟩
    go_simp
    with_reducible rfl
  rotate_left
  · simp only [Act.put, List.setIfInBounds_toArray, List.set_cons_zero, List.set_cons_succ, i64_w, i32_w]
    rfl
  refine one_ (i := 6) (N := some 50) #[true, true, true, true, true, true, true, false, false, false] rfl rfl (by kernel_rfl) (by decide) (fun K hK => ?_)
  refine goes_ Try.func33 (by kernel_rfl) rfl #[.pointer vs, .agg #[.int .i64 x.f0.f0, .int .i64 x.f0.f1, .int .i64 x.f1]] (by rfl) rfl rfl (by (try simp only [List.map_toArray, List.map_cons, List.map_nil]); first | done | rfl) ?_
  refine (IH.out w1.drew (HS1.out.1.2.2.drewN 1)).mono ?_
  rintro e w2 ⟨T1, rfl, hsk, hA, hN, hWr, hbl⟩
  obtain ⟨v1, hv1⟩ := ptr_pointer T1
  have HV1 := Aside0.mk hv1
  rw [hv1]
  have hb2 : w2.heap[b]? = some (.cells (nodeC y l.ptr r.ptr ((Tr.nd (b, y) l r).ht : Nat) (Tr.nd (b, y) l r).sk.en) 69 (0, 0)) := hWr.keep HS1.out.1.1 HN.out.2.2.2.1
  have hg2 : w2.heap[w.heap.size]? = some (boxI x) := hWr.keep HS1.out.2 (fun hk => Nat.lt_irrefl _ (HL.out _ (by rw [Tr.blks_nd]; simp [hk])))
  have ho2 : l.At w2 := (HS1.out.1.2.1.drewN 1).wr hWr (fun k hk hk' => HN.out.2.2.2.2 k hk hk')
  have HB2 := Aside0.mk hb2
  have HO2 := Aside0.mk ho2
  have HA := Aside0.mk (And.intro hA (And.intro hN (And.intro hWr hbl)))
  have HK := Aside0.mk hsk
  refine ⟨_, rfl, hK.out _ _ ⟨(blk_cell hb2 4).trans (congrArg some HVS.out), (blk_cell hg2 0).trans rfl, (blk_cell hg2 1).trans rfl, (blk_cell hg2 2).trans rfl⟩ (fun _ => ?_)⟩
  clear hK K hv1 hb2 hg2 ho2 hA hN hWr hbl hsk
  refine norm_ (a' := ?_) ?_ ?_
  rotate_left
  · show Act.put _ (some 50) _ = _
    simp only [Act.put, List.setIfInBounds_toArray, List.set_cons_zero, List.set_cons_succ, i64_w, i32_w]
    rfl
  refine pure_ (i := 7) (N := some 51) (v := ?_) (a' := ?_) #[true, true, true, true, true, true, true, true, false, false] rfl rfl (by kernel_rfl) (fun _ _ _ h => h) (Or.inl ⟨by rfl, ?_⟩) ?_ ?_
  rotate_left
  · intro w'
    go_simp
    with_reducible rfl
  rotate_left
  · simp only [Act.put, List.setIfInBounds_toArray, List.set_cons_zero, List.set_cons_succ, i64_w, i32_w]
    rfl
  refine pure_ (i := 8) (N := some 52) (v := ?_) (a' := ?_) #[true, true, true, true, true, true, true, true, true, false] rfl rfl (by kernel_rfl) (fun _ _ _ h => h) (Or.inl ⟨by rfl, ?_⟩) ?_ ?_
  rotate_left
  · intro w'
    go_simp
    with_reducible rfl
  rotate_left
  · simp only [Act.put, List.setIfInBounds_toArray, List.set_cons_zero, List.set_cons_succ, i64_w, i32_w]
    rfl
  refine last_ (i := 9) (N := none) #[true, true, true, true, true, true, true, true, true, true] rfl rfl (by kernel_rfl) (by decide) (fun K hK => ?_)
  have hcs : w2.cell? ⟨b, 4, none⟩ = some (.pointer vs) := (blk_cell HB2.out 4).trans (congrArg some HVS.out)
  have hfs := blk_frozen HB2.out 4
  refine skip_ (w1 := ?_) (by rfl) rfl ?_ ?_
  rotate_left
  · go_simp
    rfl
  refine hK.out _ _ ?_
  clear hK K hcs hfs
  refine done_ (by kernel_rfl) ?_
  have hb3 := blk_put (cs := nodeC y l.ptr r.ptr ((Tr.nd (b, y) l r).ht : Nat) (Tr.nd (b, y) l r).sk.en) (cs' := nodeC y l.ptr T1.ptr ((Tr.nd (b, y) l r).ht : Nat) (Tr.nd (b, y) l r).sk.en) HB2.out 4 (.pointer v1) (by rw [HV1.out]; rfl)
  obtain ⟨w3, hw3⟩ : ∃ w3, w3 = w2.setCell ⟨b, 4, none⟩ (.pointer v1) := ⟨_, rfl⟩
  rw [← hw3] at hb3 ⊢
  have hwr3 : Wr w2 w3 (fun k => k = b) := by rw [hw3]; exact (Wr.refl w2 (fun k => k = b)).set (S := fun k => k = b) rfl 4 _
  have hbl1 : b ∉ T1.blks := fun hk => by
    rcases HA.out.2.2.2 b hk with h | h
    · exact HN.out.2.2.2.1 h
    · have h' := HL.out b (by rw [Tr.blks_nd]; simp)
      have := HW1.out.size
      have : w1.drew.heap.size = w1.heap.size := rfl
      omega
  have hob : b ∉ l.blks := HN.out.2.2.1
  have ha3 : T1.At w3 := HA.out.1.wr hwr3 (fun k hk e => hbl1 (e ▸ hk))
  have ho3 : l.At w3 := HO2.out.wr hwr3 (fun k hk e => hob (e ▸ hk))
  have hdis : ∀ k ∈ T1.blks, k ∉ l.blks := fun k hk hk' => by
    rcases HA.out.2.2.2 k hk with h | h
    · exact HN.out.2.2.2.2 k hk' h
    · have h' := HL.out k (by rw [Tr.blks_nd]; simp [hk'])
      have := HW1.out.size
      have : w1.drew.heap.size = w1.heap.size := rfl
      omega
  have hn3 : (Tr.nd (b, y) l T1).blks.Nodup := nodup_nd_mk HN.out.1 HA.out.2.1 hob hbl1 (fun k hk hk' => hdis k hk' hk)
  have hht : T1.ht ≤ r.ht := by rw [← ht_sk T1, HK.out, ← ht_sk r]; exact ht_rem _ _
  have HBal := Aside0.mk (balance_calls b y l T1 w3 ⟨⟨_, _, hb3⟩, ho3, ha3⟩ hn3 (by have := HH.out; simp only [Tr.ht] at this; omega) (by have := HH.out; simp only [Tr.ht] at this; omega))
  have HW3 := Aside0.mk (show Wr w w3 (fun k => k ∈ (Tr.nd (b, y) l r).blks) from ((((Wr.of_below _ HW1.out).drewN 1).trans HA.out.2.2.1 (fun k hk => .inl (by rw [Tr.blks_nd]; simp [hk]))).trans hwr3 (fun k hk => .inl (by rw [Tr.blks_nd]; simp [hk]))))
  have HN3 := Aside0.mk hn3
  clear hb3 hwr3 hbl1 hob ha3 ho3 hdis hn3 hht hw3
  go_wp2_with (go_at_call 39; refine HBal.out.mono ?_; rintro e w5 ⟨rfl, hT, hw⟩; have HE := Aside0.mk (And.intro hT hw); clear hT hw)
  go_ret
  have hin : ∀ k ∈ (Tr.nd (b, y) l T1).blks, k ∈ (Tr.nd (b, y) l r).blks ∨ w.heap.size ≤ k := fun k hk => by
    rw [Tr.blks_nd] at hk ⊢
    simp only [List.mem_append, List.mem_cons] at hk ⊢
    have hT1 : k ∈ T1.blks → k ∈ r.blks ∨ w.heap.size ≤ k := fun hk => by
      rcases HA.out.2.2.2 k hk with h | h
      · exact .inl h
      · have := HW1.out.size
        have : w1.drew.heap.size = w1.heap.size := rfl
        exact .inr (by omega)
    rcases hk with hk | hk | hk
    · exact .inl (.inl hk)
    · exact .inl (.inr (.inl hk))
    · rcases hT1 hk with h | h
      · exact .inl (.inr (.inr h))
      · exact .inr h
  refine ⟨Tr.bal (b, y) l T1, rfl, by rw [sk_bal, HK.out], HE.out.1, by rw [blks_bal]; exact HN3.out, HW3.out.trans HE.out.2 hin, fun k hk => hin k (by rw [← blks_bal]; exact hk)⟩
end Go.Proofs.Ytdjfjmcnghfdkaa.My
