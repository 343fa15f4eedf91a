/- A tree and the reference's list; do. -/
import Derived.Test.YtdjfjmcnghfdkaaIT
namespace Go.Proofs.Ytdjfjmcnghfdkaa.My
open Go Go.RowKit Go.Proofs.YtdjfjmcnghfdkaaW.PrintWords Go.Proofs.YtdjfjmcnghfdkaaW.PrintLast Go.Proofs.YtdjfjmcnghfdkaaW.PrintMore Go.Proofs.Ytdjfjmcnghfdkaa.PItreeActs
set_option linter.unusedVariables false
set_option linter.unusedSimpArgs false
/-- The reference's list, a row of the call's own that lives in X. -/
def XR (w : World) (base : Nat) (X : Nat → Prop) (u : Value) (l : List S30) : Prop := Kd.R k30 30 w base X u l ∧ ∀ k, X k → k < w.heap.size
theorem XR.below {w w' : World} {base : Nat} {X : Nat → Prop} {u : Value} {l : List S30} (h : XR w base X u l) (hb : Below w.heap.size w w') : XR w' base X u l := ⟨Kd.R_below h.1 hb, fun k hk => Nat.lt_of_lt_of_le (h.2 k hk) hb.size⟩
theorem XR.off {w w' : World} {base : Nat} {S X : Nat → Prop} {u : Value} {l : List S30} (h : XR w base X u l) (hb : Wr w w' S) (hd : ∀ k, S k → ¬ X k) : XR w' base X u l :=
  ⟨Kd.R_step h.1 (fun k hk hl => hb.2.2.2.2 k hl (fun hs => hd k hs hk)), fun k hk => Nat.lt_of_lt_of_le (h.2 k hk) hb.size⟩
theorem XR.reads {w : World} {base : Nat} {X : Nat → Prop} {u : Value} {l : List S30} (h : XR w base X u l) : ∃ A c, u = .slice A l.length c ∧ l.length ≤ c ∧ Kd.C k30 w A l.length l := Kd.R_reads h.1
theorem XR.of_ref {w w' : World} {base : Nat} {X : Nat → Prop} {u : Value} {l : List S30} (h : Kd.R k30 30 w' base (fun k => X k ∨ w.heap.size ≤ k) u l) : XR w' base (fun k => (X k ∨ w.heap.size ≤ k) ∧ k < w'.heap.size) u l :=
  ⟨Kd.R_mono (Kd.R_bound h) (fun k hk => ⟨hk.1, hk.2.2.1⟩), fun k hk => hk.2⟩
theorem XR.nil (w : World) (base : Nat) : XR w base (fun _ => False) (.slice none 0 0) [] := ⟨Kd.R_nil _ _ _ _ _, fun _ h => h.elim⟩
/-- The tree at t lives in S, the reference's list u in X: they have the same items. -/
structure Pair (w0 w : World) (S X : Nat → Prop) (t : Nat) (u : Value) (Q : Tr S30) : Prop where
  tree : TG w S t Q
  list : XR w w0.heap.size X u Q.list
  apart : ∀ k, S k → ¬ X k
  sb : ∀ k, S k → w0.heap.size ≤ k
  below : Below w0.heap.size w0 w
theorem Pair.move {w0 w w' : World} {S X : Nat → Prop} {t : Nat} {u : Value} {Q : Tr S30} (h : Pair w0 w S X t u Q) (hb : Below w.heap.size w w') : Pair w0 w' S X t u Q :=
  ⟨h.tree.below hb, h.list.below hb, h.apart, h.sb, below_then h.below h.below.size hb⟩
structure S46 where
  f0 : Int
  f1 : S30
def z46 : S46 := ⟨0, z30⟩
def stepT (Q : Tr S30) (o : S46) : Tr S30 × Bool := if o.f0 = 0 then addT Q o.f1 else remT Q o.f1
theorem len_stepT {Q : Tr S30} (h : Ord Q) (o : S46) : (stepT Q o).1.list.length ≤ Q.list.length + 1 := by
  unfold stepT
  split
  · exact len_addT Q o.f1
  · exact Nat.le_succ_of_le (len_remT h o.f1)
def opV (o : S46) : Value := .agg #[.int .i64 o.f0, .int .i64 o.f1.f0.f0, .int .i64 o.f1.f0.f1, .int .i64 o.f1.f1]
abbrev DoPost (w0 w : World) (t : Nat) (Q : Tr S30) : Ending → World → Prop := fun e w' => ∃ u' S' X', e = .returned (.tuple #[u', .bool true]) ∧ Pair w0 w' S' X' t u' Q
theorem Below.wr' {w0 w w' : World} {S : Nat → Prop} (h : Below w0.heap.size w0 w) (hw : Wr w w' S) (hs : ∀ k, S k → w0.heap.size ≤ k) : Below w0.heap.size w0 w' := h.trans (hw.below h.size hs)
theorem Wr.of_kept {w w' : World} {X : Nat → Prop} {B : Nat} {w0 : World} (h0 : Below B w0 w) (h1 : Below B w0 w') (h : Kept w w' X) : Wr w w' X := ⟨h1.os.trans h0.os.symm, h1.tape.trans h0.tape.symm, h1.output.trans h0.output.symm, h.1, h.2⟩
set_option maxHeartbeats 1000000 in
set_option maxRecDepth 100000 in
theorem do_add (w0 w : World) (S X : Nat → Prop) (t : Nat) (u : Value) (Q : Tr S30) (o : S46) (h : Pair w0 w S X t u Q) (hn : Q.list.length ≤ 600) (ho : o.f0 = 0) :
    Calls Try.prog 22 #[.pointer (some ⟨t, 0, none⟩), u, opV o] w (DoPost w0 w t (addT Q o.f1).1) := by
  obtain ⟨A, c, rfl⟩ := Kd.R_slice h.list.1
  obtain ⟨wb, hwb⟩ : ∃ wb, wb = w.alloc (.cells #[.int .i64 o.f0, .int .i64 o.f1.f0.f0, .int .i64 o.f1.f0.f1, .int .i64 o.f1.f1] 46) := ⟨_, rfl⟩
  have hW : Below w.heap.size w wb := by rw [hwb]; exact below_alloc (Below.refl _ _) _
  have hg : wb.heap[w.heap.size]? = some (.cells #[.int .i64 o.f0, .int .i64 o.f1.f0.f0, .int .i64 o.f1.f0.f1, .int .i64 o.f1.f1] 46 (0, 0)) := by rw [hwb]; exact blk_new w _
  have hP := h.move hW
  have HA := Aside0.mk (bitemporalref29_Add.calls (2 * Q.list.length + 4) X (.slice A Q.list.length c) Q.list o.f1.f0.f0 o.f1.f0.f1 o.f1.f1 _ _ w0 wb hP.below hP.list.1 (add_f Q.list o.f1 (by omega)))
  rw [add_ref h.tree.2 o.f1] at HA
  obtain ⟨b, hb⟩ : ∃ b, b = (addT Q o.f1).2 := ⟨_, rfl⟩
  have hnX : ¬ X w.heap.size := fun hx => Nat.lt_irrefl _ (h.list.2 _ hx)
  have hnS : ¬ S w.heap.size := fun hx => Nat.lt_irrefl _ (h.tree.1.lt _ hx)
  have HT := Aside0.mk (fun (w' : World) (hT : TG w' S t Q) => tadd_calls w' S t Q o.f1 hT hn)
  dsimp only at HA
  rw [← hb] at HA HT
  have HP := Aside0.mk hP
  have HG := Aside0.mk hg
  have HNX := Aside0.mk hnX
  have HNS := Aside0.mk hnS
  have HWB := Aside0.mk hwb
  have HW := Aside0.mk hW
  have HB0 := Aside0.mk h.below
  have hk : (o.f0 == 0) = true := by simp [ho]
  have hu46 := Try.underlying46
  have hu28 := Try.underlying28
  have hc0 : wb.cell? ⟨w.heap.size, 0, none⟩ = some (.int .i64 o.f0) := (blk_cell hg 0).trans rfl
  have hc1 : wb.cell? ⟨w.heap.size, 1, none⟩ = some (.int .i64 o.f1.f0.f0) := (blk_cell hg 1).trans rfl
  have hc2 : wb.cell? ⟨w.heap.size, 2, none⟩ = some (.int .i64 o.f1.f0.f1) := (blk_cell hg 2).trans rfl
  have hc3 : wb.cell? ⟨w.heap.size, 3, none⟩ = some (.int .i64 o.f1.f1) := (blk_cell hg 3).trans rfl
  clear h hW hP hg hnX hnS hwb hb ho hn
  show Calls Try.prog 22 #[.pointer (some ⟨t, 0, none⟩), .slice A Q.list.length c, .agg #[.int .i64 o.f0, .int .i64 o.f1.f0.f0, .int .i64 o.f1.f0.f1, .int .i64 o.f1.f1]] w _
  go_enter Try.func22, Try.ntmps22
  go_wp2_with fail
  rw [← HWB.out]
  go_wp2_with (first
    | (go_at_call 35; with_reducible refine HA.out.mono ?_; rintro e w1 ⟨v1, rfl, hR, hB, hK⟩
       have hw := Wr.of_kept HP.out.below hB hK
       have hg1 := hw.keep HG.out HNX.out
       have HG1 := Aside0.mk hg1
       have HT1 := Aside0.mk (HP.out.tree.off hw HP.out.apart)
       have HX1 := Aside0.mk (XR.of_ref hR)
       have HB1 := Aside0.mk hB
       have HK1 := Aside0.mk hK
       have hc1 : w1.cell? ⟨w.heap.size, 1, none⟩ = some (.int .i64 o.f1.f0.f0) := (blk_cell hg1 1).trans rfl
       have hc2 : w1.cell? ⟨w.heap.size, 2, none⟩ = some (.int .i64 o.f1.f0.f1) := (blk_cell hg1 2).trans rfl
       have hc3 : w1.cell? ⟨w.heap.size, 3, none⟩ = some (.int .i64 o.f1.f1) := (blk_cell hg1 3).trans rfl
       obtain ⟨A1, c1, rfl⟩ := Kd.R_slice hR
       clear hR hB hK hw hg1 HA)
    | (go_at_call 11; with_reducible refine (HT.out w1 HT1.out).mono ?_; rintro e w2 ⟨rfl, hT, hW2⟩
       have HT2 := Aside0.mk hT
       have HW2 := Aside0.mk hW2
       clear hT hW2))
  go_ret2
  have hap : ∀ k, S k → ¬ ((X k ∨ wb.heap.size ≤ k) ∧ k < w1.heap.size) := fun k hs hx => by
    rcases hx.1 with h | h
    · exact HP.out.apart k hs h
    · have := HP.out.tree.1.lt k hs
      omega
  refine ⟨_, _, _, by cases b <;> rfl, HT2.out, HX1.out.off HW2.out hap, fun k hs hx => ?_, fun k hs => ?_, Below.wr' HB1.out HW2.out HP.out.sb⟩
  · rcases hs.1 with h | h
    · exact hap k h hx
    · exact absurd hx.2 (by omega)
  · rcases hs.1 with h | h
    · exact HP.out.sb k h
    · have := HB1.out.size
      omega
set_option maxHeartbeats 1000000 in
set_option maxRecDepth 100000 in
theorem do_rem (w0 w : World) (S X : Nat → Prop) (t : Nat) (u : Value) (Q : Tr S30) (o : S46) (h : Pair w0 w S X t u Q) (hn : Q.list.length ≤ 600) (ho : ¬ o.f0 = 0) :
    Calls Try.prog 22 #[.pointer (some ⟨t, 0, none⟩), u, opV o] w (DoPost w0 w t (remT Q o.f1).1) := by
  obtain ⟨A, c, rfl⟩ := Kd.R_slice h.list.1
  obtain ⟨wb, hwb⟩ : ∃ wb, wb = w.alloc (.cells #[.int .i64 o.f0, .int .i64 o.f1.f0.f0, .int .i64 o.f1.f0.f1, .int .i64 o.f1.f1] 46) := ⟨_, rfl⟩
  have hW : Below w.heap.size w wb := by rw [hwb]; exact below_alloc (Below.refl _ _) _
  have hg : wb.heap[w.heap.size]? = some (.cells #[.int .i64 o.f0, .int .i64 o.f1.f0.f0, .int .i64 o.f1.f0.f1, .int .i64 o.f1.f1] 46 (0, 0)) := by rw [hwb]; exact blk_new w _
  have hP := h.move hW
  have HA := Aside0.mk (bitemporalref29_Remove.calls (Q.list.length + 1) X (.slice A Q.list.length c) Q.list o.f1.f0.f0 o.f1.f0.f1 o.f1.f1 _ _ w0 wb hP.below hP.list.1 (remove_f Q.list o.f1 (by omega)))
  rw [rem_ref h.tree.2 o.f1] at HA
  obtain ⟨b, hb⟩ : ∃ b, b = (remT Q o.f1).2 := ⟨_, rfl⟩
  have hnX : ¬ X w.heap.size := fun hx => Nat.lt_irrefl _ (h.list.2 _ hx)
  have hnS : ¬ S w.heap.size := fun hx => Nat.lt_irrefl _ (h.tree.1.lt _ hx)
  have HT := Aside0.mk (fun (w' : World) (hT : TG w' S t Q) => tremove_calls w' S t Q o.f1 hT hn)
  dsimp only at HA
  rw [← hb] at HA HT
  have HP := Aside0.mk hP
  have HG := Aside0.mk hg
  have HNX := Aside0.mk hnX
  have HNS := Aside0.mk hnS
  have HWB := Aside0.mk hwb
  have HW := Aside0.mk hW
  have HB0 := Aside0.mk h.below
  have hk : (o.f0 == 0) = false := by simp [ho]
  have hu46 := Try.underlying46
  have hu28 := Try.underlying28
  have hc0 : wb.cell? ⟨w.heap.size, 0, none⟩ = some (.int .i64 o.f0) := (blk_cell hg 0).trans rfl
  have hc1 : wb.cell? ⟨w.heap.size, 1, none⟩ = some (.int .i64 o.f1.f0.f0) := (blk_cell hg 1).trans rfl
  have hc2 : wb.cell? ⟨w.heap.size, 2, none⟩ = some (.int .i64 o.f1.f0.f1) := (blk_cell hg 2).trans rfl
  have hc3 : wb.cell? ⟨w.heap.size, 3, none⟩ = some (.int .i64 o.f1.f1) := (blk_cell hg 3).trans rfl
  clear h hW hP hg hnX hnS hwb hb ho hn
  show Calls Try.prog 22 #[.pointer (some ⟨t, 0, none⟩), .slice A Q.list.length c, .agg #[.int .i64 o.f0, .int .i64 o.f1.f0.f0, .int .i64 o.f1.f0.f1, .int .i64 o.f1.f1]] w _
  go_enter Try.func22, Try.ntmps22
  go_wp2_with fail
  rw [← HWB.out]
  go_wp2_with (first
    | (go_at_call 36; with_reducible refine HA.out.mono ?_; rintro e w1 ⟨v1, rfl, hR, hB, hK⟩
       have hw := Wr.of_kept HP.out.below hB hK
       have hg1 := hw.keep HG.out HNX.out
       have HG1 := Aside0.mk hg1
       have HT1 := Aside0.mk (HP.out.tree.off hw HP.out.apart)
       have HX1 := Aside0.mk (XR.of_ref hR)
       have HB1 := Aside0.mk hB
       have HK1 := Aside0.mk hK
       have hc1 : w1.cell? ⟨w.heap.size, 1, none⟩ = some (.int .i64 o.f1.f0.f0) := (blk_cell hg1 1).trans rfl
       have hc2 : w1.cell? ⟨w.heap.size, 2, none⟩ = some (.int .i64 o.f1.f0.f1) := (blk_cell hg1 2).trans rfl
       have hc3 : w1.cell? ⟨w.heap.size, 3, none⟩ = some (.int .i64 o.f1.f1) := (blk_cell hg1 3).trans rfl
       obtain ⟨A1, c1, rfl⟩ := Kd.R_slice hR
       clear hR hB hK hw hg1 HA)
    | (go_at_call 19; with_reducible refine (HT.out w1 HT1.out).mono ?_; rintro e w2 ⟨rfl, hT, hW2⟩
       have HT2 := Aside0.mk hT
       have HW2 := Aside0.mk hW2
       clear hT hW2))
  go_ret2
  have hap : ∀ k, S k → ¬ ((X k ∨ wb.heap.size ≤ k) ∧ k < w1.heap.size) := fun k hs hx => by
    rcases hx.1 with h | h
    · exact HP.out.apart k hs h
    · have := HP.out.tree.1.lt k hs
      omega
  refine ⟨_, _, _, by cases b <;> rfl, HT2.out, HX1.out.off HW2.out hap, fun k hs hx => ?_, fun k hs => ?_, Below.wr' HB1.out HW2.out HP.out.sb⟩
  · rcases hs.1 with h | h
    · exact hap k h hx
    · exact absurd hx.2 (by omega)
  · rcases hs.1 with h | h
    · exact HP.out.sb k h
    · have := HB1.out.size
      omega
theorem do_calls (w0 w : World) (S X : Nat → Prop) (t : Nat) (u : Value) (Q : Tr S30) (o : S46) (h : Pair w0 w S X t u Q) (hn : Q.list.length ≤ 600) :
    Calls Try.prog 22 #[.pointer (some ⟨t, 0, none⟩), u, opV o] w (DoPost w0 w t (stepT Q o).1) := by
  unfold stepT
  by_cases ho : o.f0 = 0
  · rw [if_pos ho]; exact do_add w0 w S X t u Q o h hn ho
  · rw [if_neg ho]; exact do_rem w0 w S X t u Q o h hn ho
end Go.Proofs.Ytdjfjmcnghfdkaa.My
