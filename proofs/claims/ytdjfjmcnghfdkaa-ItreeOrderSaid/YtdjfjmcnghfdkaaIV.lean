/- The chapter's example. -/
import Derived.Test.YtdjfjmcnghfdkaaIU
namespace Go.Proofs.Ytdjfjmcnghfdkaa.My
open Go Go.RowKit Go.Proofs.YtdjfjmcnghfdkaaW.PrintWords Go.Proofs.YtdjfjmcnghfdkaaW.PrintLast Go.Proofs.YtdjfjmcnghfdkaaW.PrintMore Go.Proofs.Ytdjfjmcnghfdkaa.PItreeActs
set_option linter.unusedVariables false
set_option linter.unusedSimpArgs false
theorem HN.reads' {w : World} {base : Nat} {v : Value} {zs : List Int} (h : HN w base v zs) : ∃ A c, v = .slice A zs.length c ∧ zs.length ≤ c ∧ Kd.C (Kd.int .i64) w A zs.length zs := by
  obtain ⟨A, c, rfl, hn, h | ⟨g, rfl, hg, hl, hc, hH⟩⟩ := h
  · obtain ⟨rfl, rfl⟩ := h
    exact ⟨none, c, rfl, by simp, rfl, by simp, fun h => absurd h (by simp)⟩
  · obtain ⟨A', c', e, _, hC⟩ := HN.reads (base := base) ⟨_, c, rfl, hn, .inr ⟨g, rfl, hg, hl, hc, hH⟩⟩
    injection e with e1 e2 e3
    subst e1
    exact ⟨_, c, rfl, hc, hC⟩
theorem lit2_reads (w : World) (a b : Int) : Kd.C (Kd.int .i64) (w.alloc (.cells #[.int .i64 a, .int .i64 b] 3)) (some ⟨w.heap.size, 0, none⟩) 2 [a, b] := by
  have hb := blk_new w (.cells #[.int .i64 a, .int .i64 b] 3)
  refine ⟨rfl, by omega, fun _ => ⟨_, rfl, fun j p hj => ⟨[.int .i64 p], rfl, rfl, fun i u hu => ?_⟩⟩⟩
  rcases i with _ | i
  · simp at hu
    subst hu
    show (w.alloc _).cell? (Addr.add ⟨w.heap.size, 0, none⟩ (j * 1 + 0)) = _
    rw [show Addr.add ⟨w.heap.size, 0, none⟩ (j * 1 + 0) = ⟨w.heap.size, j, none⟩ from by simp [Addr.add, eq_comm], blk_cell hb j]
    rcases j with _ | _ | j
    · simp at hj; subst hj; rfl
    · simp at hj; subst hj; rfl
    · simp at hj
  · simp at hu
def x1 : S30 := ⟨⟨0, 5⟩, 1⟩
def x2 : S30 := ⟨⟨3, 9⟩, 2⟩
def x3 : S30 := ⟨⟨5, 6⟩, 3⟩
def x4 : S30 := ⟨⟨4, 4⟩, 4⟩
def q1 : Tr S30 := .nd x1 .nil .nil
def q2 : Tr S30 := .nd x1 .nil (.nd x2 .nil .nil)
def q3 : Tr S30 := .nd x2 (.nd x1 .nil .nil) (.nd x3 .nil .nil)
theorem add1 : addT .nil ⟨⟨0, 5⟩, 1⟩ = (q1, true) := by rfl
theorem add2 : addT q1 ⟨⟨3, 9⟩, 2⟩ = (q2, true) := by rfl
theorem add3 : addT q2 ⟨⟨5, 6⟩, 3⟩ = (q3, true) := by rfl
theorem add4 : addT q3 ⟨⟨3, 9⟩, 2⟩ = (q3, false) := by rfl
theorem add5 : addT q3 ⟨⟨4, 4⟩, 4⟩ = (q3, false) := by rfl
theorem good3 : Good q3 3 := by
  have h1 := (Good.nil.add ⟨⟨0, 5⟩, 1⟩)
  rw [add1] at h1
  have h2 := h1.add ⟨⟨3, 9⟩, 2⟩
  rw [add2] at h2
  have h3 := h2.add ⟨⟨5, 6⟩, 3⟩
  rw [add3] at h3
  exact h3
theorem stab5 : stT 5 q3 = [2, 3] := by
  obtain ⟨h1, h2⟩ := stT_spec (at_ := 5) good3
  refine int_asc_ext h1 (by decide) (fun n => ?_)
  rw [h2]
  show (∃ z ∈ [x1, x2, x3], _) ↔ _
  simp [x1, x2, x3]
  omega
theorem over04 : ovT ⟨0, 4⟩ q3 = [1, 2] := by
  obtain ⟨h1, h2⟩ := ovT_spec (p := ⟨0, 4⟩) good3.ord
  refine int_asc_ext h1 (by decide) (fun n => ?_)
  rw [h2]
  show (vldB ⟨0, 4⟩ = true ∧ ∃ z ∈ [x1, x2, x3], _) ↔ _
  simp [x1, x2, x3, vldB, Hit]
  omega
theorem tadd_lit (w : World) (S : Nat → Prop) (t : Nat) (Q : Tr S30) (x : S30) (R : Tr S30 × Bool) (hR : addT Q x = R) (h : TG w S t Q) (hn : Q.list.length ≤ 600) :
    Calls Try.prog 11 #[.pointer (some ⟨t, 0, none⟩), .agg #[.int .i64 x.f0.f0, .int .i64 x.f0.f1], .int .i64 x.f1] w (TPost w S t R.1 R.2) := by
  rw [← hR]; exact tadd_calls w S t Q x h hn
theorem ext_base {S : Nat → Prop} {w w' : World} {base : Nat} (h : ∀ k, S k → base ≤ k) (hb : base ≤ w.heap.size) : ∀ k, ext S w w' k → base ≤ k := fun k hk => by
  rcases hk.1 with h1 | h1
  · exact h k h1
  · omega
/-- A tree of the call's own: in blocks from base on. -/
def TB (w0 w : World) (t : Nat) (Q : Tr S30) : Prop := ∃ S, TG w S t Q ∧ (∀ k, S k → w0.heap.size ≤ k) ∧ Below w0.heap.size w0 w
theorem TB.move {w0 w w' : World} {t : Nat} {Q : Tr S30} (h : TB w0 w t Q) (hb : Below w.heap.size w w') : TB w0 w' t Q := by
  obtain ⟨S, h1, h2, h3⟩ := h
  exact ⟨S, h1.below hb, h2, below_then h3 h3.size hb⟩
theorem TB.below {w0 w : World} {t : Nat} {Q : Tr S30} (h : TB w0 w t Q) : Below w0.heap.size w0 w := by
  obtain ⟨S, h1, h2, h3⟩ := h
  exact h3
theorem bnew (w0 w : World) (h : Below w0.heap.size w0 w) : Calls Try.prog 10 #[] w fun e w' => ∃ t, e = .returned (.pointer (some ⟨t, 0, none⟩)) ∧ TB w0 w' t .nil ∧ Below w.heap.size w w' :=
  (tnew_calls w).mono fun e w' ⟨t, he, ht, hb⟩ => ⟨t, he, ⟨_, ht, fun k hk => Nat.le_trans h.size hk.1, below_then h h.size hb⟩, hb⟩
theorem badd (w0 w : World) (t : Nat) (Q : Tr S30) (x : S30) (R : Tr S30 × Bool) (hR : addT Q x = R) (h : TB w0 w t Q) (hn : Q.list.length ≤ 600) :
    Calls Try.prog 11 #[.pointer (some ⟨t, 0, none⟩), .agg #[.int .i64 x.f0.f0, .int .i64 x.f0.f1], .int .i64 x.f1] w fun e w' => e = .returned (.bool R.2) ∧ TB w0 w' t R.1 := by
  obtain ⟨S, h1, h2, h3⟩ := h
  exact (tadd_lit w S t Q x R hR h1 hn).mono fun e w' ⟨he, ht, hw⟩ => ⟨he, _, ht, ext_base h2 h3.size, Below.wr' h3 hw h2⟩
theorem bremove (w0 w : World) (t : Nat) (Q : Tr S30) (x : S30) (h : TB w0 w t Q) (hn : Q.list.length ≤ 600) :
    Calls Try.prog 19 #[.pointer (some ⟨t, 0, none⟩), .agg #[.int .i64 x.f0.f0, .int .i64 x.f0.f1], .int .i64 x.f1] w fun e w' => e = .returned (.bool (remT Q x).2) ∧ TB w0 w' t (remT Q x).1 := by
  obtain ⟨S, h1, h2, h3⟩ := h
  exact (tremove_calls w S t Q x h1 hn).mono fun e w' ⟨he, ht, hw⟩ => ⟨he, _, ht, ext_base h2 h3.size, Below.wr' h3 hw h2⟩
theorem bov (w0 w : World) (t : Nat) (Q : Tr S30) (p : S28) (h : TB w0 w t Q) (hn : Q.list.length ≤ 600) :
    Calls Try.prog 12 #[.pointer (some ⟨t, 0, none⟩), .agg #[.int .i64 p.f0, .int .i64 p.f1]] w (OvPost w (ovT p Q)) := by
  obtain ⟨S, h1, h2, h3⟩ := h
  exact tov_calls w S t Q p h1 hn
theorem bst (w0 w : World) (t : Nat) (Q : Tr S30) (at_ : Int) (h : TB w0 w t Q) (hn : Q.list.length ≤ 600) :
    Calls Try.prog 14 #[.pointer (some ⟨t, 0, none⟩), .int .i64 at_] w (OvPost w (stT at_ Q)) := by
  obtain ⟨S, h1, h2, h3⟩ := h
  exact tst_calls w S t Q at_ h1 hn
theorem blen (w0 w : World) (t : Nat) (Q : Tr S30) (h : TB w0 w t Q) : Calls Try.prog 20 #[.pointer (some ⟨t, 0, none⟩)] w fun e w' => e = .returned (.int .i64 (Q.list.length : Nat)) ∧ w = w' := by
  obtain ⟨S, h1, h2, h3⟩ := h
  exact len_calls w S t Q _ h1.1
theorem bheight (w0 w : World) (t : Nat) (Q : Tr S30) (h : TB w0 w t Q) : Calls Try.prog 21 #[.pointer (some ⟨t, 0, none⟩)] w fun e w' => e = .returned (.int .i64 (Q.ht : Nat)) ∧ w = w' := by
  obtain ⟨S, h1, h2, h3⟩ := h
  exact height_calls w S t Q _ h1.1
theorem bitems (w0 w : World) (t : Nat) (Q : Tr S30) (h : TB w0 w t Q) (hn : Q.list.length ≤ 600) :
    Calls Try.prog 24 #[.pointer (some ⟨t, 0, none⟩)] w fun e w' => ∃ v, e = .returned v ∧ RI w' w.heap.size v Q.list ∧ Below w.heap.size w w' := by
  obtain ⟨S, h1, h2, h3⟩ := h
  exact items_calls w S t Q _ h1.1 (by omega)
theorem ints_calls (w : World) (A A' : Option Addr) (c c' : Nat) (a b : List Int) (ha : Kd.C (Kd.int .i64) w A a.length a) (hb : Kd.C (Kd.int .i64) w A' b.length b) (h1 : a.length ≤ c) (h2 : b.length ≤ c') (hn : a.length ≤ 1000000) :
    Calls Try.prog 16 #[.slice A a.length c, .slice A' b.length c'] w fun e w' => e = .returned (.bool (decide (a = b))) ∧ Drawn0 w w' :=
  bitemporallaw29_ints.calls _ A c a A' c' b _ w ha h1 hb h2 (ints_f a b hn)
theorem itemseq_calls (w : World) (A A' : Option Addr) (c c' : Nat) (a b : List S30) (ha : Kd.C k30 w A a.length a) (hb : Kd.C k30 w A' b.length b) (h1 : a.length ≤ c) (h2 : b.length ≤ c') (hn : a.length ≤ 1000000) :
    Calls Try.prog 23 #[.slice A a.length c, .slice A' b.length c'] w fun e w' => e = .returned (.bool (decide (a = b))) ∧ Drawn0 w w' :=
  bitemporallaw29_items.calls _ A c a A' c' b _ w ha h1 hb h2 (items_f a b hn)
theorem baddl (w0 w : World) (t : Nat) (Q : Tr S30) (a b n : Int) (R : Tr S30) (r : Bool) (hR : addT Q ⟨⟨a, b⟩, n⟩ = (R, r)) (h : TB w0 w t Q) (hn : Q.list.length ≤ 600) :
    Calls Try.prog 11 #[.pointer (some ⟨t, 0, none⟩), .agg #[.int .i64 a, .int .i64 b], .int .i64 n] w fun e w' => e = .returned (.bool r) ∧ TB w0 w' t R := badd w0 w t Q ⟨⟨a, b⟩, n⟩ _ hR h hn
theorem ints_lit (w : World) (A : Option Addr) (c : Nat) (a b : Int) (h1 : 2 ≤ c) (h : Kd.C (Kd.int .i64) w A 2 [a, b]) :
    Calls Try.prog 16 #[.slice A 2 c, .slice (some ⟨w.heap.size, 0, none⟩) 2 2] (w.alloc (.cells #[.int .i64 a, .int .i64 b] 3)) fun e w' => e = .returned (.bool true) ∧ Below w.heap.size w w' :=
  (ints_calls _ A _ c 2 [a, b] [a, b] (Kd.C_below h (below_alloc (Below.refl _ _) _)) (lit2_reads w a b) h1 (by simp) (by simp)).mono fun e w' ⟨he, hd⟩ => by
    obtain ⟨n, rfl⟩ := hd.out
    exact ⟨by rw [he]; simp, pw_below_drewN (below_alloc (Below.refl _ _) _) n⟩
theorem ln0 : (Tr.nil : Tr S30).list.length ≤ 600 := by decide
theorem ln1 : q1.list.length ≤ 600 := by decide
theorem ln2 : q2.list.length ≤ 600 := by decide
theorem ln3 : q3.list.length ≤ 600 := by decide
set_option maxHeartbeats 4000000 in
set_option maxRecDepth 100000 in
theorem works_calls (w0 w : World) (hw : Below w0.heap.size w0 w) : Calls Try.prog 9 #[] w fun e w' => e = .returned (.bool true) ∧ Below w.heap.size w w' := by
  have HW := Aside0.mk hw
  clear hw
  go_enter Try.func9, Try.ntmps9
  go_wp2_with (first
    | (go_at_call 10; refine (bnew w w (Below.refl _ _)).mono ?_; rintro e w1 ⟨t, rfl, hT, hB⟩; have HT0 := Aside0.mk hT; clear hT hB)
    | (go_at_call 11; with_reducible refine (baddl w _ t .nil 0 5 1 q1 true add1 HT0.out ln0).mono ?_; rintro e w2 ⟨rfl, hT⟩; have HT1 := Aside0.mk hT; clear hT HT0)
    | (go_at_call 11; with_reducible refine (baddl w _ t q1 3 9 2 q2 true add2 HT1.out ln1).mono ?_; rintro e w3 ⟨rfl, hT⟩; have HT2 := Aside0.mk hT; clear hT HT1)
    | (go_at_call 11; with_reducible refine (baddl w _ t q2 5 6 3 q3 true add3 HT2.out ln2).mono ?_; rintro e w4 ⟨rfl, hT⟩; have HT3 := Aside0.mk hT; clear hT HT2)
    | (go_at_call 11; with_reducible refine (baddl w _ t q3 3 9 2 q3 false add4 HT3.out ln3).mono ?_; rintro e w5 ⟨rfl, hT⟩; have HT4 := Aside0.mk hT; clear hT HT3)
    | (go_at_call 11; with_reducible refine (baddl w _ t q3 4 4 4 q3 false add5 HT4.out ln3).mono ?_; rintro e w6 ⟨rfl, hT⟩; have HT5 := Aside0.mk hT; clear hT HT4)
    | (go_at_call 14; with_reducible refine (bst w _ t q3 5 HT5.out ln3).mono ?_; rintro e w7 ⟨v7, rfl, hH, hB⟩; rw [stab5] at hH; have HT6 := Aside0.mk (HT5.out.move hB); obtain ⟨A7, c7, rfl, hc7, hC7⟩ := hH.reads'; have HC7 := Aside0.mk (And.intro hc7 hC7); clear hH hB hc7 hC7 HT5)
    | (go_at_call 16; refine (ints_lit w7 A7 c7 2 3 HC7.out.1 HC7.out.2).mono ?_; rintro e w8 ⟨rfl, hB⟩; have HT7 := Aside0.mk (HT6.out.move hB); clear hB HT6 HC7)
    | (go_at_call 12; with_reducible refine (bov w _ t q3 ⟨0, 4⟩ HT7.out ln3).mono ?_; rintro e w9 ⟨v9, rfl, hH, hB⟩; rw [over04] at hH; have HT8 := Aside0.mk (HT7.out.move hB); obtain ⟨A9, c9, rfl, hc9, hC9⟩ := hH.reads'; have HC9 := Aside0.mk (And.intro hc9 hC9); clear hH hB hc9 hC9 HT7)
    | (go_at_call 16; refine (ints_lit w9 A9 c9 1 2 HC9.out.1 HC9.out.2).mono ?_; rintro e w10 ⟨rfl, hB⟩; have HT9 := Aside0.mk (HT8.out.move hB); clear hB HT8 HC9)
    | (go_at_call 20; with_reducible refine (blen w _ t q3 HT9.out).mono ?_; rintro e _ ⟨rfl, rfl⟩; rw [show ((q3.list.length : Nat) : Int) = 3 from rfl])
    | (go_at_call 21; with_reducible refine (bheight w _ t q3 HT9.out).mono ?_; rintro e _ ⟨rfl, rfl⟩; rw [show ((q3.ht : Nat) : Int) = 2 from rfl]))
  go_ret
  exact ⟨rfl, HT9.out.below⟩
end Go.Proofs.Ytdjfjmcnghfdkaa.My
