/- The tree and the reference's list; what a tree's methods do to a good tree. -/
import Derived.Test.YtdjfjmcnghfdkaaIS
namespace Go.Proofs.Ytdjfjmcnghfdkaa.My
open Go Go.RowKit Go.Proofs.YtdjfjmcnghfdkaaW.PrintWords Go.Proofs.YtdjfjmcnghfdkaaW.PrintLast Go.Proofs.Ytdjfjmcnghfdkaa.PItreeActs
set_option linter.unusedVariables false
set_option linter.unusedSimpArgs false
theorem has_dec {Q : Tr S30} (h : Ord Q) (x : S30) : hasT Q x = decide (x ∈ Q.list) := by
  rw [Bool.eq_iff_iff, hasT_mem x h, decide_eq_true_eq]
theorem filter_asc {l : List S30} {P : S30 → Bool} (h : l.Pairwise bef) : (l.filter P).Pairwise bef := h.filter P
theorem add_ref {Q : Tr S30} {n : Nat} (h : Good Q n) (x : S30) : addR Q.list x = ((addT Q x).1.list, (addT Q x).2) := by
  unfold addR addT
  by_cases hc : vldB x.f0 = true ∧ x ∉ Q.list
  · have hq : hasT Q x = false := by rw [has_dec h.ord]; simpa using hc.2
    rw [if_pos hc, if_pos ⟨hc.1, hq⟩]
    refine Prod.ext ?_ rfl
    refine asc_ext (R := bef) bef_irrefl bef_trans ?_ (ins_ord h.ord hc.2) (fun z => ?_)
    · refine Ord.mk' (filter_asc h.ord) (filter_asc h.ord) (fun z hz => ?_) (fun z hz => ?_)
      · simpa using (List.mem_filter.1 hz).2
      · simpa using (List.mem_filter.1 hz).2
    · rw [ins_mem]
      simp only [List.mem_append, List.mem_cons, List.mem_filter, decide_eq_true_eq]
      constructor
      · rintro (⟨h, _⟩ | h | ⟨h, _⟩)
        · exact .inr h
        · exact .inl h
        · exact .inr h
      · rintro (h | h)
        · exact .inr (.inl h)
        · rcases bef_tri z x with h' | h' | h'
          · exact .inl ⟨h, h'⟩
          · exact .inr (.inl h')
          · exact .inr (.inr ⟨h, h'⟩)
  · rw [if_neg hc, if_neg (fun hh => hc ⟨hh.1, fun hm => by rw [has_dec h.ord] at hh; simp [hm] at hh⟩)]
theorem rem_ref {Q : Tr S30} {n : Nat} (h : Good Q n) (x : S30) : remR Q.list x = ((remT Q x).1.list, (remT Q x).2) := by
  unfold remR remT
  by_cases hc : x ∈ Q.list
  · rw [if_pos hc, if_pos ((hasT_mem x h.ord).2 hc)]
    obtain ⟨_, h2, h3⟩ := rem_spec h.ord hc
    refine Prod.ext ?_ rfl
    refine asc_ext (R := bef) bef_irrefl bef_trans (filter_asc h.ord) h3 (fun z => ?_)
    rw [h2, List.mem_filter, decide_eq_true_eq]
  · rw [if_neg hc, if_neg (fun hh => hc ((hasT_mem x h.ord).1 hh))]
theorem putR_spec {l : List Int} (n : Int) (h : l.Pairwise (fun x y => x < y)) : (putR l n).Pairwise (fun x y => x < y) ∧ ∀ z, z ∈ putR l n ↔ z = n ∨ z ∈ l := by
  unfold putR
  constructor
  · rw [List.pairwise_append, List.pairwise_cons]
    refine ⟨h.filter _, ⟨fun z hz => by simpa using (List.mem_filter.1 hz).2, h.filter _⟩, fun a ha b hb => ?_⟩
    have h1 : a < n := by simpa using (List.mem_filter.1 ha).2
    rcases List.mem_cons.1 hb with rfl | hb
    · exact h1
    · have h2 : n < b := by simpa using (List.mem_filter.1 hb).2
      show a < b
      omega
  · intro z
    simp only [List.mem_append, List.mem_cons, List.mem_filter, decide_eq_true_eq]
    constructor
    · rintro (⟨h, _⟩ | h | ⟨h, _⟩)
      · exact .inr h
      · exact .inl h
      · exact .inr h
    · rintro (h | h)
      · exact .inr (.inl h)
      · rcases Int.lt_trichotomy z n with h' | h' | h'
        · exact .inl ⟨h, h'⟩
        · exact .inr (.inl h')
        · exact .inr (.inr ⟨h, h'⟩)
theorem colR_spec (P : S30 → Bool) : ∀ (l : List S30) (acc : List Int), acc.Pairwise (fun x y => x < y) → (colR P acc l).Pairwise (fun x y => x < y) ∧ ∀ n, n ∈ colR P acc l ↔ n ∈ acc ∨ ∃ z ∈ l, z.f1 = n ∧ P z = true := by
  intro l
  induction l with
  | nil => intro acc h; exact ⟨h, fun n => by simp [colR]⟩
  | cons a r ih =>
    intro acc h
    unfold colR
    rw [List.foldl_cons]
    by_cases hp : P a = true
    · rw [if_pos hp]
      obtain ⟨p1, p2⟩ := putR_spec a.f1 h
      obtain ⟨h1, h2⟩ := ih _ p1
      refine ⟨h1, fun n => ?_⟩
      show n ∈ colR P (putR acc a.f1) r ↔ _
      rw [h2, p2]
      constructor
      · rintro ((h | h) | ⟨z, hz, h⟩)
        · exact .inr ⟨a, by simp, h.symm, hp⟩
        · exact .inl h
        · exact .inr ⟨z, by simp [hz], h⟩
      · rintro (h | ⟨z, hz, h⟩)
        · exact .inl (.inr h)
        · rcases List.mem_cons.1 hz with rfl | hz
          · exact .inl (.inl h.1.symm)
          · exact .inr ⟨z, hz, h⟩
    · rw [if_neg hp]
      obtain ⟨h1, h2⟩ := ih _ h
      refine ⟨h1, fun n => ?_⟩
      show n ∈ colR P acc r ↔ _
      rw [h2]
      constructor
      · rintro (h | ⟨z, hz, h⟩)
        · exact .inl h
        · exact .inr ⟨z, by simp [hz], h⟩
      · rintro (h | ⟨z, hz, h⟩)
        · exact .inl h
        · rcases List.mem_cons.1 hz with rfl | hz
          · exact absurd h.2 hp
          · exact .inr ⟨z, hz, h⟩
theorem int_asc_ext {l l' : List Int} (h1 : l.Pairwise (fun x y => x < y)) (h2 : l'.Pairwise (fun x y => x < y)) (h : ∀ z, z ∈ l ↔ z ∈ l') : l = l' :=
  asc_ext (R := fun x y : Int => x < y) (fun x => Int.lt_irrefl x) (fun h1 h2 => Int.lt_trans h1 h2) h1 h2 h
/-- What Overlap finds. -/
def ovT (p : S28) (Q : Tr S30) : List Int := if vldB p = true then ovlL p Q else []
/-- What Stab finds. -/
def stT (at_ : Int) (Q : Tr S30) : List Int := if stabOk at_ = true then ovlL ⟨at_, at_ + 1⟩ Q else []
theorem ovT_spec {p : S28} {Q : Tr S30} (h : Ord Q) : (ovT p Q).Pairwise (fun x y => x < y) ∧ ∀ n, n ∈ ovT p Q ↔ vldB p = true ∧ ∃ z ∈ Q.list, z.f1 = n ∧ Hit p z := by
  unfold ovT
  cases hv : vldB p with
  | true =>
    rw [if_pos rfl]
    obtain ⟨h1, h2⟩ := ovlL_spec (p := p) h
    exact ⟨h1, fun n => by rw [h2]; simp⟩
  | false =>
    rw [if_neg (by simp)]
    exact ⟨List.Pairwise.nil, fun n => by simp⟩
theorem stT_spec {at_ : Int} {Q : Tr S30} {n : Nat} (h : Good Q n) : (stT at_ Q).Pairwise (fun x y => x < y) ∧ ∀ n, n ∈ stT at_ Q ↔ ∃ z ∈ Q.list, z.f1 = n ∧ z.f0.f0 ≤ at_ ∧ at_ < z.f0.f1 := by
  unfold stT
  by_cases hs : stabOk at_ = true
  · rw [if_pos hs]
    obtain ⟨h1, h2⟩ := ovlL_spec (p := ⟨at_, at_ + 1⟩) h.ord
    refine ⟨h1, fun n => ?_⟩
    rw [h2]
    constructor
    · rintro ⟨z, hz, he, hh⟩
      unfold Hit at hh
      dsimp only at hh
      exact ⟨z, hz, he, by omega, by omega⟩
    · rintro ⟨z, hz, he, hh⟩
      refine ⟨z, hz, he, ?_⟩
      unfold Hit
      dsimp only
      omega
  · rw [if_neg hs]
    refine ⟨List.Pairwise.nil, fun n => ?_⟩
    constructor
    · intro h; simp at h
    · rintro ⟨z, hz, he, hh⟩
      have hv := h.val z hz
      unfold vldB at hv
      unfold stabOk at hs
      simp only [decide_eq_true_eq] at hv hs
      omega
theorem ovT_ref {p : S28} {Q : Tr S30} (h : Ord Q) : colR (fun z => vldB p && decide (Hit p z)) [] Q.list = ovT p Q := by
  obtain ⟨h1, h2⟩ := ovT_spec (p := p) h
  obtain ⟨h3, h4⟩ := colR_spec (fun z => vldB p && decide (Hit p z)) Q.list [] List.Pairwise.nil
  refine int_asc_ext h3 h1 (fun n => ?_)
  rw [h2, h4]
  simp only [List.not_mem_nil, false_or, Bool.and_eq_true, decide_eq_true_eq]
  constructor
  · rintro ⟨z, hz, he, hv, hh⟩
    exact ⟨hv, z, hz, he, hh⟩
  · rintro ⟨hv, z, hz, he, hh⟩
    exact ⟨z, hz, he, hv, hh⟩
theorem stT_ref {at_ : Int} {Q : Tr S30} {n : Nat} (h : Good Q n) : colR (fun z => decide (Hit ⟨at_, at_ + 1⟩ z)) [] Q.list = stT at_ Q := by
  obtain ⟨h1, h2⟩ := stT_spec (at_ := at_) h
  obtain ⟨h3, h4⟩ := colR_spec (fun z => decide (Hit ⟨at_, at_ + 1⟩ z)) Q.list [] List.Pairwise.nil
  refine int_asc_ext h3 h1 (fun n => ?_)
  rw [h2, h4]
  simp only [List.not_mem_nil, false_or, decide_eq_true_eq]
  constructor
  · rintro ⟨z, hz, he, hh⟩
    unfold Hit at hh
    dsimp only at hh
    exact ⟨z, hz, he, by omega, by omega⟩
  · rintro ⟨z, hz, he, hh⟩
    refine ⟨z, hz, he, ?_⟩
    unfold Hit
    dsimp only
    omega
/-! ### the methods at a good tree -/
/-- The tree at t lives in S; it is good, and has Q's items. -/
def TG (w : World) (S : Nat → Prop) (t : Nat) (Q : Tr S30) : Prop := TreeAt w S t Q Q.list.length ∧ Good Q Q.list.length
theorem TG.below {w w' : World} {S : Nat → Prop} {t : Nat} {Q : Tr S30} (h : TG w S t Q) (hb : Below w.heap.size w w') : TG w' S t Q := ⟨h.1.below hb, h.2⟩
theorem TG.off {w w' : World} {S U : Nat → Prop} {t : Nat} {Q : Tr S30} (h : TG w S t Q) (hb : Wr w w' U) (hd : ∀ k, S k → ¬ U k) : TG w' S t Q := ⟨h.1.off hb hd, h.2⟩
theorem Good.ht_le {Q : Tr S30} {n : Nat} (h : Good Q n) (hn : n ≤ 700) : Q.ht ≤ 600000 := by
  have h1 := ht_lower Q h.bal
  rw [h.len] at h1
  have h2 : (n + 1) * (n + 1) ≤ 701 * 701 := Nat.mul_le_mul (by omega) (by omega)
  have h3 : Q.ht < 2 ^ Q.ht := Nat.lt_two_pow_self
  omega
theorem len_addT (Q : Tr S30) (x : S30) : (addT Q x).1.list.length ≤ Q.list.length + 1 := by
  unfold addT
  split
  · rw [ins_len]; omega
  · exact Nat.le_succ _
theorem len_remT {Q : Tr S30} (h : Ord Q) (x : S30) : (remT Q x).1.list.length ≤ Q.list.length := by
  unfold remT
  split
  · rename_i hc
    have := rem_len h ((hasT_mem x h).1 hc)
    show (rem Q x).list.length ≤ _
    omega
  · exact Nat.le_refl _
abbrev TPost (w : World) (S : Nat → Prop) (t : Nat) (Q : Tr S30) (r : Bool) : Ending → World → Prop := fun e w' => e = .returned (.bool r) ∧ TG w' (ext S w w') t Q ∧ Wr w w' S
theorem tadd_calls (w : World) (S : Nat → Prop) (t : Nat) (Q : Tr S30) (x : S30) (h : TG w S t Q) (hn : Q.list.length ≤ 600) :
    Calls Try.prog 11 #[.pointer (some ⟨t, 0, none⟩), .agg #[.int .i64 x.f0.f0, .int .i64 x.f0.f1], .int .i64 x.f1] w (TPost w S t (addT Q x).1 (addT Q x).2) := by
  have hg := h.2.add x
  have hh := h.2.ht_le (by omega)
  unfold addT at hg ⊢
  cases hv : vldB x.f0 with
  | false =>
    rw [hv] at hg
    rw [if_neg (by simp)] at hg ⊢
    exact (add_bad w S t Q _ x.f0 x.f1 h.1 hv).mono fun e w' ⟨he, ht, hw⟩ => ⟨he, ⟨ht, h.2⟩, hw⟩
  | true =>
    rw [hv] at hg
    cases hq : hasT Q x with
    | true =>
      rw [hq] at hg
      rw [if_neg (by simp)] at hg ⊢
      exact (add_old w S t Q _ x.f0 x.f1 h.1 hv hq).mono fun e w' ⟨he, ht, hw⟩ => ⟨he, ⟨ht, h.2⟩, hw⟩
    | false =>
      rw [hq] at hg
      rw [if_pos ⟨rfl, rfl⟩] at hg ⊢
      refine (add_new w S t Q _ x.f0 x.f1 h.1 hh (by omega) hv hq).mono fun e w' ⟨he, ht, hw⟩ => ⟨he, ⟨?_, hg⟩, hw⟩
      rw [ins_len]
      exact ht
theorem tremove_calls (w : World) (S : Nat → Prop) (t : Nat) (Q : Tr S30) (x : S30) (h : TG w S t Q) (hn : Q.list.length ≤ 600) :
    Calls Try.prog 19 #[.pointer (some ⟨t, 0, none⟩), .agg #[.int .i64 x.f0.f0, .int .i64 x.f0.f1], .int .i64 x.f1] w (TPost w S t (remT Q x).1 (remT Q x).2) := by
  have hg := h.2.rem x
  have hh := h.2.ht_le (by omega)
  unfold remT at hg ⊢
  cases hq : hasT Q x with
  | false =>
    rw [hq] at hg
    rw [if_neg (by simp)] at hg ⊢
    exact (remove_no w S t Q _ x.f0 x.f1 h.1 hq).mono fun e w' ⟨he, ht, hw⟩ => ⟨he, ⟨ht, h.2⟩, hw⟩
  | true =>
    rw [hq] at hg
    rw [if_pos rfl] at hg ⊢
    have hx := (hasT_mem x h.2.ord).1 hq
    obtain ⟨hl1, hl2⟩ := rem_len h.2.ord hx
    refine (remove_yes w S t Q _ x.f0 x.f1 h.1 hh (by omega) hl2 (rem_spec h.2.ord hx).1 hq).mono fun e w' ⟨he, ht, hw⟩ => ⟨he, ⟨?_, hg⟩, hw⟩
    show TreeAt _ _ _ _ (rem Q x).list.length
    rw [hl1]
    exact ht
theorem tnew_calls (w : World) : Calls Try.prog 10 #[] w fun e w' => ∃ t, e = .returned (.pointer (some ⟨t, 0, none⟩)) ∧ TG w' (fun k => w.heap.size ≤ k ∧ k < w'.heap.size) t .nil ∧ Below w.heap.size w w' :=
  (new_calls w).mono fun e w' ⟨t, he, ht, hb⟩ => ⟨t, he, ⟨ht, Good.nil⟩, hb⟩
theorem tov_calls (w : World) (S : Nat → Prop) (t : Nat) (Q : Tr S30) (p : S28) (h : TG w S t Q) (hn : Q.list.length ≤ 600) :
    Calls Try.prog 12 #[.pointer (some ⟨t, 0, none⟩), .agg #[.int .i64 p.f0, .int .i64 p.f1]] w (OvPost w (ovT p Q)) := overlapT_calls w S t Q _ p h.1 (by omega)
theorem tst_calls (w : World) (S : Nat → Prop) (t : Nat) (Q : Tr S30) (at_ : Int) (h : TG w S t Q) (hn : Q.list.length ≤ 600) :
    Calls Try.prog 14 #[.pointer (some ⟨t, 0, none⟩), .int .i64 at_] w (OvPost w (stT at_ Q)) := stab_calls w S t Q _ at_ h.1 (by omega)
end Go.Proofs.Ytdjfjmcnghfdkaa.My
