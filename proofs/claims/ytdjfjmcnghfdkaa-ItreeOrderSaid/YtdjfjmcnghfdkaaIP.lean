/- Plain laws on trees of items: order, membership, balance, what is found. -/
import Derived.Test.YtdjfjmcnghfdkaaIO
namespace Go.Proofs.Ytdjfjmcnghfdkaa.My
open Go Go.RowKit Go.Proofs.YtdjfjmcnghfdkaaW.PrintWords Go.Proofs.Ytdjfjmcnghfdkaa.PItreeActs
set_option linter.unusedVariables false
set_option linter.unusedSimpArgs false
/-! ### the order of items -/
def bef (x y : S30) : Prop := x.f0.f0 < y.f0.f0 ∨ (x.f0.f0 = y.f0.f0 ∧ (x.f0.f1 < y.f0.f1 ∨ (x.f0.f1 = y.f0.f1 ∧ x.f1 < y.f1)))
theorem S30_ext {x y : S30} (h1 : x.f0.f0 = y.f0.f0) (h2 : x.f0.f1 = y.f0.f1) (h3 : x.f1 = y.f1) : x = y := by
  cases x with | mk p n => cases p; cases y with | mk q m => cases q; simp_all
instance : DecidableEq S30 := fun x y =>
  if h : x.f0.f0 = y.f0.f0 ∧ x.f0.f1 = y.f0.f1 ∧ x.f1 = y.f1 then isTrue (S30_ext h.1 h.2.1 h.2.2) else isFalse (fun e => h (by rw [e]; exact ⟨rfl, rfl, rfl⟩))
theorem bef_irrefl (x : S30) : ¬ bef x x := by unfold bef; omega
theorem bef_trans {x y z : S30} (h1 : bef x y) (h2 : bef y z) : bef x z := by unfold bef at *; omega
theorem bef_asymm {x y : S30} (h1 : bef x y) : ¬ bef y x := fun h => bef_irrefl _ (bef_trans h1 h)
theorem bef_tri (x y : S30) : bef x y ∨ x = y ∨ bef y x := by
  by_cases h : x.f0.f0 = y.f0.f0 ∧ x.f0.f1 = y.f0.f1 ∧ x.f1 = y.f1
  · exact .inr (.inl (S30_ext h.1 h.2.1 h.2.2))
  · unfold bef; omega
theorem bef_from {x y : S30} (h : bef x y) : x.f0.f0 ≤ y.f0.f0 := by unfold bef at h; omega
theorem cmp_pos {x y : S30} : 0 < cmp x y ↔ bef y x := by
  unfold cmp pcmp sgn bef
  (repeat' split) <;> omega
theorem cmp_neg {x y : S30} : cmp x y < 0 ↔ bef x y := by
  unfold cmp pcmp sgn bef
  (repeat' split) <;> omega
theorem cmp_zero {x y : S30} (h1 : ¬ 0 < cmp x y) (h2 : ¬ cmp x y < 0) : x = y := by
  rw [cmp_pos] at h1
  rw [cmp_neg] at h2
  rcases bef_tri x y with h | h | h
  · exact absurd h h2
  · exact h
  · exact absurd h h1
/-- Strictly ascending lists with the same items are equal. -/
theorem asc_ext {α : Type} {R : α → α → Prop} (hi : ∀ x, ¬ R x x) (ht : ∀ {x y z}, R x y → R y z → R x z) : ∀ {l l' : List α}, l.Pairwise R → l'.Pairwise R → (∀ z, z ∈ l ↔ z ∈ l') → l = l' := by
  intro l
  induction l with
  | nil =>
    intro l' _ _ h
    cases l' with
    | nil => rfl
    | cons a r => exact absurd ((h a).2 (by simp)) (by simp)
  | cons a r ih =>
    intro l' h1 h2 h
    cases l' with
    | nil => exact absurd ((h a).1 (by simp)) (by simp)
    | cons b s =>
      rw [List.pairwise_cons] at h1 h2
      have hab : a = b := by
        rcases List.mem_cons.1 ((h a).1 (by simp)) with e | e
        · exact e
        · rcases List.mem_cons.1 ((h b).2 (by simp)) with e' | e'
          · exact e'.symm
          · exact absurd (ht (h1.1 b e') (h2.1 a e)) (hi a)
      subst hab
      congr 1
      refine ih h1.2 h2.2 fun z => ⟨fun hz => ?_, fun hz => ?_⟩
      · rcases List.mem_cons.1 ((h z).1 (by simp [hz])) with e | e
        · subst e; exact absurd (h1.1 z hz) (hi z)
        · exact e
      · rcases List.mem_cons.1 ((h z).2 (by simp [hz])) with e | e
        · subst e; exact absurd (h2.1 z hz) (hi z)
        · exact e
def Ord (t : Tr S30) : Prop := t.list.Pairwise bef
theorem Ord.nd {y : S30} {l r : Tr S30} (h : Ord (.nd y l r)) : Ord l ∧ Ord r ∧ (∀ z ∈ l.list, bef z y) ∧ (∀ z ∈ r.list, bef y z) := by
  unfold Ord at h
  simp only [Tr.list, List.pairwise_append, List.pairwise_cons] at h
  exact ⟨h.1, h.2.1.2, fun z hz => h.2.2 z hz y (by simp), h.2.1.1⟩
theorem Ord.mk' {y : S30} {a b : List S30} (h1 : a.Pairwise bef) (h2 : b.Pairwise bef) (h3 : ∀ z ∈ a, bef z y) (h4 : ∀ z ∈ b, bef y z) : (a ++ y :: b).Pairwise bef := by
  rw [List.pairwise_append, List.pairwise_cons]
  refine ⟨h1, ⟨h4, h2⟩, fun x hx z hz => ?_⟩
  rcases List.mem_cons.1 hz with rfl | hz
  · exact h3 x hx
  · exact bef_trans (h3 x hx) (h4 z hz)
theorem hasT_mem {t : Tr S30} (x : S30) (h : Ord t) : hasT t x = true ↔ x ∈ t.list := by
  induction t with
  | nil => simp [hasT, Tr.list]
  | nd y l r hl hr =>
    obtain ⟨o1, o2, o3, o4⟩ := h.nd
    unfold hasT
    simp only [Tr.list, List.mem_append, List.mem_cons]
    by_cases c1 : 0 < cmp y x
    · rw [if_pos c1, hl o1]
      rw [cmp_pos] at c1
      refine ⟨.inl, fun h => ?_⟩
      rcases h with h | h | h
      · exact h
      · subst h; exact absurd c1 (bef_irrefl _)
      · exact absurd c1 (bef_asymm (o4 x h))
    · rw [if_neg c1]
      by_cases c2 : cmp y x < 0
      · rw [if_pos c2, hr o2]
        rw [cmp_neg] at c2
        refine ⟨fun h => .inr (.inr h), fun h => ?_⟩
        rcases h with h | h | h
        · exact absurd c2 (bef_asymm (o3 x h))
        · subst h; exact absurd c2 (bef_irrefl _)
        · exact h
      · rw [if_neg c2]
        exact ⟨fun _ => .inr (.inl (cmp_zero c1 c2).symm), fun _ => rfl⟩
theorem ins_mem {t : Tr S30} (x z : S30) : z ∈ (ins t x).list ↔ z = x ∨ z ∈ t.list := by
  induction t with
  | nil => simp [ins, Tr.list_bal, Tr.list]
  | nd y l r hl hr =>
    unfold ins
    split
    · rw [Tr.list_bal]
      simp only [Tr.list, List.mem_append, List.mem_cons, hl, or_assoc]
    · rw [Tr.list_bal]
      simp only [Tr.list, List.mem_append, List.mem_cons, hr]
      constructor
      · rintro (h | h | h | h)
        · exact .inr (.inl h)
        · exact .inr (.inr (.inl h))
        · exact .inl h
        · exact .inr (.inr (.inr h))
      · rintro (h | h | h | h)
        · exact .inr (.inr (.inl h))
        · exact .inl h
        · exact .inr (.inl h)
        · exact .inr (.inr (.inr h))
theorem ins_ord {t : Tr S30} {x : S30} (h : Ord t) (hx : x ∉ t.list) : Ord (ins t x) := by
  induction t with
  | nil => simp [ins, Ord, Tr.list_bal, Tr.list]
  | nd y l r hl hr =>
    obtain ⟨o1, o2, o3, o4⟩ := h.nd
    simp only [Tr.list, List.mem_append, List.mem_cons, not_or] at hx
    unfold ins Ord
    by_cases c1 : 0 < cmp y x
    · rw [if_pos c1, Tr.list_bal]
      rw [cmp_pos] at c1
      refine Ord.mk' (hl o1 hx.1) o2 (fun z hz => ?_) o4
      rcases (ins_mem x z).1 hz with rfl | hz
      · exact c1
      · exact o3 z hz
    · rw [if_neg c1, Tr.list_bal]
      rw [cmp_pos] at c1
      refine Ord.mk' o1 (hr o2 hx.2.2) o3 (fun z hz => ?_)
      rcases (ins_mem x z).1 hz with rfl | hz
      · rcases bef_tri z y with h | h | h
        · exact absurd h c1
        · exact absurd h hx.2.1
        · exact h
      · exact o4 z hz
theorem fstT_mem {t : Tr S30} (h : t ≠ .nil) : fstT t ∈ t.list := by
  induction t with
  | nil => exact absurd rfl h
  | nd y l r hl hr =>
    cases l with
    | nil => simp [fstT, Tr.list]
    | nd a b c =>
      have := hl (by simp)
      unfold fstT
      simp only [Tr.list, List.mem_append] at this ⊢
      exact .inl this
theorem fstT_least {t : Tr S30} (h : Ord t) : ∀ z ∈ t.list, z = fstT t ∨ bef (fstT t) z := by
  induction t with
  | nil => intro z hz; simp [Tr.list] at hz
  | nd y l r hl hr =>
    obtain ⟨o1, o2, o3, o4⟩ := h.nd
    intro z hz
    cases l with
    | nil =>
      simp only [Tr.list, List.nil_append, List.mem_cons] at hz
      rcases hz with rfl | hz
      · exact .inl rfl
      · exact .inr (o4 z hz)
    | nd a b c =>
      have hf : bef (fstT (.nd a b c)) y := o3 _ (fstT_mem (by simp))
      rw [show fstT (.nd y (.nd a b c) r) = fstT (.nd a b c) from rfl]
      have hz' : z ∈ (Tr.nd a b c).list ∨ z = y ∨ z ∈ r.list := by
        have : z ∈ (Tr.nd a b c).list ++ y :: r.list := hz
        simpa using this
      rcases hz' with hz | rfl | hz
      · exact hl o1 z hz
      · exact .inr hf
      · exact .inr (bef_trans hf (o4 z hz))
theorem rem_spec {t : Tr S30} : ∀ {x : S30}, Ord t → x ∈ t.list → RemOk t x ∧ (∀ z, z ∈ (rem t x).list ↔ z ∈ t.list ∧ z ≠ x) ∧ Ord (rem t x) := by
  induction t with
  | nil => intro x _ hx; simp [Tr.list] at hx
  | nd y l r hl hr =>
    intro x h hx
    obtain ⟨o1, o2, o3, o4⟩ := h.nd
    simp only [Tr.list, List.mem_append, List.mem_cons] at hx
    unfold rem RemOk
    by_cases c1 : 0 < cmp y x
    · rw [if_pos c1, if_pos c1]
      rw [cmp_pos] at c1
      have hxl : x ∈ l.list := by
        rcases hx with h | h | h
        · exact h
        · subst h; exact absurd c1 (bef_irrefl _)
        · exact absurd c1 (bef_asymm (o4 x h))
      obtain ⟨i1, i2, i3⟩ := hl o1 hxl
      refine ⟨i1, fun z => ?_, ?_⟩
      · rw [Tr.list_bal]
        simp only [Tr.list, List.mem_append, List.mem_cons, i2]
        constructor
        · rintro (⟨h, h'⟩ | h | h)
          · exact ⟨.inl h, h'⟩
          · subst h; exact ⟨.inr (.inl rfl), fun e => bef_irrefl z (e ▸ c1)⟩
          · exact ⟨.inr (.inr h), fun e => bef_asymm c1 (e ▸ o4 z h)⟩
        · rintro ⟨h | h | h, h'⟩
          · exact .inl ⟨h, h'⟩
          · exact .inr (.inl h)
          · exact .inr (.inr h)
      · unfold Ord; rw [Tr.list_bal]
        exact Ord.mk' i3 o2 (fun z hz => o3 z ((i2 z).1 hz).1) o4
    · rw [if_neg c1, if_neg c1]
      by_cases c2 : cmp y x < 0
      · rw [if_pos c2, if_pos c2]
        rw [cmp_neg] at c2
        have hxr : x ∈ r.list := by
          rcases hx with h | h | h
          · exact absurd c2 (bef_asymm (o3 x h))
          · subst h; exact absurd c2 (bef_irrefl _)
          · exact h
        obtain ⟨i1, i2, i3⟩ := hr o2 hxr
        refine ⟨i1, fun z => ?_, ?_⟩
        · rw [Tr.list_bal]
          simp only [Tr.list, List.mem_append, List.mem_cons, i2]
          constructor
          · rintro (h | h | ⟨h, h'⟩)
            · exact ⟨.inl h, fun e => bef_asymm c2 (e ▸ o3 z h)⟩
            · subst h; exact ⟨.inr (.inl rfl), fun e => bef_irrefl z (e ▸ c2)⟩
            · exact ⟨.inr (.inr h), h'⟩
          · rintro ⟨h | h | h, h'⟩
            · exact .inl h
            · exact .inr (.inl h)
            · exact .inr (.inr ⟨h, h'⟩)
        · unfold Ord; rw [Tr.list_bal]
          exact Ord.mk' o1 i3 o3 (fun z hz => o4 z ((i2 z).1 hz).1)
      · rw [if_neg c2, if_neg c2]
        have hxy := cmp_zero c1 c2
        subst hxy
        have hnl : ∀ z ∈ l.list, z ≠ y := fun z hz e => bef_irrefl y (e ▸ o3 z hz)
        have hnr : ∀ z ∈ r.list, z ≠ y := fun z hz e => bef_irrefl z (by have := o4 z hz; rw [← e] at this; exact this)
        cases l with
        | nil =>
          refine ⟨.inl rfl, fun z => ?_, o2⟩
          simp only [Tr.list, List.nil_append, List.mem_cons]
          constructor
          · exact fun h => ⟨.inr h, hnr z h⟩
          · rintro ⟨h | h, h'⟩
            · exact absurd h h'
            · exact h
        | nd a b c =>
          cases r with
          | nil =>
            refine ⟨.inr (.inl rfl), fun z => ?_, o1⟩
            show z ∈ (Tr.nd a b c).list ↔ z ∈ (Tr.nd a b c).list ++ y :: [] ∧ z ≠ y
            simp only [List.mem_append, List.mem_cons, List.not_mem_nil, or_false]
            constructor
            · exact fun h => ⟨.inl h, hnl z h⟩
            · rintro ⟨h | h, h'⟩
              · exact h
              · exact absurd h h'
          | nd d e f =>
            have hf := fstT_mem (t := .nd d e f) (by simp)
            obtain ⟨i1, i2, i3⟩ := hr o2 hf
            refine ⟨.inr (.inr i1), fun z => ?_, ?_⟩
            · show z ∈ (Tr.bal _ _ _).list ↔ z ∈ (Tr.nd a b c).list ++ y :: (Tr.nd d e f).list ∧ z ≠ y
              rw [Tr.list_bal]
              simp only [List.mem_append, List.mem_cons, i2]
              constructor
              · rintro (h | h | ⟨h, h'⟩)
                · exact ⟨.inl h, hnl z h⟩
                · rw [h]; exact ⟨.inr (.inr hf), hnr _ hf⟩
                · exact ⟨.inr (.inr h), hnr z h⟩
              · rintro ⟨h | h | h, h'⟩
                · exact .inl h
                · exact absurd h h'
                · by_cases e : z = fstT (.nd d e f)
                  · exact .inr (.inl e)
                  · exact .inr (.inr ⟨h, e⟩)
            · show (Tr.bal _ _ _).list.Pairwise bef
              rw [Tr.list_bal]
              refine Ord.mk' o1 i3 (fun z hz => bef_trans (o3 z hz) (o4 _ hf)) (fun z hz => ?_)
              obtain ⟨h1, h2⟩ := (i2 z).1 hz
              rcases fstT_least o2 z h1 with h | h
              · exact absurd h h2
              · exact h
/-! ### what is found -/
theorem le_en {t : Tr S30} : ∀ z ∈ t.list, z.f0.f1 ≤ t.en := by
  induction t with
  | nil => intro z hz; simp [Tr.list] at hz
  | nd y l r hl hr =>
    intro z hz
    simp only [Tr.list, List.mem_append, List.mem_cons] at hz
    unfold Tr.en
    rcases hz with h | rfl | h
    · have := hl z h; omega
    · omega
    · have := hr z h; omega
def Hit (p : S28) (z : S30) : Prop := z.f0.f0 < p.f1 ∧ p.f0 < z.f0.f1
theorem ovl_mem {p : S28} {t : Tr S30} (h : Ord t) (n : Int) : n ∈ ovl p t ↔ ∃ z ∈ t.list, z.f1 = n ∧ Hit p z := by
  induction t with
  | nil => simp [ovl, Tr.list]
  | nd y l r hl hr =>
    obtain ⟨o1, o2, o3, o4⟩ := h.nd
    unfold ovl
    by_cases c0 : (Tr.nd y l r).en ≤ p.f0
    · rw [if_pos c0]
      constructor
      · intro h; simp at h
      · rintro ⟨z, hz, _, hh⟩
        have := le_en z hz
        unfold Hit at hh
        omega
    · rw [if_neg c0]
      have key : n ∈ (if p.f1 ≤ y.f0.f0 then [] else (if p.f0 < y.f0.f1 then [y.f1] else []) ++ ovl p r) ↔ ∃ z, (z = y ∨ z ∈ r.list) ∧ z.f1 = n ∧ Hit p z := by
        by_cases c1 : p.f1 ≤ y.f0.f0
        · rw [if_pos c1]
          constructor
          · intro h; simp at h
          · rintro ⟨z, hz, _, hh⟩
            have : y.f0.f0 ≤ z.f0.f0 := by
              rcases hz with rfl | hz
              · omega
              · exact bef_from (o4 z hz)
            unfold Hit at hh
            omega
        · rw [if_neg c1, List.mem_append, hr o2]
          constructor
          · rintro (h | ⟨z, hz, h⟩)
            · split at h
              · rename_i c2
                simp at h
                exact ⟨y, .inl rfl, h.symm, by unfold Hit; omega⟩
              · simp at h
            · exact ⟨z, .inr hz, h⟩
          · rintro ⟨z, rfl | hz, h, hh⟩
            · left
              unfold Hit at hh
              rw [if_pos hh.2]
              simp [h]
            · exact .inr ⟨z, hz, h, hh⟩
      rw [List.mem_append, hl o1, key]
      simp only [Tr.list, List.mem_append, List.mem_cons]
      constructor
      · rintro (⟨z, hz, h⟩ | ⟨z, hz, h⟩)
        · exact ⟨z, .inl hz, h⟩
        · exact ⟨z, .inr hz, h⟩
      · rintro ⟨z, hz | hz, h⟩
        · exact .inl ⟨z, hz, h⟩
        · exact .inr ⟨z, hz, h⟩
theorem srt_mem (xs : List Int) (n : Int) : n ∈ srt xs ↔ n ∈ xs := (List.mergeSort_perm xs _).mem_iff
theorem srt_sorted (xs : List Int) : (srt xs).Pairwise (fun x y => x ≤ y) := by
  have h := List.pairwise_mergeSort (le := fun x y : Int => decide (x ≤ y)) (fun a b c h1 h2 => by simp at *; omega) (fun a b => by simp; omega) xs
  exact h.imp (fun h => by simpa using h)
theorem compact_spec (zs : List Int) (h : zs.Pairwise (fun x y => x ≤ y)) : (Lib.compact zs).Pairwise (fun x y => x < y) ∧ ∀ n, n ∈ Lib.compact zs ↔ n ∈ zs := by
  have hget : ∀ j, j < zs.length → zs.toArray[j]! = zs.getD j 0 := fun j hj => by simp [hj]
  have hmono : ∀ i j, i ≤ j → j < zs.length → zs.getD i 0 ≤ zs.getD j 0 := by
    intro i j hij hj
    rcases Nat.lt_or_eq_of_le hij with h1 | h1
    · have := List.pairwise_iff_getElem.1 h i j (by omega) hj h1
      simpa [List.getD_eq_getElem?_getD, hj, show i < zs.length by omega] using this
    · subst h1; exact Int.le_refl _
  have key : ∀ m, m ≤ zs.length → (Lib.compactUpTo zs.toArray m).Pairwise (fun x y => x < y) ∧ (∀ n ∈ Lib.compactUpTo zs.toArray m, ∃ j, j < m ∧ n = zs.getD j 0) ∧ (∀ j, j < m → zs.getD j 0 ∈ Lib.compactUpTo zs.toArray m) := by
    intro m
    induction m with
    | zero => intro _; simp [Lib.compactUpTo]
    | succ m ih =>
      intro hm
      obtain ⟨i1, i2, i3⟩ := ih (by omega)
      rw [Lib.compactUpTo_succ, hget m (by omega)]
      by_cases hk : Lib.keeps zs.toArray m = true
      · rw [if_pos hk]
        refine ⟨?_, ?_, ?_⟩
        · rw [List.pairwise_append]
          refine ⟨i1, by simp, fun a ha b hb => ?_⟩
          simp at hb
          subst hb
          obtain ⟨j, hj, rfl⟩ := i2 a ha
          unfold Lib.keeps at hk
          simp only [decide_eq_true_eq] at hk
          rcases hk with hk | hk
          · omega
          · rw [hget m (by omega), hget (m - 1) (by omega)] at hk
            have h1 := hmono j (m - 1) (by omega) (by omega)
            have h2 := hmono (m - 1) m (by omega) (by omega)
            show zs.getD j 0 < zs.getD m 0
            omega
        · intro n hn
          rcases List.mem_append.1 hn with hn | hn
          · obtain ⟨j, hj, e⟩ := i2 n hn
            exact ⟨j, by omega, e⟩
          · simp at hn
            exact ⟨m, by omega, hn⟩
        · intro j hj
          rcases Nat.lt_or_eq_of_le (Nat.le_of_lt_succ hj) with h1 | h1
          · exact List.mem_append.2 (.inl (i3 j h1))
          · subst h1; simp
      · rw [if_neg hk, List.append_nil]
        refine ⟨i1, fun n hn => ?_, fun j hj => ?_⟩
        · obtain ⟨j, hj, e⟩ := i2 n hn
          exact ⟨j, by omega, e⟩
        · rcases Nat.lt_or_eq_of_le (Nat.le_of_lt_succ hj) with h1 | h1
          · exact i3 j h1
          · subst h1
            unfold Lib.keeps at hk
            simp only [decide_eq_true_eq, not_or, Decidable.not_not] at hk
            rw [hget j (by omega), hget (j - 1) (by omega)] at hk
            rw [hk.2]
            exact i3 (j - 1) (by omega)
  obtain ⟨k1, k2, k3⟩ := key zs.length (Nat.le_refl _)
  refine ⟨k1, fun n => ⟨fun hn => ?_, fun hn => ?_⟩⟩
  · obtain ⟨j, hj, rfl⟩ := k2 n hn
    simp [List.getD_eq_getElem?_getD, hj]
  · obtain ⟨j, hj, e⟩ := List.getElem_of_mem hn
    have := k3 j hj
    simp only [List.getD_eq_getElem?_getD, List.getElem?_eq_getElem hj, Option.getD_some] at this
    rw [e] at this
    exact this
theorem ovlL_spec {p : S28} {t : Tr S30} (h : Ord t) : (ovlL p t).Pairwise (fun x y => x < y) ∧ ∀ n, n ∈ ovlL p t ↔ ∃ z ∈ t.list, z.f1 = n ∧ Hit p z := by
  obtain ⟨h1, h2⟩ := compact_spec (srt (ovl p t)) (srt_sorted _)
  exact ⟨h1, fun n => by rw [ovlL, h2, srt_mem, ovl_mem h]⟩
end Go.Proofs.Ytdjfjmcnghfdkaa.My
