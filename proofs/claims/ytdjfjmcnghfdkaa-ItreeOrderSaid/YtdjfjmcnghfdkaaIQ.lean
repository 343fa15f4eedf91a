/- Plain laws: balance and height. -/
import Derived.Test.YtdjfjmcnghfdkaaIP
namespace Go.Proofs.Ytdjfjmcnghfdkaa.My
open Go Go.RowKit Go.Proofs.YtdjfjmcnghfdkaaW.PrintWords Go.Proofs.Ytdjfjmcnghfdkaa.PItreeActs
set_option linter.unusedVariables false
set_option linter.unusedSimpArgs false
def Bal {α : Type} : Tr α → Prop
  | .nil => True
  | .nd _ l r => l.ht ≤ r.ht + 1 ∧ r.ht ≤ l.ht + 1 ∧ Bal l ∧ Bal r
theorem bal_bal {α : Type} {x : α} {l r : Tr α} (hl : Bal l) (hr : Bal r) (h1 : l.ht ≤ r.ht + 2) (h2 : r.ht ≤ l.ht + 2) :
    Bal (Tr.bal x l r) ∧ max l.ht r.ht ≤ (Tr.bal x l r).ht ∧ (Tr.bal x l r).ht ≤ 1 + max l.ht r.ht ∧ (l.ht ≤ r.ht + 1 → r.ht ≤ l.ht + 1 → (Tr.bal x l r).ht = 1 + max l.ht r.ht) := by
  unfold Tr.bal
  split
  · rename_i hd
    match l with
    | .nil => simp [Tr.ht] at hd
    | .nd y a c =>
      obtain ⟨b1, b2, b3, b4⟩ := hl
      by_cases hac : (Tr.nd y a c).lft.ht < (Tr.nd y a c).rgt.ht
      · rw [if_pos hac]
        match c with
        | .nil => simp [Tr.ht, Tr.lft, Tr.rgt] at hac
        | .nd z c1 c2 =>
          obtain ⟨d1, d2, d3, d4⟩ := b4
          simp only [Tr.dnT, Tr.dn, Tr.up, Bal, Tr.ht, Tr.lft, Tr.rgt] at *
          refine ⟨⟨by omega, by omega, ⟨by omega, by omega, b3, d3⟩, by omega, by omega, d4, hr⟩, by omega, by omega, by omega⟩
      · rw [if_neg hac]
        simp only [Tr.up, Bal, Tr.ht, Tr.lft, Tr.rgt] at *
        refine ⟨⟨by omega, by omega, b3, by omega, by omega, b4, hr⟩, by omega, by omega, by omega⟩
  · split
    · rename_i hd
      match r with
      | .nil => simp [Tr.ht] at hd
      | .nd y c a =>
        obtain ⟨b1, b2, b3, b4⟩ := hr
        by_cases hac : (Tr.nd y c a).rgt.ht < (Tr.nd y c a).lft.ht
        · rw [if_pos hac]
          match c with
          | .nil => simp [Tr.ht, Tr.lft, Tr.rgt] at hac
          | .nd z c2 c1 =>
            obtain ⟨d1, d2, d3, d4⟩ := b3
            simp only [Tr.upT, Tr.dn, Tr.up, Bal, Tr.ht, Tr.lft, Tr.rgt] at *
            refine ⟨⟨by omega, by omega, ⟨by omega, by omega, hl, d3⟩, by omega, by omega, d4, b4⟩, by omega, by omega, by omega⟩
        · rw [if_neg hac]
          simp only [Tr.dn, Bal, Tr.ht, Tr.lft, Tr.rgt] at *
          refine ⟨⟨by omega, by omega, ⟨by omega, by omega, hl, b3⟩, b4⟩, by omega, by omega, by omega⟩
    · simp only [Bal, Tr.ht]
      exact ⟨⟨by omega, by omega, hl, hr⟩, by omega, by omega, by intros; first | rfl | trivial⟩
theorem ins_bal {t : Tr S30} {x : S30} (h : Bal t) : Bal (ins t x) ∧ t.ht ≤ (ins t x).ht ∧ (ins t x).ht ≤ t.ht + 1 := by
  induction t with
  | nil => simp [ins, Tr.bal, Bal, Tr.ht]
  | nd y l r hl hr =>
    obtain ⟨b1, b2, b3, b4⟩ := h
    obtain ⟨l1, l2, l3⟩ := hl b3
    obtain ⟨r1, r2, r3⟩ := hr b4
    unfold ins
    split
    · obtain ⟨q1, q2, q3, q4⟩ := bal_bal (x := y) l1 b4 (by omega) (by omega)
      simp only [Tr.ht]
      refine ⟨q1, ?_, by omega⟩
      by_cases e : (ins l x).ht ≤ r.ht + 1
      · rw [q4 e (by omega)]; omega
      · omega
    · obtain ⟨q1, q2, q3, q4⟩ := bal_bal (x := y) b3 r1 (by omega) (by omega)
      simp only [Tr.ht]
      refine ⟨q1, ?_, by omega⟩
      by_cases e : (ins r x).ht ≤ l.ht + 1
      · rw [q4 (by omega) e]; omega
      · omega
theorem rem_bal {t : Tr S30} : ∀ {x : S30}, Bal t → Bal (rem t x) ∧ (rem t x).ht ≤ t.ht ∧ t.ht ≤ (rem t x).ht + 1 := by
  induction t with
  | nil => intro x _; simp [rem, Bal]
  | nd y l r hl hr =>
    intro x h
    obtain ⟨b1, b2, b3, b4⟩ := h
    unfold rem
    split
    · obtain ⟨l1, l2, l3⟩ := hl (x := x) b3
      obtain ⟨q1, q2, q3, q4⟩ := bal_bal (x := y) l1 b4 (by omega) (by omega)
      simp only [Tr.ht]
      refine ⟨q1, by omega, ?_⟩
      by_cases e : r.ht ≤ (rem l x).ht + 1
      · rw [q4 (by omega) e]; omega
      · omega
    · split
      · obtain ⟨r1, r2, r3⟩ := hr (x := x) b4
        obtain ⟨q1, q2, q3, q4⟩ := bal_bal (x := y) b3 r1 (by omega) (by omega)
        simp only [Tr.ht]
        refine ⟨q1, by omega, ?_⟩
        by_cases e : l.ht ≤ (rem r x).ht + 1
        · rw [q4 e (by omega)]; omega
        · omega
      · split
        · simp only [Tr.ht] at *
          exact ⟨b4, by omega, by omega⟩
        · simp only [Tr.ht] at *
          exact ⟨b3, by omega, by omega⟩
        · obtain ⟨r1, r2, r3⟩ := hr (x := fstT r) b4
          obtain ⟨q1, q2, q3, q4⟩ := bal_bal (x := fstT r) b3 r1 (by omega) (by omega)
          simp only [Tr.ht] at *
          refine ⟨q1, by omega, ?_⟩
          by_cases e : l.ht ≤ (rem r (fstT r)).ht + 1
          · rw [q4 e (by omega)]; omega
          · omega
theorem ht_upper {α : Type} (t : Tr α) : t.list.length + 1 ≤ 2 ^ t.ht := by
  induction t with
  | nil => simp [Tr.list]
  | nd y l r hl hr =>
    have h1 : 2 ^ l.ht ≤ 2 ^ max l.ht r.ht := Nat.pow_le_pow_right (by decide) (by omega)
    have h2 : 2 ^ r.ht ≤ 2 ^ max l.ht r.ht := Nat.pow_le_pow_right (by decide) (by omega)
    simp only [Tr.list, List.length_append, List.length_cons, Tr.ht]
    rw [Nat.pow_add]
    omega
theorem sq_le {a b m : Nat} (h1 : m ≤ a * a) (h2 : m ≤ b * b) : m ≤ a * b := by
  rcases Nat.le_total a b with h | h
  · exact Nat.le_trans h1 (Nat.mul_le_mul_left a h)
  · exact Nat.le_trans h2 (Nat.mul_le_mul_right b h)
theorem sum_sq {a b h : Nat} (h1 : 2 ^ (h + 1) ≤ a * a) (h2 : 2 ^ h ≤ b * b) : 2 ^ (h + 2) ≤ (a + b) * (a + b) := by
  have h3 : 2 ^ h ≤ a * b := sq_le (Nat.le_trans (Nat.pow_le_pow_right (by decide) (by omega)) h1) h2
  have e1 : 2 ^ (h + 1) = 2 * 2 ^ h := by rw [Nat.pow_succ]; omega
  have e2 : 2 ^ (h + 2) = 4 * 2 ^ h := by rw [Nat.pow_succ, Nat.pow_succ]; omega
  have e3 : (a + b) * (a + b) = a * a + 2 * (a * b) + b * b := by
    rw [Nat.add_mul, Nat.mul_add, Nat.mul_add, Nat.mul_comm b a]; omega
  omega
theorem ht_lower {α : Type} (t : Tr α) (h : Bal t) : 2 ^ t.ht ≤ (t.list.length + 1) * (t.list.length + 1) := by
  induction t with
  | nil => simp [Tr.list]
  | nd y l r hl hr =>
    obtain ⟨b1, b2, b3, b4⟩ := h
    have hl' := hl b3
    have hr' := hr b4
    have e : (Tr.nd y l r).list.length + 1 = (l.list.length + 1) + (r.list.length + 1) := by simp only [Tr.list, List.length_append, List.length_cons]; omega
    rw [e]
    simp only [Tr.ht]
    rcases Nat.le_total l.ht r.ht with hh | hh
    · rw [show max l.ht r.ht = r.ht by omega]
      rcases Nat.eq_zero_or_pos r.ht with h0 | h0
      · rw [h0]
        exact Nat.le_trans (by decide : 2 ^ (1 + 0) ≤ 2 * 2) (Nat.mul_le_mul (by omega) (by omega))
      · obtain ⟨k, hk⟩ : ∃ k, r.ht = k + 1 := ⟨r.ht - 1, by omega⟩
        rw [hk, show 1 + (k + 1) = k + 2 by omega, Nat.add_comm (l.list.length + 1)]
        refine sum_sq (by rw [← hk]; exact hr') (Nat.le_trans (Nat.pow_le_pow_right (by decide) (by omega)) hl')
    · rw [show max l.ht r.ht = l.ht by omega]
      rcases Nat.eq_zero_or_pos l.ht with h0 | h0
      · rw [h0]
        exact Nat.le_trans (by decide : 2 ^ (1 + 0) ≤ 2 * 2) (Nat.mul_le_mul (by omega) (by omega))
      · obtain ⟨k, hk⟩ : ∃ k, l.ht = k + 1 := ⟨l.ht - 1, by omega⟩
        rw [hk, show 1 + (k + 1) = k + 2 by omega]
        refine sum_sq (by rw [← hk]; exact hl') (Nat.le_trans (Nat.pow_le_pow_right (by decide) (by omega)) hr')
theorem ht_zero {α : Type} (t : Tr α) : t.ht = 0 ↔ t.list.length = 0 := by
  cases t with
  | nil => simp [Tr.list]
  | nd y l r => simp [Tr.ht, Tr.list]
/-! ### a tree of the package: ordered, balanced, its count right -/
def addT (Q : Tr S30) (x : S30) : Tr S30 × Bool := if vldB x.f0 = true ∧ hasT Q x = false then (ins Q x, true) else (Q, false)
def remT (Q : Tr S30) (x : S30) : Tr S30 × Bool := if hasT Q x = true then (rem Q x, true) else (Q, false)
structure Good (Q : Tr S30) (n : Nat) : Prop where
  ord : Ord Q
  bal : Bal Q
  len : Q.list.length = n
  val : ∀ z ∈ Q.list, vldB z.f0 = true
theorem Good.nil : Good .nil 0 := ⟨List.Pairwise.nil, trivial, rfl, fun z hz => by simp [Tr.list] at hz⟩
theorem nodup_of_asc {l : List S30} (h : l.Pairwise bef) : l.Nodup := List.Pairwise.imp (S := fun a b => a ≠ b) (fun {a b} h e => bef_irrefl b (by rw [e] at h; exact h)) h
theorem len_mem {l l' : List S30} (h : l.Nodup) (h' : l'.Nodup) (hm : ∀ z, z ∈ l ↔ z ∈ l') : l.length = l'.length :=
  ((List.perm_ext_iff_of_nodup h h').2 hm).length_eq
theorem Good.add {Q : Tr S30} {n : Nat} (h : Good Q n) (x : S30) : Good (addT Q x).1 (addT Q x).1.list.length := by
  unfold addT
  split
  · rename_i hc
    have hx : x ∉ Q.list := fun hm => by rw [(hasT_mem x h.ord).2 hm] at hc; simp at hc
    refine ⟨ins_ord h.ord hx, (ins_bal h.bal).1, rfl, fun z hz => ?_⟩
    rcases (ins_mem x z).1 hz with rfl | hz
    · exact hc.1
    · exact h.val z hz
  · exact ⟨h.ord, h.bal, rfl, h.val⟩
theorem Good.rem {Q : Tr S30} {n : Nat} (h : Good Q n) (x : S30) : Good (remT Q x).1 (remT Q x).1.list.length := by
  unfold remT
  split
  · rename_i hc
    exact ⟨(rem_spec h.ord ((hasT_mem x h.ord).1 hc)).2.2, (rem_bal h.bal).1, rfl, fun z hz => h.val z (((rem_spec h.ord ((hasT_mem x h.ord).1 hc)).2.1 z).1 hz).1⟩
  · exact ⟨h.ord, h.bal, rfl, h.val⟩
theorem ins_len {Q : Tr S30} (x : S30) : (ins Q x).list.length = Q.list.length + 1 := by
  induction Q with
  | nil => simp [ins, Tr.list_bal, Tr.list]
  | nd y l r hl hr =>
    unfold ins
    split <;> rw [Tr.list_bal] <;> simp only [Tr.list, List.length_append, List.length_cons, hl, hr] <;> omega
theorem rem_len {Q : Tr S30} {x : S30} (h : Ord Q) (hx : x ∈ Q.list) : (rem Q x).list.length = Q.list.length - 1 ∧ 1 ≤ Q.list.length := by
  obtain ⟨_, h2, h3⟩ := rem_spec h hx
  have h4 : (rem Q x).list.Perm (Q.list.erase x) := (List.perm_ext_iff_of_nodup (nodup_of_asc h3) ((nodup_of_asc h).erase x)).2 (fun z => by rw [h2, (nodup_of_asc h).mem_erase_iff]; exact and_comm)
  rw [h4.length_eq, List.length_erase_of_mem hx]
  exact ⟨rfl, List.length_pos_of_mem hx⟩
end Go.Proofs.Ytdjfjmcnghfdkaa.My
