/- What the reference's functions come to. -/
import Derived.Test.YtdjfjmcnghfdkaaIQ
import Derived.Test.YtdjfjmcnghfdkaaIR
import Derived.Test.YtdjfjmcnghfdkaaPItreeActsx11
namespace Go.Proofs.Ytdjfjmcnghfdkaa.My
open Go Go.RowKit Go.Proofs.YtdjfjmcnghfdkaaW.PrintWords Go.Proofs.Ytdjfjmcnghfdkaa.PItreeActs
set_option linter.unusedVariables false
set_option linter.unusedSimpArgs false
instance (x y : S30) : Decidable (bef x y) := by unfold bef; infer_instance
instance (p : S28) (z : S30) : Decidable (Hit p z) := by unfold Hit; infer_instance
theorem w_succ {i : Nat} (h : i ≤ 4000000) : wrap64 ((i : Int) + 1) = ((i + 1 : Nat) : Int) := by unfold wrap64; omega
theorem rd_item {l : List S30} {i : Nat} (h : i < l.length) : rd_T30 l (i : Int) = l[i] := by
  unfold rd_T30
  rw [Int.toNat_natCast, List.getD_eq_getElem?_getD, List.getElem?_eq_getElem h, Option.getD_some]
theorem rd_num {l : List Int} {i : Nat} (h : i < l.length) : rd l (i : Int) = l[i] := by
  unfold rd
  rw [Int.toNat_natCast, List.getD_eq_getElem?_getD, List.getElem?_eq_getElem h, Option.getD_some]
theorem rvalid_f (p : S28) : bitemporalref29_Valid.f p.f0 p.f1 = some (vldB p) := by
  unfold bitemporalref29_Valid.f vldB
  by_cases h1 : 0 ≤ p.f0
  · by_cases h2 : p.f0 < p.f1
    · simp [h1, h2]
    · simp [h1, h2]
  · simp [h1]
theorem before_f (x y : S30) : bitemporalref29_before.f x.f0.f0 x.f0.f1 x.f1 y.f0.f0 y.f0.f1 y.f1 = some (decide (bef x y)) := by
  unfold bitemporalref29_before.f
  split
  · split
    · congr 1; rw [Bool.eq_iff_iff]; simp only [decide_eq_true_eq]; unfold bef; omega
    · congr 1; rw [Bool.eq_iff_iff]; simp only [decide_eq_true_eq]; unfold bef; omega
  · congr 1; rw [Bool.eq_iff_iff]; simp only [decide_eq_true_eq]; unfold bef; omega
theorem fuel {d k : Nat} (h : d < k) : ∃ m, k = m + 1 ∧ d ≤ m := ⟨k - 1, by omega, by omega⟩
theorem has_l (l : List S30) (x : S30) (hn : l.length ≤ 2000000) : ∀ (d k i : Nat), l.length - i = d → i ≤ l.length → d < k → bitemporalref29_Has.l0 k x.f1 l (l.length : Int) (i : Int) x.f0.f0 x.f0.f1 = some (decide (x ∈ l.drop i)) := by
  intro d
  induction d with
  | zero =>
    intro k i h1 h2 hk
    obtain ⟨m, rfl, _⟩ := fuel hk
    have e : i = l.length := by omega
    subst e
    simp only [bitemporalref29_Has.l0]
    rw [if_neg (by omega)]
    simp
  | succ d ih =>
    intro k i h1 h2 hk
    obtain ⟨m, rfl, hm⟩ := fuel hk
    have hi : i < l.length := by omega
    have ih' := ih m (i + 1) (by omega) (by omega) (by omega)
    simp only [bitemporalref29_Has.l0]
    rw [if_pos (by omega), if_pos (by omega), if_pos (by omega), w_succ (by omega), rd_item hi, ih', List.drop_eq_getElem_cons hi]
    by_cases hx : l[i] = x
    · rw [if_pos (by rw [hx]; simp), if_pos (by rw [hx])]
      simp [hx]
    · have hx' : x ∉ [l[i]] := by simp; exact fun e => hx e.symm
      have e1 : decide (x ∈ l[i] :: l.drop (i + 1)) = decide (x ∈ l.drop (i + 1)) := by
        rw [Bool.eq_iff_iff]; simp only [decide_eq_true_eq, List.mem_cons]
        exact ⟨fun h => h.resolve_left (fun e => hx e.symm), .inr⟩
      rw [e1]
      split
      · rename_i hc
        rw [if_neg (fun h => hx (by simp at hc; exact S30_ext hc.1 hc.2 h))]
      · rfl
theorem has_f (l : List S30) (x : S30) (hn : l.length ≤ 2000000) : bitemporalref29_Has.f (l.length + 1) l x.f0.f0 x.f0.f1 x.f1 = some (decide (x ∈ l)) := by
  unfold bitemporalref29_Has.f
  have := has_l l x hn l.length (l.length + 1) 0 (by omega) (by omega) (by omega)
  simpa using this
theorem add_l1 (l : List S30) (x : S30) (hn : l.length ≤ 1000000) : ∀ (d k i : Nat) (acc : List S30), l.length - i = d → i ≤ l.length → acc.length + d ≤ 3000000 → d < k → bitemporalref29_Add.l1 k acc l (l.length : Int) (i : Int) x.f0.f0 x.f0.f1 x.f1 = some (acc ++ (l.drop i).filter (fun z => decide (bef x z)), true) := by
  intro d
  induction d with
  | zero =>
    intro k i acc h1 h2 h3 hk
    obtain ⟨m, rfl, _⟩ := fuel hk
    have e : i = l.length := by omega
    subst e
    simp only [bitemporalref29_Add.l1]
    rw [if_neg (by omega)]
    simp
  | succ d ih =>
    intro k i acc h1 h2 h3 hk
    obtain ⟨m, rfl, hm⟩ := fuel hk
    have hi : i < l.length := by omega
    simp only [bitemporalref29_Add.l1]
    rw [if_pos (by omega), if_pos (by omega), if_pos (by omega), w_succ (by omega), rd_item hi, before_f, Option.bind_some, List.drop_eq_getElem_cons hi, List.filter_cons]
    by_cases hb : bef x l[i]
    · rw [if_pos (by simpa using hb), if_pos (by omega), if_pos (by simpa using hb)]
      rw [ih m (i + 1) (acc ++ [l[i]]) (by omega) (by omega) (by simp; omega) (by omega)]
      simp
    · rw [if_neg (by simpa using hb), if_neg (by simpa using hb)]
      exact ih m (i + 1) acc (by omega) (by omega) (by omega) (by omega)
theorem add_l0 (l : List S30) (x : S30) (hn : l.length ≤ 1000000) : ∀ (d k i : Nat) (acc : List S30), l.length - i = d → i ≤ l.length → acc.length ≤ i → d + l.length + 1 < k → bitemporalref29_Add.l0 k l acc l (l.length : Int) (i : Int) x.f0.f0 x.f0.f1 x.f1 = some (acc ++ (l.drop i).filter (fun z => decide (bef z x)) ++ x :: l.filter (fun z => decide (bef x z)), true) := by
  intro d
  induction d with
  | zero =>
    intro k i acc h1 h2 h3 hk
    obtain ⟨m, rfl, _⟩ := fuel hk
    have e : i = l.length := by omega
    subst e
    simp only [bitemporalref29_Add.l0]
    rw [if_neg (by omega), if_pos (by omega)]
    have := add_l1 l x hn l.length m 0 (acc ++ [x]) (by omega) (by omega) (by simp; omega) (by omega)
    simp only [List.drop_zero] at this
    rw [show (⟨(⟨x.f0.f0, x.f0.f1⟩ : S28), x.f1⟩ : S30) = x from rfl, show (0 : Int) = ((0 : Nat) : Int) from rfl, this]
    simp
  | succ d ih =>
    intro k i acc h1 h2 h3 hk
    obtain ⟨m, rfl, hm⟩ := fuel hk
    have hi : i < l.length := by omega
    simp only [bitemporalref29_Add.l0]
    rw [if_pos (by omega), if_pos (by omega), if_pos (by omega), w_succ (by omega), rd_item hi, before_f, Option.bind_some, List.drop_eq_getElem_cons hi, List.filter_cons]
    by_cases hb : bef l[i] x
    · rw [if_pos (by simpa using hb), if_pos (by omega), if_pos (by simpa using hb)]
      rw [ih m (i + 1) (acc ++ [l[i]]) (by omega) (by omega) (by simp; omega) (by omega)]
      simp
    · rw [if_neg (by simpa using hb), if_neg (by simpa using hb)]
      exact ih m (i + 1) acc (by omega) (by omega) (by omega) (by omega)
/-- The reference's Add on the list of the items. -/
def addR (l : List S30) (x : S30) : List S30 × Bool := if vldB x.f0 = true ∧ x ∉ l then (l.filter (fun z => decide (bef z x)) ++ x :: l.filter (fun z => decide (bef x z)), true) else (l, false)
theorem add_f (l : List S30) (x : S30) (hn : l.length ≤ 1000000) : bitemporalref29_Add.f (2 * l.length + 4) l x.f0.f0 x.f0.f1 x.f1 = some ((addR l x).1, (addR l x).2) := by
  unfold bitemporalref29_Add.f addR
  rw [rvalid_f x.f0, Option.bind_some]
  cases hv : vldB x.f0 with
  | false =>
    rw [if_neg (by simp)]
    simp [bitemporalref29_Add.j0]
  | true =>
    rw [if_pos rfl]
    have hh := has_l l x (by omega) l.length (2 * l.length + 4) 0 (by omega) (by omega) (by omega)
    simp only [List.drop_zero] at hh
    unfold bitemporalref29_Has.f
    rw [show (0 : Int) = ((0 : Nat) : Int) from rfl, hh, Option.bind_some]
    by_cases hx : x ∈ l
    · simp [hx, bitemporalref29_Add.j0]
    · rw [if_pos ⟨rfl, hx⟩]
      show bitemporalref29_Add.j0 (2 * l.length + 3 + 1) l x.f1 (decide (x ∈ l)) x.f0.f0 x.f0.f1 = _
      simp only [bitemporalref29_Add.j0]
      rw [if_neg (by simpa using hx)]
      have := add_l0 l x hn l.length (2 * l.length + 3) 0 [] (by omega) (by omega) (by simp) (by omega)
      simp only [List.drop_zero, List.nil_append] at this
      rw [show (0 : Int) = ((0 : Nat) : Int) from rfl, this]
theorem rrem_l (l : List S30) (x : S30) (hn : l.length ≤ 1000000) : ∀ (d k i : Nat) (acc : List S30), l.length - i = d → i ≤ l.length → acc.length ≤ i → d < k → bitemporalref29_Remove.l0 k x.f1 acc l (l.length : Int) (i : Int) x.f0.f0 x.f0.f1 = some (acc ++ (l.drop i).filter (fun z => decide (z ≠ x)), true) := by
  intro d
  induction d with
  | zero =>
    intro k i acc h1 h2 h3 hk
    obtain ⟨m, rfl, _⟩ := fuel hk
    have e : i = l.length := by omega
    subst e
    simp only [bitemporalref29_Remove.l0]
    rw [if_neg (by omega)]
    simp
  | succ d ih =>
    intro k i acc h1 h2 h3 hk
    obtain ⟨m, rfl, hm⟩ := fuel hk
    have hi : i < l.length := by omega
    simp only [bitemporalref29_Remove.l0]
    rw [if_pos (by omega), if_pos (by omega), if_pos (by omega), w_succ (by omega), rd_item hi, List.drop_eq_getElem_cons hi, List.filter_cons]
    have ihk := ih m (i + 1) (acc ++ [l[i]]) (by omega) (by omega) (by simp; omega) (by omega)
    have ihs := ih m (i + 1) acc (by omega) (by omega) (by omega) (by omega)
    by_cases hx : l[i] = x
    · rw [if_neg (by rw [hx]; simp), if_pos (by rw [hx]), if_neg (by simpa using hx)]
      exact ihs
    · rw [if_pos (c := decide (l[i] ≠ x) = true) (by simpa using hx)]
      have e1 : acc ++ l[i] :: (l.drop (i + 1)).filter (fun z => decide (z ≠ x)) = acc ++ [l[i]] ++ (l.drop (i + 1)).filter (fun z => decide (z ≠ x)) := by simp
      rw [e1]
      split
      · rw [if_pos (by omega)]; exact ihk
      · rename_i hc
        rw [if_neg (fun h => hx (by simp at hc; exact S30_ext hc.1 hc.2 h)), if_pos (by omega)]
        exact ihk
def remR (l : List S30) (x : S30) : List S30 × Bool := if x ∈ l then (l.filter (fun z => decide (z ≠ x)), true) else (l, false)
theorem remove_f (l : List S30) (x : S30) (hn : l.length ≤ 1000000) : bitemporalref29_Remove.f (l.length + 1) l x.f0.f0 x.f0.f1 x.f1 = some ((remR l x).1, (remR l x).2) := by
  unfold bitemporalref29_Remove.f remR
  rw [has_f l x (by omega), Option.bind_some]
  by_cases hx : x ∈ l
  · rw [if_pos (by simpa using hx), if_pos hx]
    have := rrem_l l x hn l.length (l.length + 1) 0 [] (by omega) (by omega) (by simp) (by omega)
    simp only [List.drop_zero, List.nil_append] at this
    rw [show (0 : Int) = ((0 : Nat) : Int) from rfl, this]
  · rw [if_neg (by simpa using hx), if_neg hx]
/-! Put, Stab, Overlap -/
def putR (l : List Int) (n : Int) : List Int := l.filter (fun x => decide (x < n)) ++ n :: l.filter (fun x => decide (n < x))
theorem put_l1 (l : List Int) (n : Int) (hn : l.length ≤ 1000000) : ∀ (d k i : Nat) (acc : List Int), l.length - i = d → i ≤ l.length → acc.length + d ≤ 3000000 → d < k → bitemporalref29_Put.l1 k n acc l (l.length : Int) (i : Int) = some (acc ++ (l.drop i).filter (fun x => decide (n < x))) := by
  intro d
  induction d with
  | zero =>
    intro k i acc h1 h2 h3 hk
    obtain ⟨m, rfl, _⟩ := fuel hk
    have e : i = l.length := by omega
    subst e
    simp only [bitemporalref29_Put.l1]
    rw [if_neg (by omega)]
    simp
  | succ d ih =>
    intro k i acc h1 h2 h3 hk
    obtain ⟨m, rfl, hm⟩ := fuel hk
    have hi : i < l.length := by omega
    simp only [bitemporalref29_Put.l1]
    rw [if_pos (by omega), if_pos (by omega), if_pos (by omega), w_succ (by omega), rd_num hi, List.drop_eq_getElem_cons hi, List.filter_cons]
    by_cases hb : n < l[i]
    · rw [if_pos hb, if_pos (by omega), if_pos (by simpa using hb)]
      rw [ih m (i + 1) (acc ++ [l[i]]) (by omega) (by omega) (by simp; omega) (by omega)]
      simp
    · rw [if_neg hb, if_neg (by simpa using hb)]
      exact ih m (i + 1) acc (by omega) (by omega) (by omega) (by omega)
theorem put_l0 (l : List Int) (n : Int) (hn : l.length ≤ 1000000) : ∀ (d k i : Nat) (acc : List Int), l.length - i = d → i ≤ l.length → acc.length ≤ i → d + l.length + 1 < k → bitemporalref29_Put.l0 k l n acc l (l.length : Int) (i : Int) = some (acc ++ (l.drop i).filter (fun x => decide (x < n)) ++ n :: l.filter (fun x => decide (n < x))) := by
  intro d
  induction d with
  | zero =>
    intro k i acc h1 h2 h3 hk
    obtain ⟨m, rfl, _⟩ := fuel hk
    have e : i = l.length := by omega
    subst e
    simp only [bitemporalref29_Put.l0]
    rw [if_neg (by omega), if_pos (by omega)]
    have := put_l1 l n hn l.length m 0 (acc ++ [n]) (by omega) (by omega) (by simp; omega) (by omega)
    simp only [List.drop_zero] at this
    rw [show (0 : Int) = ((0 : Nat) : Int) from rfl, this]
    simp
  | succ d ih =>
    intro k i acc h1 h2 h3 hk
    obtain ⟨m, rfl, hm⟩ := fuel hk
    have hi : i < l.length := by omega
    simp only [bitemporalref29_Put.l0]
    rw [if_pos (by omega), if_pos (by omega), if_pos (by omega), w_succ (by omega), rd_num hi, List.drop_eq_getElem_cons hi, List.filter_cons]
    by_cases hb : l[i] < n
    · rw [if_pos hb, if_pos (by omega), if_pos (by simpa using hb)]
      rw [ih m (i + 1) (acc ++ [l[i]]) (by omega) (by omega) (by simp; omega) (by omega)]
      simp
    · rw [if_neg hb, if_neg (by simpa using hb)]
      exact ih m (i + 1) acc (by omega) (by omega) (by omega) (by omega)
theorem put_f (l : List Int) (n : Int) (hn : l.length ≤ 1000000) {k : Nat} (hk : 2 * l.length + 1 < k) : bitemporalref29_Put.f k l n = some (putR l n) := by
  unfold bitemporalref29_Put.f putR
  have := put_l0 l n hn l.length k 0 [] (by omega) (by omega) (by simp) (by omega)
  simp only [List.drop_zero, List.nil_append] at this
  rw [show (0 : Int) = ((0 : Nat) : Int) from rfl, this]
theorem putR_length (l : List Int) (n : Int) : (putR l n).length ≤ l.length + 1 := by
  unfold putR
  rw [List.length_append, List.length_cons]
  have : (l.filter (fun x => decide (x < n))).length + (l.filter (fun x => decide (n < x))).length ≤ l.length := by
    induction l with
    | nil => simp
    | cons a r ih =>
      rw [List.filter_cons, List.filter_cons]
      by_cases h1 : a < n
      · rw [if_pos (by simpa using h1), if_neg (by simp; omega)]; simp only [List.length_cons]; omega
      · rw [if_neg (by simpa using h1)]
        split <;> simp only [List.length_cons] <;> omega
  omega
def colR (P : S30 → Bool) (acc : List Int) (l : List S30) : List Int := l.foldl (fun out x => if P x = true then putR out x.f1 else out) acc
theorem stab_l (l : List S30) (at_ : Int) (hn : l.length ≤ 300000) : ∀ (d k i : Nat) (acc : List Int), l.length - i = d → i ≤ l.length → acc.length ≤ i → 4 * d + 2 * acc.length + 5 < k → bitemporalref29_Stab.l0 k at_ acc l (l.length : Int) (i : Int) = some (colR (fun z => decide (Hit ⟨at_, at_ + 1⟩ z)) acc (l.drop i)) := by
  intro d
  induction d with
  | zero =>
    intro k i acc h1 h2 h3 hk
    obtain ⟨m, rfl, _⟩ := fuel hk
    have e : i = l.length := by omega
    subst e
    simp only [bitemporalref29_Stab.l0]
    rw [if_neg (by omega)]
    simp [colR]
  | succ d ih =>
    intro k i acc h1 h2 h3 hk
    obtain ⟨m, rfl, hm⟩ := fuel hk
    have hi : i < l.length := by omega
    simp only [bitemporalref29_Stab.l0]
    rw [if_pos (by omega), if_pos (by omega), if_pos (by omega), w_succ (by omega), rd_item hi, List.drop_eq_getElem_cons hi]
    unfold colR
    rw [List.foldl_cons]
    have ihs := ih m (i + 1) acc (by omega) (by omega) (by omega) (by omega)
    by_cases ha : (l[i]).f0.f0 ≤ at_
    · rw [if_pos ha]
      by_cases hb : at_ < (l[i]).f0.f1
      · rw [if_pos hb, put_f acc _ (by omega) (by omega), Option.bind_some, if_pos (c := decide (Hit ⟨at_, at_ + 1⟩ l[i]) = true) (by rw [decide_eq_true_eq]; unfold Hit; dsimp only; omega)]
        have := putR_length acc (l[i]).f1
        exact ih m (i + 1) (putR acc (l[i]).f1) (by omega) (by omega) (by omega) (by omega)
      · rw [if_neg hb, if_neg (c := decide (Hit ⟨at_, at_ + 1⟩ l[i]) = true) (by rw [decide_eq_true_eq]; unfold Hit; dsimp only; omega)]
        exact ihs
    · rw [if_neg ha, if_neg (c := decide (Hit ⟨at_, at_ + 1⟩ l[i]) = true) (by rw [decide_eq_true_eq]; unfold Hit; dsimp only; omega)]
      exact ihs
theorem stab_f (l : List S30) (at_ : Int) (hn : l.length ≤ 300000) : bitemporalref29_Stab.f (4 * l.length + 6) l at_ = some (colR (fun z => decide (Hit ⟨at_, at_ + 1⟩ z)) [] l) := by
  unfold bitemporalref29_Stab.f
  have := stab_l l at_ hn l.length (4 * l.length + 6) 0 [] (by omega) (by omega) (by simp) (by simp)
  simp only [List.drop_zero] at this
  rw [show (0 : Int) = ((0 : Nat) : Int) from rfl, this]
theorem overlap_l (l : List S30) (p : S28) (hn : l.length ≤ 300000) : ∀ (d k i : Nat) (acc : List Int), l.length - i = d → i ≤ l.length → acc.length ≤ i → 4 * d + 2 * acc.length + 5 < k → bitemporalref29_Overlap.l0 k acc l (l.length : Int) (i : Int) p.f0 p.f1 = some (colR (fun z => vldB p && decide (Hit p z)) acc (l.drop i)) := by
  intro d
  induction d with
  | zero =>
    intro k i acc h1 h2 h3 hk
    obtain ⟨m, rfl, _⟩ := fuel hk
    have e : i = l.length := by omega
    subst e
    simp only [bitemporalref29_Overlap.l0]
    rw [if_neg (by omega)]
    simp [colR]
  | succ d ih =>
    intro k i acc h1 h2 h3 hk
    obtain ⟨m, rfl, hm⟩ := fuel hk
    have hi : i < l.length := by omega
    simp only [bitemporalref29_Overlap.l0]
    rw [if_pos (by omega), if_pos (by omega), if_pos (by omega), w_succ (by omega), rd_item hi, List.drop_eq_getElem_cons hi, rvalid_f, Option.bind_some]
    unfold colR
    rw [List.foldl_cons]
    have ihs := ih m (i + 1) acc (by omega) (by omega) (by omega) (by omega)
    cases hv : vldB p with
    | false =>
      rw [hv] at ihs
      rw [if_neg (by simp), if_neg (by simp)]
      exact ihs
    | true =>
      rw [if_pos rfl]
      have ih2 := ih
      rw [hv] at ih2 ihs
      by_cases ha : (l[i]).f0.f0 < p.f1
      · rw [if_pos ha]
        by_cases hb : p.f0 < (l[i]).f0.f1
        · rw [if_pos hb, put_f acc _ (by omega) (by omega), Option.bind_some, if_pos (c := (true && decide (Hit p l[i])) = true) (by rw [Bool.true_and, decide_eq_true_eq]; exact ⟨ha, hb⟩)]
          have := putR_length acc (l[i]).f1
          exact ih2 m (i + 1) (putR acc (l[i]).f1) (by omega) (by omega) (by omega) (by omega)
        · rw [if_neg hb, if_neg (c := (true && decide (Hit p l[i])) = true) (by rw [Bool.true_and, decide_eq_true_eq]; exact fun h => hb h.2)]
          exact ihs
      · rw [if_neg ha, if_neg (c := (true && decide (Hit p l[i])) = true) (by rw [Bool.true_and, decide_eq_true_eq]; exact fun h => ha h.1)]
        exact ihs
theorem overlap_f (l : List S30) (p : S28) (hn : l.length ≤ 300000) : bitemporalref29_Overlap.f (4 * l.length + 6) l p.f0 p.f1 = some (colR (fun z => vldB p && decide (Hit p z)) [] l) := by
  unfold bitemporalref29_Overlap.f
  have := overlap_l l p hn l.length (4 * l.length + 6) 0 [] (by omega) (by omega) (by simp) (by simp)
  simp only [List.drop_zero] at this
  rw [show (0 : Int) = ((0 : Nat) : Int) from rfl, this]
/-! equality of lists -/
theorem ints_l (a b : List Int) (hab : a.length = b.length) (hn : a.length ≤ 1000000) : ∀ (d k i : Nat), a.length - i = d → i ≤ a.length → d < k → bitemporallaw29_ints.l0 k a b (a.length : Int) (i : Int) = some (decide (a.drop i = b.drop i)) := by
  intro d
  induction d with
  | zero =>
    intro k i h1 h2 hk
    obtain ⟨m, rfl, _⟩ := fuel hk
    have e : i = a.length := by omega
    subst e
    simp only [bitemporallaw29_ints.l0]
    rw [if_neg (by omega)]
    rw [List.drop_of_length_le (Nat.le_refl _), List.drop_of_length_le (by omega)]
    simp
  | succ d ih =>
    intro k i h1 h2 hk
    obtain ⟨m, rfl, hm⟩ := fuel hk
    have hi : i < a.length := by omega
    have hi' : i < b.length := by omega
    simp only [bitemporallaw29_ints.l0]
    rw [if_pos (by omega), if_pos (by omega), if_pos (by omega), if_pos (by omega), w_succ (by omega), rd_num hi, rd_num hi', ih m (i + 1) (by omega) (by omega) (by omega), List.drop_eq_getElem_cons hi, List.drop_eq_getElem_cons hi']
    by_cases he : a[i] = b[i]
    · rw [if_pos he]; congr 1; rw [Bool.eq_iff_iff]; simp only [decide_eq_true_eq, List.cons.injEq, he, true_and]
    · rw [if_neg he]; congr 1; rw [Bool.eq_iff_iff]; simp only [decide_eq_true_eq, List.cons.injEq, he, false_and, Bool.false_eq_true]
theorem ints_f (a b : List Int) (hn : a.length ≤ 1000000) : bitemporallaw29_ints.f (a.length + 1) a b = some (decide (a = b)) := by
  unfold bitemporallaw29_ints.f
  by_cases h : a.length = b.length
  · rw [if_pos (by omega)]
    have := ints_l a b h hn a.length (a.length + 1) 0 (by omega) (by omega) (by omega)
    simp only [List.drop_zero] at this
    rw [show (0 : Int) = ((0 : Nat) : Int) from rfl, this]
  · rw [if_neg (by omega)]
    congr 1
    rw [eq_comm, decide_eq_false_iff_not]
    exact fun e => h (by rw [e])
theorem items_l (a b : List S30) (hab : a.length = b.length) (hn : a.length ≤ 1000000) : ∀ (d k i : Nat), a.length - i = d → i ≤ a.length → d < k → bitemporallaw29_items.l0 k a b (a.length : Int) (i : Int) = some (decide (a.drop i = b.drop i)) := by
  intro d
  induction d with
  | zero =>
    intro k i h1 h2 hk
    obtain ⟨m, rfl, _⟩ := fuel hk
    have e : i = a.length := by omega
    subst e
    simp only [bitemporallaw29_items.l0]
    rw [if_neg (by omega)]
    rw [List.drop_of_length_le (Nat.le_refl _), List.drop_of_length_le (by omega)]
    simp
  | succ d ih =>
    intro k i h1 h2 hk
    obtain ⟨m, rfl, hm⟩ := fuel hk
    have hi : i < a.length := by omega
    have hi' : i < b.length := by omega
    simp only [bitemporallaw29_items.l0]
    rw [if_pos (by omega), if_pos (by omega), if_pos (by omega), if_pos (by omega), w_succ (by omega), rd_item hi, rd_item hi', ih m (i + 1) (by omega) (by omega) (by omega), List.drop_eq_getElem_cons hi, List.drop_eq_getElem_cons hi']
    by_cases he : a[i] = b[i]
    · rw [if_neg (by rw [he]; simp)]; congr 1; rw [Bool.eq_iff_iff]; simp only [decide_eq_true_eq, List.cons.injEq, he, true_and]
    · rw [if_pos (by
        simp only [Bool.or_eq_true, Bool.not_eq_true', beq_eq_false_iff_ne, ne_eq]
        rcases Decidable.em ((a[i]).f0.f0 = (b[i]).f0.f0) with h1 | h1
        · rcases Decidable.em ((a[i]).f0.f1 = (b[i]).f0.f1) with h2 | h2
          · exact .inr (fun h3 => he (S30_ext h1 h2 h3))
          · exact .inl (.inr h2)
        · exact .inl (.inl h1))]
      congr 1; rw [Bool.eq_iff_iff]; simp only [decide_eq_true_eq, List.cons.injEq, he, false_and, Bool.false_eq_true]
theorem items_f (a b : List S30) (hn : a.length ≤ 1000000) : bitemporallaw29_items.f (a.length + 1) a b = some (decide (a = b)) := by
  unfold bitemporallaw29_items.f
  by_cases h : a.length = b.length
  · rw [if_pos (by omega)]
    have := items_l a b h hn a.length (a.length + 1) 0 (by omega) (by omega) (by omega)
    simp only [List.drop_zero] at this
    rw [show (0 : Int) = ((0 : Nat) : Int) from rfl, this]
  · rw [if_neg (by omega)]
    congr 1
    rw [eq_comm, decide_eq_false_iff_not]
    exact fun e => h (by rw [e])
end Go.Proofs.Ytdjfjmcnghfdkaa.My
