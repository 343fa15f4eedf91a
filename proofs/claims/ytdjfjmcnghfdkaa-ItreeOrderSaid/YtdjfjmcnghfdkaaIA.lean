/- Trees of items: plain laws' words, and a tree in memory. -/
import Derived.Test.YtdjfjmcnghfdkaaPItreeActsx0
namespace Go.Proofs.Ytdjfjmcnghfdkaa.My
open Go Go.RowKit Go.Proofs.YtdjfjmcnghfdkaaW.PrintWords Go.Proofs.YtdjfjmcnghfdkaaW.PrintLast Go.Proofs.YtdjfjmcnghfdkaaW.PrintMore Go.Proofs.Ytdjfjmcnghfdkaa.PItreeActs
set_option linter.unusedVariables false
set_option linter.unusedSimpArgs false
/-! ### blocks that may be written -/
/-- Of the blocks that were there, only some of S were written. -/
def Wr (w w' : World) (S : Nat → Prop) : Prop := w'.os = w.os ∧ w'.tape = w.tape ∧ w'.output = w.output ∧ w.heap.size ≤ w'.heap.size ∧ ∀ k, k < w.heap.size → ¬ S k → w'.heap[k]? = w.heap[k]?
theorem Wr.of_below {w w' : World} (S : Nat → Prop) (h : Below w.heap.size w w') : Wr w w' S := ⟨h.os, h.tape, h.output, h.size, fun k hk _ => h.block k hk⟩
theorem Wr.refl (w : World) (S : Nat → Prop) : Wr w w S := ⟨rfl, rfl, rfl, Nat.le_refl _, fun _ _ _ => rfl⟩
theorem Wr.trans {w w1 w2 : World} {S S1 : Nat → Prop} (h1 : Wr w w1 S) (h2 : Wr w1 w2 S1) (hs : ∀ k, S1 k → S k ∨ w.heap.size ≤ k) : Wr w w2 S :=
  ⟨h2.1.trans h1.1, h2.2.1.trans h1.2.1, h2.2.2.1.trans h1.2.2.1, Nat.le_trans h1.2.2.2.1 h2.2.2.2.1, fun k hk hn => (h2.2.2.2.2 k (Nat.lt_of_lt_of_le hk h1.2.2.2.1) (fun h => by rcases hs k h with h | h; exact hn h; omega)).trans (h1.2.2.2.2 k hk hn)⟩
theorem Wr.below {w w' : World} {S : Nat → Prop} {base : Nat} (h : Wr w w' S) (hb : base ≤ w.heap.size) (hs : ∀ k, S k → base ≤ k) : Below base w w' :=
  ⟨h.1, h.2.1, h.2.2.1, h.2.2.2.1, fun k hk => h.2.2.2.2 k (Nat.lt_of_lt_of_le hk hb) (fun h => by have := hs k h; omega)⟩
theorem Wr.size {w w' : World} {S : Nat → Prop} (h : Wr w w' S) : w.heap.size ≤ w'.heap.size := h.2.2.2.1
theorem Wr.keep {w w' : World} {S : Nat → Prop} (h : Wr w w' S) {k : Nat} {o : Obj} (hk : w.heap[k]? = some o) (hn : ¬ S k) : w'.heap[k]? = some o := (h.2.2.2.2 k (blk_lt hk) hn).trans hk
theorem Wr.mono {w w' : World} {S S' : Nat → Prop} (h : Wr w w' S) (hs : ∀ k, S k → S' k) : Wr w w' S' := ⟨h.1, h.2.1, h.2.2.1, h.2.2.2.1, fun k hk hn => h.2.2.2.2 k hk (fun x => hn (hs k x))⟩
theorem Wr.set {w w' : World} {S : Nat → Prop} (h : Wr w w' S) {g : Nat} (hg : S g) (j : Nat) (v : Value) : Wr w (w'.setCell ⟨g, j, none⟩ v) S := by
  refine h.trans (S1 := fun k => k = g) ?_ (fun k hk => .inl (hk ▸ hg))
  refine ⟨rfl, rfl, rfl, by simp [World.setCell], fun k hk hn => ?_⟩
  exact Below.heap_setCell _ _ _ _ hn
theorem Wr.drewN {w w' : World} {S : Nat → Prop} (h : Wr w w' S) (n : Nat) : Wr w (w'.drewN n) S := h
theorem Wr.drawn {w w1 w' : World} {S : Nat → Prop} (h : Wr w w1 S) (hd : Drawn0 w1 w') : Wr w w' S := by
  obtain ⟨n, rfl⟩ := hd.out
  exact h.drewN n
/-! ### trees -/
inductive Tr (α : Type) where
  | nil : Tr α
  | nd (x : α) (l r : Tr α) : Tr α
namespace Tr
variable {α β : Type}
def ht : Tr α → Nat
  | nil => 0
  | nd _ l r => 1 + max l.ht r.ht
def map (f : α → β) : Tr α → Tr β
  | nil => nil
  | nd x l r => nd (f x) (l.map f) (r.map f)
def list : Tr α → List α
  | nil => []
  | nd x l r => l.list ++ x :: r.list
def lft : Tr α → Tr α
  | nil => nil
  | nd _ l _ => l
def rgt : Tr α → Tr α
  | nil => nil
  | nd _ _ r => r
/-- rotate(n, true) on 'nd x l r': the left child comes up. -/
def up (x : α) (l r : Tr α) : Tr α := match l with
  | nil => nd x nil r
  | nd y a c => nd y a (nd x c r)
def dn (x : α) (l r : Tr α) : Tr α := match r with
  | nil => nd x l nil
  | nd y c d => nd y (nd x l c) d
def upT : Tr α → Tr α
  | nil => nil
  | nd x l r => up x l r
def dnT : Tr α → Tr α
  | nil => nil
  | nd x l r => dn x l r
def bal (x : α) (l r : Tr α) : Tr α :=
  if l.ht > r.ht + 1 then up x (if l.lft.ht < l.rgt.ht then l.dnT else l) r
  else if r.ht > l.ht + 1 then dn x l (if r.rgt.ht < r.lft.ht then r.upT else r)
  else nd x l r
@[simp] theorem ht_nil : (nil : Tr α).ht = 0 := rfl
theorem ht_map (f : α → β) (t : Tr α) : (t.map f).ht = t.ht := by
  induction t with
  | nil => rfl
  | nd x l r hl hr => simp [map, ht, hl, hr]
theorem map_lft (f : α → β) (t : Tr α) : (t.map f).lft = t.lft.map f := by cases t <;> rfl
theorem map_rgt (f : α → β) (t : Tr α) : (t.map f).rgt = t.rgt.map f := by cases t <;> rfl
theorem map_up (f : α → β) (x : α) (l r : Tr α) : (up x l r).map f = up (f x) (l.map f) (r.map f) := by cases l <;> rfl
theorem map_dn (f : α → β) (x : α) (l r : Tr α) : (dn x l r).map f = dn (f x) (l.map f) (r.map f) := by cases r <;> rfl
theorem map_upT (f : α → β) (t : Tr α) : (t.upT).map f = (t.map f).upT := by
  cases t with
  | nil => rfl
  | nd x l r => exact map_up f x l r
theorem map_dnT (f : α → β) (t : Tr α) : (t.dnT).map f = (t.map f).dnT := by
  cases t with
  | nil => rfl
  | nd x l r => exact map_dn f x l r
theorem map_bal (f : α → β) (x : α) (l r : Tr α) : (bal x l r).map f = bal (f x) (l.map f) (r.map f) := by
  unfold bal
  rw [ht_map, ht_map, map_lft, map_rgt, map_lft, map_rgt, ht_map, ht_map, ht_map, ht_map]
  split
  · rw [map_up]
    split <;> simp [map_dnT]
  · split
    · rw [map_dn]
      split <;> simp [map_upT]
    · rfl
theorem list_map (f : α → β) (t : Tr α) : (t.map f).list = t.list.map f := by
  induction t with
  | nil => rfl
  | nd x l r hl hr => simp [map, list, hl, hr]
theorem list_up (x : α) (l r : Tr α) : (up x l r).list = l.list ++ x :: r.list := by cases l <;> simp [up, list]
theorem list_dn (x : α) (l r : Tr α) : (dn x l r).list = l.list ++ x :: r.list := by cases r <;> simp [dn, list]
theorem list_upT (t : Tr α) : t.upT.list = t.list := by
  cases t with
  | nil => rfl
  | nd x l r => exact list_up x l r
theorem list_dnT (t : Tr α) : t.dnT.list = t.list := by
  cases t with
  | nil => rfl
  | nd x l r => exact list_dn x l r
theorem list_bal (x : α) (l r : Tr α) : (bal x l r).list = l.list ++ x :: r.list := by
  unfold bal
  split
  · rw [list_up]; split <;> simp [list_dnT]
  · split
    · rw [list_dn]; split <;> simp [list_upT]
    · rfl
end Tr
/-- The greatest To of a subtree, at least 0. -/
def Tr.en : Tr S30 → Int
  | .nil => 0
  | .nd x l r => max x.f0.f1 (max l.en r.en)
/-! ### a tree in memory: each node with its block -/
abbrev BT := Tr (Nat × S30)
abbrev Tr.sk (t : BT) : Tr S30 := t.map Prod.snd
def Tr.ptr : BT → Value
  | .nil => .pointer none
  | .nd x _ _ => .pointer (some ⟨x.1, 0, none⟩)
def Tr.blks (t : BT) : List Nat := t.list.map Prod.fst
def nodeC (x : S30) (u v : Value) (h e : Int) : Array Value := #[.int .i64 x.f0.f0, .int .i64 x.f0.f1, .int .i64 x.f1, u, v, .int .i64 h, .int .i64 e]
def Tr.At (w : World) : BT → Prop
  | .nil => True
  | .nd x l r => w.heap[x.1]? = some (.cells (nodeC x.2 l.ptr r.ptr ((Tr.nd x l r).ht : Nat) ((Tr.nd x l r).sk.en)) 69 (0, 0)) ∧ l.At w ∧ r.At w
/-- A node whose own height and end may be old. -/
def Raw (w : World) (b : Nat) (x : S30) (l r : BT) : Prop := (∃ h e : Int, w.heap[b]? = some (.cells (nodeC x l.ptr r.ptr h e) 69 (0, 0))) ∧ l.At w ∧ r.At w
theorem Tr.blks_nil : Tr.blks (.nil : BT) = [] := rfl
theorem Tr.blks_nd (x : Nat × S30) (l r : BT) : Tr.blks (.nd x l r) = l.blks ++ x.1 :: r.blks := by simp [Tr.blks, Tr.list]
theorem Tr.At.keep {w w' : World} {t : BT} (h : t.At w) (hk : ∀ k ∈ t.blks, k < w.heap.size → w'.heap[k]? = w.heap[k]?) : t.At w' := by
  induction t with
  | nil => trivial
  | nd x l r hl hr =>
    obtain ⟨h0, h1, h2⟩ := h
    rw [Tr.blks_nd] at hk
    exact ⟨(hk x.1 (by simp) (blk_lt h0)).trans h0, hl h1 (fun k hm => hk k (by simp [hm])), hr h2 (fun k hm => hk k (by simp [hm]))⟩
theorem Tr.At.lt {w : World} {t : BT} (h : t.At w) : ∀ k ∈ t.blks, k < w.heap.size := by
  induction t with
  | nil => intro k hk; simp [Tr.blks_nil] at hk
  | nd x l r hl hr =>
    obtain ⟨h0, h1, h2⟩ := h
    intro k hk
    rw [Tr.blks_nd] at hk
    rcases List.mem_append.1 hk with hk | hk
    · exact hl h1 k hk
    · rcases List.mem_cons.1 hk with rfl | hk
      · exact blk_lt h0
      · exact hr h2 k hk
theorem Tr.At.wr {w w' : World} {t : BT} {S : Nat → Prop} (h : t.At w) (hw : Wr w w' S) (hn : ∀ k ∈ t.blks, ¬ S k) : t.At w' := h.keep (fun k hk hl => hw.2.2.2.2 k hl (hn k hk))
theorem Tr.At.below {w w' : World} {t : BT} (h : t.At w) (hb : Below w.heap.size w w') : t.At w' := h.keep (fun k _ hl => hb.block k hl)
theorem Raw.of_at {w : World} {x : Nat × S30} {l r : BT} (h : (Tr.nd x l r).At w) : Raw w x.1 x.2 l r := ⟨⟨_, _, h.1⟩, h.2⟩
theorem Raw.keep {w w' : World} {b : Nat} {x : S30} {l r : BT} (h : Raw w b x l r) (hk : ∀ k, k = b ∨ k ∈ l.blks ∨ k ∈ r.blks → k < w.heap.size → w'.heap[k]? = w.heap[k]?) : Raw w' b x l r := by
  obtain ⟨⟨h0, e, hb⟩, hl, hr⟩ := h
  exact ⟨⟨h0, e, (hk b (.inl rfl) (blk_lt hb)).trans hb⟩, hl.keep (fun k hm => hk k (.inr (.inl hm))), hr.keep (fun k hm => hk k (.inr (.inr hm)))⟩
theorem Raw.below {w w' : World} {b : Nat} {x : S30} {l r : BT} (h : Raw w b x l r) (hb : Below w.heap.size w w') : Raw w' b x l r := h.keep (fun k _ hl => hb.block k hl)
end Go.Proofs.Ytdjfjmcnghfdkaa.My
