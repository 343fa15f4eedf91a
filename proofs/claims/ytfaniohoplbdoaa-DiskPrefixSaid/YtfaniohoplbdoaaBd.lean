/- The disk's view is the reference's, if each operation was let in. -/
import Derived.Test.YtfaniohoplbdoaaBc
import Derived.Test.YtfaniohoplbdoaaBa
namespace Go.Proofs.Ytfaniohoplbdoaa.My
open Go Go.RowKit Go.Proofs.YtfaniohoplbdoaaW.PrintWords Go.Proofs.YtfaniohoplbdoaaW.PrintLast Go.Proofs.YtfaniohoplbdoaaW.PrintMore Go.Proofs.Ytfaniohoplbdoaa.PDiskActs
set_option linter.unusedVariables false
set_option linter.unusedSimpArgs false
theorem less_total {a b : List UInt8} (h : a ≠ b) (h2 : Op.bytesLess a b = false) : Op.bytesLess b a = true := by
  rw [← before_less] at h2 ⊢
  rcases WideAt.bytes_total a b h with h | h
  · rw [h2] at h; cases h
  · exact h
theorem insL_mem {f x : S109} : ∀ {l : List S109}, x ∈ insL f l → x = f ∨ x ∈ l
  | [], h => .inl (by simpa [insL] using h)
  | y :: r, h => by
    unfold insL at h
    split at h
    · rcases List.mem_cons.1 h with h | h
      · exact .inl h
      · exact .inr h
    · rcases List.mem_cons.1 h with h | h
      · exact .inr (h ▸ List.mem_cons_self)
      · rcases insL_mem h with h | h
        · exact .inl h
        · exact .inr (List.mem_cons_of_mem _ h)
theorem insL_srt {f : S109} : ∀ {l : List S109}, Srt l → (∀ x ∈ l, x.f0.toList ≠ f.f0.toList) → Srt (insL f l)
  | [], _, _ => List.pairwise_cons.2 ⟨fun _ h => by simp at h, List.Pairwise.nil⟩
  | y :: r, hs, hn => by
    obtain ⟨h1, h2⟩ := List.pairwise_cons.1 hs
    unfold insL
    cases hq : Op.bytesLess f.f0.toList y.f0.toList with
    | true =>
      rw [if_pos rfl]
      refine List.pairwise_cons.2 ⟨fun x hx => ?_, hs⟩
      rcases List.mem_cons.1 hx with h | h
      · rw [h]; exact hq
      · exact less_trans hq (h1 x h)
    | false =>
      rw [if_neg (by simp)]
      refine List.pairwise_cons.2 ⟨fun x hx => ?_, insL_srt h2 (fun x hx => hn x (List.mem_cons_of_mem _ hx))⟩
      rcases insL_mem hx with h | h
      · rw [h]; exact less_total (fun e => hn y List.mem_cons_self e.symm) hq
      · exact h1 x h
theorem without_srt {l : List S109} (nm : ByteArray) (h : Srt l) : Srt (withoutL l nm) := List.Pairwise.filter _ h
theorem with_srt {l : List S109} (f : S109) (h : Srt l) : Srt (withL l f) := by
  refine insL_srt (without_srt f.f0 h) (fun x hx => ?_)
  have := (List.mem_filter.1 hx).2
  simpa using this
theorem carry_srt {l : List S109} (o : S123) (h : Srt l) : Srt (carryL l o) := by
  unfold carryL
  split
  · exact with_srt _ h
  · split
    · exact without_srt _ h
    · split
      · exact h
      · split
        · exact h
        · exact with_srt _ (without_srt _ h)
theorem view_srt (ops : List S123) : ∀ {l : List S109}, Srt l → Srt (viewL l ops) := by
  induction ops with
  | nil => intro l h; exact h
  | cons o r ih => intro l h; exact ih (carry_srt o h)
/-- Operations that were let in one by one. -/
def OkOps : List S109 → List S123 → Prop
  | _, [] => True
  | l, o :: r => OkOp l o ∧ OkOps (carryL l o) r
theorem dview_view : ∀ {ops : List S123} {l : List S109}, Srt l → OkOps l ops → dviewL l ops = viewL l ops
  | [], _, _, _ => rfl
  | o :: r, l, hs, h => by
    have ih := dview_view (ops := r) (carry_srt o hs) h.2
    show dviewL (applyL l o) r = viewL (carryL l o) r
    rw [apply_carry hs h.1, ih]
theorem OkOps.take : ∀ {ops : List S123} {l : List S109} (k : Nat), OkOps l ops → OkOps l (ops.take k)
  | [], _, k, _ => by simp [OkOps]
  | o :: r, l, 0, _ => trivial
  | o :: r, l, k + 1, h => ⟨h.1, OkOps.take k h.2⟩
theorem OkOps.snoc : ∀ {ops : List S123} {l : List S109} {o : S123}, OkOps l ops → OkOp (viewL l ops) o → OkOps l (ops ++ [o])
  | [], _, _, _, h => ⟨h, trivial⟩
  | p :: r, l, o, h, h2 => ⟨h.1, OkOps.snoc h.2 h2⟩
theorem OkOps.at_ : ∀ {ops : List S123} {l : List S109} (k : Nat) (h : k < ops.length), OkOps l ops → OkOp (viewL l (ops.take k)) (ops[k])
  | [], _, k, h, _ => by simp at h
  | o :: r, l, 0, _, h => h.1
  | o :: r, l, k + 1, hk, h => OkOps.at_ (l := carryL l o) k (by simp at hk; omega) h.2
theorem OkOps.remove {l : List S109} {ops : List S123} (nm : ByteArray) (h : OkOps l ops) : OkOps l (removeL l ops nm).1 := by
  unfold removeL
  split
  · exact h.snoc ⟨.inr (.inl rfl), fun h => by cases h⟩
  · exact h
theorem OkOps.rename {l : List S109} {ops : List S123} (nm tn : ByteArray) (h : OkOps l ops) : OkOps l (renameL l ops nm tn).1 := by
  unfold renameL
  split
  · rename_i hq
    split
    · exact h.snoc ⟨.inr (.inr rfl), fun _ => hq⟩
    · exact h
  · exact h
theorem OkOps.append {l : List S109} {ops : List S123} (nm : ByteArray) (b : List Int) (h : OkOps l ops) : OkOps l (appendL ops nm b).1 := by
  unfold appendL
  split
  · exact h.snoc ⟨.inl rfl, fun h => by cases h⟩
  · exact h
theorem drem_rem {l : List S109} {ops : List S123} (nm : ByteArray) (hs : Srt l) (h : OkOps l ops) : dremL l ops nm = removeL l ops nm := by
  unfold dremL removeL
  rw [dview_view hs h]
theorem dren_ren {l : List S109} {ops : List S123} (nm tn : ByteArray) (hs : Srt l) (h : OkOps l ops) : drenL l ops nm tn = renameL l ops nm tn := by
  unfold drenL renameL
  rw [dview_view hs h]
/-- What the disk has behind a crash. -/
def dcrashL (l : List S109) (ops : List S123) (keep torn : Int) : List S109 :=
  dviewL l (if h : keepN keep ops.length < ops.length then
    (if 0 < torn ∧ (ops[keepN keep ops.length]'h).f0 = 0 then ops.take (keepN keep ops.length) ++ [tornL (ops[keepN keep ops.length]'h) torn] else ops.take (keepN keep ops.length))
  else ops.take (keepN keep ops.length))
theorem dcrash_crash {l : List S109} {ops : List S123} (keep torn : Int) (hs : Srt l) (h : OkOps l ops) : dcrashL l ops keep torn = crashL l ops keep torn := by
  unfold dcrashL crashL
  split
  · rename_i hk
    split
    · rename_i hq
      have hk2 : (tornL (ops[keepN keep ops.length]'hk) torn).f0 = 0 := hq.2
      rw [dview_view hs ((h.take (keepN keep ops.length)).snoc (o := tornL (ops[keepN keep ops.length]'hk) torn) ⟨.inl hk2, fun e => by rw [hk2] at e; cases e⟩)]
      unfold viewL
      rw [List.foldl_append]
      rfl
    · exact dview_view hs (h.take _)
  · exact dview_view hs (h.take _)
theorem load_srt (l : List S109) : Srt (loadL l) := by
  have : ∀ (r : List S109) (acc : List S109), Srt acc → Srt (r.foldl withL acc) := by
    intro r
    induction r with
    | nil => intro acc h; exact h
    | cons f r ih => intro acc h; exact ih _ (with_srt f h)
  exact this l [] List.Pairwise.nil
end Go.Proofs.Ytfaniohoplbdoaa.My
/- An operation appended to operations that have no room; what bounds a disk's facts. -/
namespace Go.Proofs.Ytfaniohoplbdoaa.My
open Go Go.RowKit Go.Proofs.YtfaniohoplbdoaaW.PrintWords Go.Proofs.YtfaniohoplbdoaaW.PrintLast Go.Proofs.YtfaniohoplbdoaaW.PrintMore Go.Proofs.Ytfaniohoplbdoaa.PDiskActs
set_option linter.unusedVariables false
set_option linter.unusedSimpArgs false
/-- 'append(v[:n:n], o)'. -/
theorem run_append_clipO {ok okx okp : Nat → Prop} (w : World) (ty : TypeId) (A : Option Addr) (xs : List S123) (p : S123) (cs : Array Value) (g : Nat) (hfresh : ∀ k, w.heap.size ≤ k → ok k) (hx : Kd.F k123 w okx A xs.length xs) (hp : Kd.FK k123 w okp p cs.toList)
    (hxo : ∀ k, okx k → ok k) (hpo : ∀ k, okp k → ok k) (hb : w.heap[g]? = some (.cells cs 121 (0, 0))) (hl : xs.length + 1 ≤ 2199023255552) :
    ∃ v' w', (Builtin.append_ #[111, 111] ty #[.slice A xs.length xs.length, .slice (some ⟨g, 0, none⟩) 1 1]).run Try.prog w = .ok v' w' ∧ VO w' ok v' (xs ++ [p]) ∧ w.grownBy w' none := by
  obtain ⟨i0, hi0, hz, hsz, hby⟩ := info_parts info121
  have hcl : cs.toList.length = 4 := k123.K_len (Kd.FK_now hp)
  have hcl' : cs.toList.length = 1 * 4 := hcl
  have hpc : ∀ j u, cs.toList[j]? = some u → w.cell? (Addr.add ⟨g, 0, none⟩ j) = some u := by
    intro j u hu
    rw [show Addr.add ⟨g, 0, none⟩ j = ⟨g, j, none⟩ from by simp [Addr.add, eq_comm], blk_cell hb j]
    rw [← hu]
    simp
  have fin : ∀ (inner : List Value) v' w', Reps (fun x c => Kd.FK k123 w okx x c) 4 xs inner → w'.ownsRow w.heap.size 121 4 v' (xs.length + 1) (inner ++ cs.toList) → w.grownBy w' none → VO w' ok v' (xs ++ [p]) := by
    intro inner v' w' hr ho hg
    have hr2 : Reps (fun x c => Kd.FK k123 w (fun k => okx k ∨ okp k) x c) 4 (xs ++ [p]) (inner ++ cs.toList) := Reps.snoc (hr.imp_ fun _ _ h => Kd.FK_mono h (fun _ hk => .inl hk)) (Kd.FK_mono hp (fun _ hk => .inr hk)) hcl
    have hr3 := Kd.reps_raw (sz := k123.sz) hr2 (fun x c h => ⟨k123.K_len (Kd.FK_now h), k123.K_one (Kd.FK_now h)⟩)
    have hR : (Kd.raw k123.sz).R 121 w' w.heap.size (fun _ => True) v' (Kd.chunks k123.sz (xs ++ [p]).length (inner ++ cs.toList)) := ⟨fun _ _ => trivial, inner ++ cs.toList, by rw [Kd.chunks_length, List.length_append, List.length_singleton]; exact ho, hr3⟩
    have hN : Kd.N k123 121 w' w.heap.size ok v' ([] ++ (xs ++ [p])) := Kd.N_appended (d := k123) (W := w) (v := .slice none 0 0) (xs := ([] : List S123)) (rows := []) (news := Kd.chunks k123.sz (xs ++ [p]).length (inner ++ cs.toList)) (okp := fun k => okx k ∨ okp k) (by simp [Value.ownBlock]) rfl (fun j x c h => by simp at h)
      (by rw [Kd.chunks_length]) (fun j x c hx hc => by rw [Kd.chunks_get hc]; exact hr2.2 j x hx) (fun k hk => ⟨hk.elim (hxo k) (hpo k), by simp [Value.ownBlock]⟩) hfresh (by rw [List.nil_append]; exact hR) hg (Kd.R_base2 hR)
    exact (show Kd.V k123 121 w' 0 ok v' (xs ++ [p]) from Kd.N_V hN)
  rcases Nat.eq_zero_or_pos xs.length with h0 | hp0
  · have e : xs = [] := List.eq_nil_of_length_eq_zero h0
    subst e
    cases A with
    | none =>
      obtain ⟨v', w', hr, ho, hg, _⟩ := run_append_own (P := Try.prog) w w.heap.size 111 ty 121 i0 _ 4 64 Try.underlying111 hi0 hz hsz hby rfl (by decide) (.slice none 0 0) 0 [] (World.ownsRow_nil w _ 121 4) ⟨g, 0, none⟩ 1 1 cs.toList hcl' hpc (k123.K_one (Kd.FK_now hp)) (by unfold maxLen; omega) (by omega) (Nat.le_refl _)
      exact ⟨v', w', hr, fin [] v' w' (Reps.none _ _) ho hg, hg⟩
    | some ad =>
      obtain ⟨v', w', hr, ho, hg⟩ := run_append_arg_grows (P := Try.prog) w 111 ty 121 i0 _ 4 64 Try.underlying111 hi0 hz hsz hby rfl (by decide) ad 0 0 [] rfl (fun j u hj => by simp at hj) ⟨g, 0, none⟩ 1 1 cs.toList hcl' hpc (by omega) (by unfold maxLen; omega) (by omega)
      exact ⟨v', w', hr, fin [] v' w' (Reps.none _ _) ho hg, hg⟩
  · have hRows := Kd.F_rows hx
    obtain ⟨ad, rfl, _⟩ := hRows.2.2 hp0
    obtain ⟨inner, hri, hci⟩ := hRows.inner_
    obtain ⟨v', w', hr, ho, hg⟩ := run_append_arg_grows (P := Try.prog) w 111 ty 121 i0 _ 4 64 Try.underlying111 hi0 hz hsz hby rfl (by decide) ad xs.length xs.length inner hri.1 hci ⟨g, 0, none⟩ 1 1 cs.toList hcl' hpc (by omega) (by unfold maxLen; omega) (by omega)
    exact ⟨v', w', hr, fin inner v' w' hri ho hg, hg⟩
theorem MP.bound {w : World} {ok : Nat → Prop} {b n : Nat} {l : List S109} (h : MP w ok b n l) : MP w (fun k => ok k ∧ k < w.heap.size) b n l := by
  obtain ⟨D, ho, hm⟩ := h
  exact ⟨D, ho, hm.imp fun v bs hv => Kd.V_bound hv⟩
theorem MP.step {w w' : World} {ok : Nat → Prop} {b n : Nat} {l : List S109} (h : MP w ok b n l) (hb : w'.heap[b]? = w.heap[b]?) (hm : ∀ k, ok k → k < w.heap.size → w'.heap[k]? = w.heap[k]?) : MP w' ok b n l := by
  obtain ⟨D, ⟨es, clock, h1, h2⟩, hi⟩ := h
  exact ⟨D, ⟨es, clock, hb.trans h1, h2⟩, hi.imp fun v bs hv => Kd.V_step hv hm⟩
/-- Facts about a disk are about blocks that are there; what else may be allowed or not. -/
theorem DiskAt.okto {w : World} {ok ok' : Nat → Prop} {g b n : Nat} {l : List S109} {A : Option Addr} {c : Nat} {ops : List S123} (h : DiskAt w ok g b n l A c ops) (hi : ∀ k, ok k → k < w.heap.size → ok' k) (hg : ∀ k, ok' k → k ≠ g) (hb : ∀ k, ok' k → k ≠ b) : DiskAt w ok' g b n l A c ops :=
  ⟨h.blk, h.mapN.bound.okmono (fun k hk => ⟨hi k hk.1.1 hk.2, hk.1.2⟩), Kd.N_mono (Kd.N_bound h.pendN) (fun k hk => hi k hk.1 hk.2), hg, hb, h.names⟩
/-- What is written elsewhere. -/
theorem DiskAt.step {w w' : World} {ok : Nat → Prop} {g b n : Nat} {l : List S109} {A : Option Addr} {c : Nat} {ops : List S123} (h : DiskAt w ok g b n l A c ops) (hm : ∀ k, (ok k ∨ k = g ∨ k = b) → k < w.heap.size → w'.heap[k]? = w.heap[k]?) : DiskAt w' ok g b n l A c ops :=
  ⟨(hm g (.inr (.inl rfl)) (blk_lt h.blk)).trans h.blk, h.mapN.step (hm b (.inr (.inr rfl)) h.mapN.lt) (fun k hk hl => hm k (.inl hk.1) hl), Kd.N_step h.pendN (fun k hk hl => hm k (.inl hk) hl), h.offg, h.offb, h.names⟩
theorem DiskAt.take {w : World} {ok : Nat → Prop} {g b n : Nat} {l : List S109} {A : Option Addr} {c : Nat} {ops : List S123} (h : DiskAt w ok g b n l A c ops) (k : Nat) (hk : k ≤ ops.length) :
    DiskAt (w.setCell ⟨g, 1, none⟩ (.slice A (ops.take k).length c)) ok g b n l A c (ops.take k) := by
  have hlen : (ops.take k).length = k := by rw [List.length_take]; omega
  have ho : (Value.slice A (ops.take k).length c).ownBlock = (Value.slice A ops.length c).ownBlock := by cases A <;> rfl
  have hgo : some g ≠ (Value.slice A ops.length c).ownBlock := fun he => h.offg g (h.pendN.1 g he.symm) rfl
  refine ⟨blk_put (cs := #[.map (some b), .slice A ops.length c]) h.blk 1 _ rfl, ?_, ?_, h.offg, h.offb, fun o ho => h.names o (List.mem_of_mem_take ho)⟩
  · rw [ho]
    exact h.mapN.far (p := ⟨g, 1, none⟩) h.ne (fun k hk => h.offg k hk.1) _
  · have := Kd.N_take h.pendN hk
    rw [← hlen] at this
    exact Kd.N_far (by rw [hlen] at this ⊢; exact this) (p := ⟨g, 1, none⟩) h.offg _
end Go.Proofs.Ytfaniohoplbdoaa.My
/- A disk, and the reference's, each with the blocks that it lives in. -/
namespace Go.Proofs.Ytfaniohoplbdoaa.My
open Go Go.RowKit Go.Proofs.YtfaniohoplbdoaaW.PrintWords Go.Proofs.YtfaniohoplbdoaaW.PrintLast Go.Proofs.YtfaniohoplbdoaaW.PrintMore Go.Proofs.Ytfaniohoplbdoaa.PDiskActs
set_option linter.unusedVariables false
set_option linter.unusedSimpArgs false
/-- Of the blocks that were there, only some of S were written. -/
def Wr (w w' : World) (S : Nat → Prop) : Prop := w'.os = w.os ∧ w'.tape = w.tape ∧ w'.output = w.output ∧ w.heap.size ≤ w'.heap.size ∧ ∀ k, k < w.heap.size → ¬ S k → w'.heap[k]? = w.heap[k]?
def ext (S : Nat → Prop) (w w' : World) : Nat → Prop := fun k => (S k ∨ w.heap.size ≤ k) ∧ k < w'.heap.size
theorem Wr.of_below {w w' : World} (S : Nat → Prop) (h : Below w.heap.size w w') : Wr w w' S := ⟨h.os, h.tape, h.output, h.size, fun k hk _ => h.block k hk⟩
theorem Wr.refl (w : World) (S : Nat → Prop) : Wr w w S := ⟨rfl, rfl, rfl, Nat.le_refl _, fun _ _ _ => rfl⟩
theorem Wr.trans {w w1 w2 : World} {S S1 : Nat → Prop} (h1 : Wr w w1 S) (h2 : Wr w1 w2 S1) (hs : ∀ k, S1 k → S k ∨ w.heap.size ≤ k) : Wr w w2 S :=
  ⟨h2.1.trans h1.1, h2.2.1.trans h1.2.1, h2.2.2.1.trans h1.2.2.1, Nat.le_trans h1.2.2.2.1 h2.2.2.2.1, fun k hk hn => (h2.2.2.2.2 k (Nat.lt_of_lt_of_le hk h1.2.2.2.1) (fun h => by rcases hs k h with h | h; exact hn h; omega)).trans (h1.2.2.2.2 k hk hn)⟩
theorem Wr.below {w w' : World} {S : Nat → Prop} {base : Nat} (h : Wr w w' S) (hb : base ≤ w.heap.size) (hs : ∀ k, S k → base ≤ k) : Below base w w' :=
  ⟨h.1, h.2.1, h.2.2.1, h.2.2.2.1, fun k hk => h.2.2.2.2 k (Nat.lt_of_lt_of_le hk hb) (fun h => by have := hs k h; omega)⟩
theorem Wr.size {w w' : World} {S : Nat → Prop} (h : Wr w w' S) : w.heap.size ≤ w'.heap.size := h.2.2.2.1
/-- The sizes of what the statements go through, and more. -/
def Sz (l : List S109) (ops : List S123) (n : Nat) : Prop := n + ops.length ≤ 1000000 ∧ l.length + ops.length ≤ 1000000 ∧ byF l + byO ops ≤ 1000000000
/-- The disk at g lives in S. -/
def DSt (w : World) (S : Nat → Prop) (g : Nat) (l : List S109) (ops : List S123) (n : Nat) : Prop :=
  ∃ (ok : Nat → Prop) (b : Nat) (A : Option Addr) (c : Nat), DiskAt w ok g b n l A c ops ∧ (∀ k, w.heap.size ≤ k → ok k) ∧ S g ∧ S b ∧ (∀ k, ok k → k < w.heap.size → S k) ∧ (∀ k, S k → k < w.heap.size) ∧ OkOps l ops
/-- The reference's disk (u, v) lives in T. -/
def XSt (w : World) (T : Nat → Prop) (u v : Value) (l : List S109) (ops : List S123) : Prop :=
  ∃ ok : Nat → Prop, VF w ok u l ∧ VO w ok v ops ∧ (∀ k, w.heap.size ≤ k → ok k) ∧ (∀ k, ok k → k < w.heap.size → T k) ∧ (∀ k, T k → k < w.heap.size)
theorem DSt.srt {w : World} {S : Nat → Prop} {g n : Nat} {l : List S109} {ops : List S123} (h : DSt w S g l ops n) : Srt l := by
  obtain ⟨ok, b, A, c, hD, _⟩ := h
  exact hD.map.sorted
theorem DSt.okops {w : World} {S : Nat → Prop} {g n : Nat} {l : List S109} {ops : List S123} (h : DSt w S g l ops n) : OkOps l ops := by
  obtain ⟨ok, b, A, c, hD, _, _, _, _, _, h⟩ := h
  exact h
theorem DSt.lt {w : World} {S : Nat → Prop} {g n : Nat} {l : List S109} {ops : List S123} (h : DSt w S g l ops n) : ∀ k, S k → k < w.heap.size := by
  obtain ⟨ok, b, A, c, hD, _, _, _, _, h, _⟩ := h
  exact h
theorem XSt.lt {w : World} {T : Nat → Prop} {u v : Value} {l : List S109} {ops : List S123} (h : XSt w T u v l ops) : ∀ k, T k → k < w.heap.size := by
  obtain ⟨ok, _, _, _, _, h⟩ := h
  exact h
theorem DSt.keep {w w' : World} {S : Nat → Prop} {g n : Nat} {l : List S109} {ops : List S123} (h : DSt w S g l ops n) (hs : w.heap.size ≤ w'.heap.size) (hm : ∀ k, k < w.heap.size → S k → w'.heap[k]? = w.heap[k]?) : DSt w' S g l ops n := by
  obtain ⟨ok, b, A, c, hD, hf, hg, hb, hok, hlt, ho⟩ := h
  have hgl := hlt g hg
  have hbl := hlt b hb
  refine ⟨fun k => (ok k ∧ k < w.heap.size) ∨ w'.heap.size ≤ k, b, A, c, ?_, fun k hk => .inr hk, hg, hb, fun k hk hl => ?_, fun k hk => Nat.lt_of_lt_of_le (hlt k hk) hs, ho⟩
  · refine (hD.okto (ok' := fun k => (ok k ∧ k < w.heap.size) ∨ w'.heap.size ≤ k) (fun k hk hl => .inl ⟨hk, hl⟩) (fun k hk => ?_) (fun k hk => ?_)).step (fun k hk hl => hm k hl ?_)
    · rcases hk with hk | hk
      · exact hD.offg k hk.1
      · omega
    · rcases hk with hk | hk
      · exact hD.offb k hk.1
      · omega
    · rcases hk with (hk | hk) | hk | hk
      · exact hok k hk.1 hk.2
      · omega
      · rw [hk]; exact hg
      · rw [hk]; exact hb
  · rcases hk with hk | hk
    · exact hok k hk.1 hk.2
    · omega
theorem DSt.move {w w' : World} {S : Nat → Prop} {g n : Nat} {l : List S109} {ops : List S123} (h : DSt w S g l ops n) (hb : Below w.heap.size w w') : DSt w' S g l ops n := h.keep hb.size (fun k hk _ => hb.block k hk)
theorem DSt.off {w w' : World} {S T : Nat → Prop} {g n : Nat} {l : List S109} {ops : List S123} (h : DSt w S g l ops n) (hb : Wr w w' T) (hd : ∀ k, S k → ¬ T k) : DSt w' S g l ops n := h.keep hb.size (fun k hk hs => hb.2.2.2.2 k hk (hd k hs))
theorem XSt.keep {w w' : World} {T : Nat → Prop} {u v : Value} {l : List S109} {ops : List S123} (h : XSt w T u v l ops) (hs : w.heap.size ≤ w'.heap.size) (hm : ∀ k, k < w.heap.size → T k → w'.heap[k]? = w.heap[k]?) : XSt w' T u v l ops := by
  obtain ⟨ok, hu, hv, hf, hok, hlt⟩ := h
  refine ⟨fun k => (ok k ∧ k < w.heap.size) ∨ w'.heap.size ≤ k, ?_, ?_, fun k hk => .inr hk, fun k hk hl => ?_, fun k hk => Nat.lt_of_lt_of_le (hlt k hk) hs⟩
  · exact Kd.V_mono (Kd.V_step (Kd.V_bound hu) (fun k hk hl => hm k hl (hok k hk.1 hk.2))) (fun k hk => .inl hk)
  · exact Kd.V_mono (Kd.V_step (Kd.V_bound hv) (fun k hk hl => hm k hl (hok k hk.1 hk.2))) (fun k hk => .inl hk)
  · rcases hk with hk | hk
    · exact hok k hk.1 hk.2
    · omega
theorem XSt.move {w w' : World} {T : Nat → Prop} {u v : Value} {l : List S109} {ops : List S123} (h : XSt w T u v l ops) (hb : Below w.heap.size w w') : XSt w' T u v l ops := h.keep hb.size (fun k hk _ => hb.block k hk)
theorem XSt.off {w w' : World} {S T : Nat → Prop} {u v : Value} {l : List S109} {ops : List S123} (h : XSt w T u v l ops) (hb : Wr w w' S) (hd : ∀ k, T k → ¬ S k) : XSt w' T u v l ops := h.keep hb.size (fun k hk hs => hb.2.2.2.2 k hk (hd k hs))
theorem XSt.slices {w : World} {T : Nat → Prop} {u v : Value} {l : List S109} {ops : List S123} (h : XSt w T u v l ops) : ∃ A c A' c', u = .slice A l.length c ∧ v = .slice A' ops.length c' := by
  obtain ⟨ok, hu, hv, _⟩ := h
  obtain ⟨A, c, rfl⟩ := Kd.V_slice hu
  obtain ⟨A', c', rfl⟩ := Kd.V_slice hv
  exact ⟨A, c, A', c', rfl, rfl⟩
theorem ext_lt {S : Nat → Prop} {w w' : World} : ∀ k, ext S w w' k → k < w'.heap.size := fun _ h => h.2
theorem ext_old {S : Nat → Prop} {w w' : World} : ∀ k, ext S w w' k → S k ∨ w.heap.size ≤ k := fun _ h => h.1
/-! ### the disk's operations -/
abbrev DPost (w : World) (S : Nat → Prop) (g : Nat) (l : List S109) (ops : List S123) (n : Nat) (r : Value) : Ending → World → Prop := fun e w' => e = .returned r ∧ DSt w' (ext S w w') g l ops n ∧ Wr w w' S
theorem DSt.of_push {w w' : World} {ok : Nat → Prop} {S : Nat → Prop} {g b n : Nat} {l : List S109} {A : Option Addr} {c : Nat} {ops ops' : List S123} {r : Int} {e : Ending} (hD : DiskAt w ok g b n l A c ops) (hf : ∀ k, w.heap.size ≤ k → ok k) (hg : S g) (hb : S b) (hok : ∀ k, ok k → k < w.heap.size → S k) (hlt : ∀ k, S k → k < w.heap.size)
    (hp : PushPost w ok g b n l A c ops ops' r e w') (ho : OkOps l ops') : DPost w S g l ops' n (.int .i64 r) e w' := by
  obtain ⟨rfl, A', c', hD', hk, hr⟩ := hp
  have hs := hk.2.2.2.1
  refine ⟨rfl, ⟨ok, b, A', c', hD', fun k hk => hf k (Nat.le_trans hs hk), ⟨.inl hg, Nat.lt_of_lt_of_le (hlt g hg) hs⟩, ⟨.inl hb, Nat.lt_of_lt_of_le (hlt b hb) hs⟩, fun k hk hl => ⟨?_, hl⟩, ext_lt, ho⟩, hk.1, hk.2.1, hk.2.2.1, hs, fun k hl hn => hk.2.2.2.2 k hl (fun e => hn (e ▸ hg)) (fun e => hn (hok k (hD.pendN.1 k e.symm) hl))⟩
  by_cases h : k < w.heap.size
  · exact .inl (hok k hk h)
  · exact .inr (by omega)
theorem sAppend (w : World) (S : Nat → Prop) (g n : Nat) (l : List S109) (ops : List S123) (nm : ByteArray) (B : Option Addr) (d : Nat) (y : List Int) (h : DSt w S g l ops n) (hz : Sz l ops n) (hC : CB w B y) (hyl : y.length ≤ 140737488351232) (hm : nm.size ≤ maxLen) :
    Calls Try.prog 57 #[.pointer (some ⟨g, 0, none⟩), .string nm, .slice B y.length d] w (DPost w S g l (appendL ops nm y).1 n (.int .i64 (appendL ops nm y).2)) := by
  obtain ⟨ok, b, A, c, hD, hf, hg, hb, hok, hlt, ho⟩ := h
  obtain ⟨z1, z2, z3⟩ := hz
  exact (dappend_calls ok g b n l A c ops nm B d y w hf hD hC hyl hm (by omega)).mono fun e w' h => DSt.of_push hD hf hg hb hok hlt h (ho.append nm y)
theorem sRemove (w : World) (S : Nat → Prop) (g n : Nat) (l : List S109) (ops : List S123) (nm : ByteArray) (h : DSt w S g l ops n) (hz : Sz l ops n) (hm : nm.size ≤ maxLen) :
    Calls Try.prog 58 #[.pointer (some ⟨g, 0, none⟩), .string nm] w (DPost w S g l (removeL l ops nm).1 n (.int .i64 (removeL l ops nm).2)) := by
  have hs := h.srt
  obtain ⟨ok, b, A, c, hD, hf, hg, hb, hok, hlt, ho⟩ := h
  obtain ⟨z1, z2, z3⟩ := hz
  rw [← drem_rem nm hs ho]
  exact (dremove_calls ok g b n l A c ops nm w hf hD (by unfold maxLen; omega) (by omega) hm (by omega)).mono fun e w' h => DSt.of_push hD hf hg hb hok hlt h (by rw [drem_rem nm hs ho]; exact ho.remove nm)
theorem sRename (w : World) (S : Nat → Prop) (g n : Nat) (l : List S109) (ops : List S123) (nm tn : ByteArray) (h : DSt w S g l ops n) (hz : Sz l ops n) (hm : nm.size ≤ maxLen) (hm2 : tn.size ≤ maxLen) :
    Calls Try.prog 59 #[.pointer (some ⟨g, 0, none⟩), .string nm, .string tn] w (DPost w S g l (renameL l ops nm tn).1 n (.int .i64 (renameL l ops nm tn).2)) := by
  have hs := h.srt
  obtain ⟨ok, b, A, c, hD, hf, hg, hb, hok, hlt, ho⟩ := h
  obtain ⟨z1, z2, z3⟩ := hz
  rw [← dren_ren nm tn hs ho]
  exact (drename_calls ok g b n l A c ops nm tn w hf hD (by unfold maxLen; omega) (by omega) hm hm2 (by omega)).mono fun e w' h => DSt.of_push hD hf hg hb hok hlt h (by rw [dren_ren nm tn hs ho]; exact ho.rename nm tn)
theorem DSt.of_sync {w w' : World} {ok : Nat → Prop} {S : Nat → Prop} {g b m : Nat} {l' : List S109} (hf : ∀ k, w.heap.size ≤ k → ok k) (hg : S g) (hok : ∀ k, ok k → k < w.heap.size → S k) (hlt : ∀ k, S k → k < w.heap.size) (hbb : w.heap.size ≤ b) (hbl : b < w'.heap.size) (ok' : Nat → Prop) (hok' : ∀ k, ok' k → ok k) (hf' : ∀ k, w'.heap.size ≤ k → ok' k)
    (hD : DiskAt w' ok' g b m l' none 0 []) (hw : w.grownBy w' (some g)) : DSt w' (ext S w w') g l' [] m ∧ Wr w w' S := by
  refine ⟨⟨ok', b, none, 0, hD, hf', ⟨.inl hg, Nat.lt_of_lt_of_le (hlt g hg) hw.size⟩, ⟨.inr hbb, hbl⟩, fun k hk hl => ⟨?_, hl⟩, ext_lt, trivial⟩, hw.os, hw.tape, hw.output, hw.size, fun k hk hn => hw.block k hk (fun e => hn (by injection e with e; rw [e]; exact hg))⟩
  by_cases h : k < w.heap.size
  · exact .inl (hok k (hok' k hk) h)
  · exact .inr (by omega)
theorem sSync (w : World) (S : Nat → Prop) (g n : Nat) (l : List S109) (ops : List S123) (h : DSt w S g l ops n) (hz : Sz l ops n) :
    Calls Try.prog 55 #[.pointer (some ⟨g, 0, none⟩)] w (DPost w S g (viewL l ops) [] (n + ops.length) (.tuple #[])) := by
  have hs := h.srt
  obtain ⟨ok, b, A, c, hD, hf, hg, hb, hok, hlt, ho⟩ := h
  obtain ⟨z1, z2, z3⟩ := hz
  rw [← dview_view hs ho]
  refine (dsync_calls ok g b n l A c ops w hf hD (by unfold maxLen; omega) (by omega)).mono fun e w' ⟨he, hD', hw⟩ => ?_
  have hlt' := hD'.mapN.lt
  have := DSt.of_sync hf hg hok hlt (Nat.le_refl _) hlt' _ (fun k hk => hk.1) (fun k hk => ⟨hf k (Nat.le_trans hw.size hk), by omega⟩) hD' hw
  exact ⟨he, this.1, this.2⟩
theorem dview_length {l : List S109} {ops : List S123} (hs : Srt l) (ho : OkOps l ops) : (dviewL l ops).length ≤ l.length + ops.length := by rw [dview_view hs ho]; exact viewL_length ops l
/-- What is read of a disk: nothing is written. -/
abbrev SPost (w : World) (l : List S109) : Ending → World → Prop := fun e w' => (∃ A c, e = .returned (.slice A l.length c) ∧ l.length ≤ c ∧ CF w' A l) ∧ Below w.heap.size w w'
theorem SPost.of_view {w w' : World} {ok : Nat → Prop} {l : List S109} {e : Ending} (h : ViewPost w ok l e w') : SPost w l e w' := by
  obtain ⟨⟨v, rfl, hv⟩, hB⟩ := h
  obtain ⟨A, c, rfl⟩ := Kd.V_slice hv
  exact ⟨⟨A, c, rfl, (Kd.V_reads' hv).2.1, (Kd.V_reads' hv).2.2⟩, hB⟩
/-- .. and what is given is new. -/
abbrev FPost (w : World) (l : List S109) : Ending → World → Prop := fun e w' => (∃ A c, e = .returned (.slice A l.length c) ∧ l.length ≤ c ∧ Kd.F k109 w' (fun k => w.heap.size ≤ k) A l.length l) ∧ Below w.heap.size w w'
theorem FPost.of_view {w w' : World} {l : List S109} {e : Ending} (h : ViewPost w (fun k => w.heap.size ≤ k) l e w') : FPost w l e w' := by
  obtain ⟨⟨v, rfl, hv⟩, hB⟩ := h
  obtain ⟨A, c, rfl⟩ := Kd.V_slice hv
  exact ⟨⟨A, c, rfl, (Kd.V_reads' hv).2.1, Kd.V_F hv⟩, hB⟩
theorem FPost.S {w w' : World} {l : List S109} {e : Ending} (h : FPost w l e w') : SPost w l e w' := by
  obtain ⟨⟨A, c, he, hl, hF⟩, hB⟩ := h
  exact ⟨⟨A, c, he, hl, Kd.F_now hF⟩, hB⟩
theorem sFilesF (w : World) (S : Nat → Prop) (g n : Nat) (l : List S109) (ops : List S123) (h : DSt w S g l ops n) (hz : Sz l ops n) :
    Calls Try.prog 60 #[.pointer (some ⟨g, 0, none⟩)] w (FPost w l) := by
  obtain ⟨ok, b, A, c, hD, hf, hg, hb, hok, hlt, ho⟩ := h
  obtain ⟨z1, z2, z3⟩ := hz
  exact (files_calls ok (fun k => w.heap.size ≤ k) g b n l A c ops w (fun _ hk => hk) hD (by omega) (by omega)).mono fun e w' h => FPost.of_view h
theorem sFiles (w : World) (S : Nat → Prop) (g n : Nat) (l : List S109) (ops : List S123) (h : DSt w S g l ops n) (hz : Sz l ops n) :
    Calls Try.prog 60 #[.pointer (some ⟨g, 0, none⟩)] w (SPost w l) := (sFilesF w S g n l ops h hz).mono fun _ _ h => h.S
theorem sViewF (w : World) (S : Nat → Prop) (g n : Nat) (l : List S109) (ops : List S123) (h : DSt w S g l ops n) (hz : Sz l ops n) :
    Calls Try.prog 61 #[.pointer (some ⟨g, 0, none⟩)] w (FPost w (viewL l ops)) := by
  have hs := h.srt
  obtain ⟨ok, b, A, c, hD, hf, hg, hb, hok, hlt, ho⟩ := h
  obtain ⟨z1, z2, z3⟩ := hz
  have := dview_length hs ho
  rw [← dview_view hs ho]
  exact (dviewF_calls ok (fun k => w.heap.size ≤ k) g b n l A c ops w hf (fun _ hk => hk) hD (by unfold maxLen; omega) (by omega) (by omega)).mono fun e w' h => FPost.of_view h
theorem sView (w : World) (S : Nat → Prop) (g n : Nat) (l : List S109) (ops : List S123) (h : DSt w S g l ops n) (hz : Sz l ops n) :
    Calls Try.prog 61 #[.pointer (some ⟨g, 0, none⟩)] w (SPost w (viewL l ops)) := (sViewF w S g n l ops h hz).mono fun _ _ h => h.S
theorem sRead (w : World) (S : Nat → Prop) (g n : Nat) (l : List S109) (ops : List S123) (nm : ByteArray) (h : DSt w S g l ops n) (hz : Sz l ops n) (hm : nm.size ≤ maxLen) :
    Calls Try.prog 56 #[.pointer (some ⟨g, 0, none⟩), .string nm] w (ReadPost w (findL (viewL l ops) nm)) := by
  have hs := h.srt
  obtain ⟨ok, b, A, c, hD, hf, hg, hb, hok, hlt, ho⟩ := h
  obtain ⟨z1, z2, z3⟩ := hz
  rw [← dview_view hs ho]
  exact dread_calls ok g b n l A c ops nm w hf hD (by unfold maxLen; omega) (by omega) hm
theorem sPending (w : World) (S : Nat → Prop) (g n : Nat) (l : List S109) (ops : List S123) (h : DSt w S g l ops n) :
    Calls Try.prog 54 #[.pointer (some ⟨g, 0, none⟩)] w fun e w' => e = .returned (.int .i64 (ops.length : Int)) ∧ w' = w := by
  obtain ⟨ok, b, A, c, hD, hf, hg, hb, hok, hlt, ho⟩ := h
  exact pending_calls ok g b n l A c ops w hD
theorem sNew (w : World) : Calls Try.prog 53 #[] w fun e w' => ∃ g, e = .returned (.pointer (some ⟨g, 0, none⟩)) ∧ DSt w' (ext (fun _ => False) w w') g [] [] 0 ∧ Below w.heap.size w w' := by
  exact (new_calls (fun k => w.heap.size ≤ k) w).mono fun e w' ⟨he, hD, hB, hsz⟩ => ⟨_, he, ⟨_, _, none, 0, hD, fun k hk => ⟨by omega, by omega, by omega⟩, ⟨.inr (by omega), by omega⟩, ⟨.inr (by omega), by omega⟩, fun k hk hl => ⟨.inr hk.1, hl⟩, ext_lt, trivial⟩, hB⟩
end Go.Proofs.Ytfaniohoplbdoaa.My
/- disk.Load. -/
namespace Go.Proofs.Ytfaniohoplbdoaa.My
open Go Go.RowKit Go.Proofs.YtfaniohoplbdoaaW.PrintWords Go.Proofs.YtfaniohoplbdoaaW.PrintLast Go.Proofs.YtfaniohoplbdoaaW.PrintMore Go.Proofs.Ytfaniohoplbdoaa.PDiskActs
set_option linter.unusedVariables false
set_option linter.unusedSimpArgs false
theorem insL_any (p : S109 → Bool) (f : S109) : ∀ l, (insL f l).any p = (p f || l.any p)
  | [] => by simp [insL]
  | x :: r => by
    unfold insL
    split
    · simp
    · rw [List.any_cons, List.any_cons, insL_any p f r]
      cases p x <;> cases p f <;> simp
abbrev isN (nm : ByteArray) : S109 → Bool := fun x => x.f0.toList == nm.toList
theorem with_any (nm : ByteArray) (l : List S109) (f : S109) : (withL l f).any (isN nm) = (isN nm f || l.any (isN nm)) := by
  unfold withL
  rw [insL_any]
  cases hq : isN nm f with
  | true => simp
  | false =>
    simp only [Bool.false_or]
    have hne : f.f0.toList ≠ nm.toList := by simpa [isN] using hq
    rw [Bool.eq_iff_iff, List.any_eq_true, List.any_eq_true]
    constructor
    · rintro ⟨x, hx, h⟩
      exact ⟨x, (List.mem_filter.1 hx).1, h⟩
    · rintro ⟨x, hx, h⟩
      refine ⟨x, List.mem_filter.2 ⟨hx, ?_⟩, h⟩
      have : x.f0.toList = nm.toList := by simpa [isN] using h
      simp only [bne_iff_ne, ne_eq]
      intro e
      exact hne (e.symm.trans this)
theorem load_any (nm : ByteArray) (l : List S109) : (loadL l).any (isN nm) = l.any (isN nm) := by
  have : ∀ (r : List S109) (acc : List S109), (r.foldl withL acc).any (isN nm) = (acc.any (isN nm) || r.any (isN nm)) := by
    intro r
    induction r with
    | nil => intro acc; simp
    | cons f r ih =>
      intro acc
      rw [List.foldl_cons, ih, with_any, List.any_cons]
      cases isN nm f <;> cases acc.any (isN nm) <;> simp
  have h := this l []
  simpa [loadL] using h
theorem find_some (nm : ByteArray) : ∀ l : List S109, (findL l nm).isSome = l.any (isN nm)
  | [] => rfl
  | x :: r => by
    have ih := find_some nm r
    unfold findL at ih ⊢
    rw [List.find?_cons, List.any_cons]
    unfold isN at ih ⊢
    cases hq : (x.f0.toList == nm.toList) with
    | true => simp [hq]
    | false => simpa [hq] using ih
theorem load_find {l : List S109} {k : Nat} (nm : ByteArray) : (findL (loadL (l.take k)) nm).isSome = (l.take k).any (isN nm) := by rw [find_some, load_any]
theorem good_at {l : List S109} {k : Nat} {f : S109} (h1 : nameOk f.f0 = true) (h2 : (findL (loadL (l.take k)) f.f0).isSome = false) : GoodAt l k f := by
  rw [load_find] at h2
  refine ⟨h1, fun x hx => ?_⟩
  simpa [isN] using List.any_eq_false.1 h2 x hx
theorem not_good {l : List S109} {k : Nat} {f : S109} (h2 : (findL (loadL (l.take k)) f.f0).isSome = true) : ¬ GoodAt l k f := by
  rw [load_find] at h2
  intro h
  obtain ⟨x, hx, hq⟩ := List.any_eq_true.1 h2
  have := h.2 x hx
  rw [show (x.f0.toList == f.f0.toList) = true from hq] at this
  cases this
abbrev DLoad (w : World) (l : List S109) : Ending → World → Prop := fun e w' => Below w.heap.size w w' ∧ ((loadOk l = true ∧ ∃ g, e = .returned (.pointer (some ⟨g, 0, none⟩)) ∧ DSt w' (ext (fun _ => False) w w') g (loadL l) [] l.length) ∨ (loadOk l = false ∧ e = .returned (.pointer none)))
set_option maxHeartbeats 4000000 in
set_option maxRecDepth 100000 in
theorem dload_calls (A : Option Addr) (c : Nat) (l : List S109) (w : World) (hC : CF w A l) (hl : l.length ≤ 3518437208780) (hs : ∀ f ∈ l, f.f1.length ≤ 140737488351232) (hn : ∀ f ∈ l, f.f0.size ≤ maxLen) :
    Calls Try.prog 37 #[.slice A l.length c] w (DLoad w l) := by
  obtain ⟨ok, hok⟩ : ∃ ok : Nat → Prop, ok = fun k => w.heap.size ≤ k ∧ k ≠ w.heap.size ∧ k ≠ w.heap.size + 1 := ⟨_, rfl⟩
  have HK1 := Aside0.mk (show ∀ k, w.heap.size + 2 ≤ k → ok k by rw [hok]; exact fun k hk => ⟨by omega, by omega, by omega⟩)
  have HK2 := Aside0.mk (show ∀ k, ok k → w.heap.size ≤ k ∧ k ≠ w.heap.size ∧ k ≠ w.heap.size + 1 by rw [hok]; exact fun k hk => hk)
  have HNw := Aside0.mk (new_calls (fun k => w.heap.size ≤ k) w)
  rw [← hok] at HNw
  have HC := Aside0.mk (fun (W : World) (hB : Below w.heap.size w W) => Kd.C_below hC hB)
  have HS := Aside0.mk hs
  have HN := Aside0.mk hn
  have hu113 := Try.underlying113
  have hu109 := Try.underlying109
  clear hok hC hs hn
  go_enter Try.func37, Try.ntmps37
  go_wp2_with (first | (go_at_call 53; with_reducible refine HNw.out.mono ?_; rintro e w1 ⟨rfl, hD1, hB1, hsz1⟩; have HD1 := Aside0.mk hD1; have HB1 := Aside0.mk hB1; have HSZ1 := Aside0.mk hsz1; clear hD1 hB1 hsz1 HNw) | fail)
  go_loopw [11] (fun i wr => ∃ k : Nat, k ≤ l.length ∧ i = .int .i64 k ∧ Aside0 (Good l k) ∧ Aside0 (DiskAt wr ok (w.heap.size + 1) w.heap.size k (loadL (l.take k)) none 0 []) ∧ Aside0 (Below w.heap.size w wr) ∧ Aside0 (w.heap.size + 2 ≤ wr.heap.size)) (fun i _ => l.length - (intOf i).toNat)
  case atStart => exact ⟨0, by omega, rfl, ⟨fun i f hi => by omega⟩, HD1, HB1, ⟨by have := HSZ1.out; omega⟩⟩
  case round =>
    obtain ⟨k, hk, rfl, HG, HD, HW, HS2⟩ := hrel
    by_cases hlt : k < l.length
    · obtain ⟨ad, B, d, rfl, hc0, hc1, hd, hCB⟩ := CF.at_ (HC.out _ HW.out) k hlt
      have HCB := Aside0.mk hCB
      have HST := Aside0.mk (loadL_take_succ hlt)
      have hsz := HS.out l[k] (List.getElem_mem hlt)
      have hnz := HN.out l[k] (List.getElem_mem hlt)
      have hget : l[k]? = some l[k] := List.getElem?_eq_getElem hlt
      obtain ⟨f, hf⟩ : ∃ f, f = l[k] := ⟨_, rfl⟩
      rw [← hf] at hc0 hc1 hd HCB HST hsz hnz hget
      have HGet := Aside0.mk hget
      clear hf hCB hget
      have HNa := Aside0.mk (fun w => word_calls f.f0 w (by unfold maxLen at hnz; omega))
      obtain ⟨wx, hwx⟩ : ∃ wx, wx = wr.alloc (.cells (fileC f B d) 109) := ⟨_, rfl⟩
      have hBx : Below wr.heap.size wr wx := by rw [hwx]; exact below_alloc (Below.refl _ _) _
      have hxs : wx.heap.size = wr.heap.size + 1 := by rw [hwx, alloc_size]
      have hbf : wx.heap[wr.heap.size]? = some (.cells (fileC f B d) 109 (0, 0)) := by rw [hwx]; exact blk_new _ _
      have hDx := HD.out.move hBx
      have HSS := Aside0.mk (fun (w' : World) (hB : Below wx.heap.size wx w') => (⟨(blk_cell ((hB.block _ (blk_lt hDx.blk)).trans hDx.blk) 0).trans rfl, (blk_cell ((hB.block _ (blk_lt hbf)).trans hbf) 0).trans rfl, (blk_cell ((hB.block _ (blk_lt hbf)).trans hbf) 1).trans rfl⟩ : w'.cell? ⟨w.heap.size + 1, 0, none⟩ = some (.map (some w.heap.size)) ∧ w'.cell? ⟨wr.heap.size, 0, none⟩ = some (.string f.f0) ∧ w'.cell? ⟨wr.heap.size, 1, none⟩ = some (.slice B f.f1.length d)))
      have HBF := Aside0.mk hbf
      have HDX := Aside0.mk hDx
      have HWX := Aside0.mk hwx
      have HWx := Aside0.mk (below_then HW.out HW.out.size hBx)
      have hxlt : wr.heap.size < wx.heap.size := by omega
      clear hBx hbf hDx hwx
      obtain ⟨v0, hrun, _⟩ := (HDX.out.move (below_drew (Below.refl _ wx))).map.look_ok hnz
      obtain ⟨q, hq⟩ : ∃ q, q = (findL (loadL (l.take k)) f.f0).isSome := ⟨_, rfl⟩
      rw [← hq] at hrun
      have HQ := Aside0.mk hq
      clear hq
      obtain ⟨s0, s1, s2⟩ := HSS.out wx (Below.refl _ _)
      go_wp2_with fail
      rw [← HWX.out]
      refine start_ (n := 12) (S := fun w' => w' = wx.drew) (ds := []) #[false, false, false, false, false, false, false, false, false, false, false, false] (by kernel_rfl) rfl rfl ?_ (fun hHeld => ?_)
      · rfl
      refine pure_ (i := 0) (N := some 16) (v := ?_) (a' := ?_) #[true, false, false, false, false, false, false, false, false, false, false, false] rfl rfl (by kernel_rfl) (fun _ _ _ h => h) (Or.inl ⟨by rfl, ?_⟩) ?_ ?_
      rotate_left
      · intro w'
        go_simp
        with_reducible rfl
      rotate_left
      · simp only [Act.put, List.setIfInBounds_toArray, List.set_cons_zero, List.set_cons_succ, i64_w, i32_w]
        rfl
      refine pure_ (i := 1) (N := some 17) (v := ?_) (a' := ?_) #[true, true, false, false, false, false, false, false, false, false, false, false] rfl rfl (by kernel_rfl) (fun _ _ _ h => h) (Or.inl ⟨by rfl, ?_⟩) ?_ ?_
      rotate_left
      · intro w'
        go_simp
        with_reducible rfl
      rotate_left
      · simp only [Act.put, List.setIfInBounds_toArray, List.set_cons_zero, List.set_cons_succ, i64_w, i32_w]
        rfl
      refine pure_ (i := 2) (N := some 18) (v := ?_) (a' := ?_) #[true, true, true, false, false, false, false, false, false, false, false, false] rfl rfl (by kernel_rfl) (fun _ _ _ h => h) (Or.inl ⟨by rfl, ?_⟩) ?_ ?_
      rotate_left
      · intro w'
        go_simp
        with_reducible rfl
      rotate_left
      · simp only [Act.put, List.setIfInBounds_toArray, List.set_cons_zero, List.set_cons_succ, i64_w, i32_w]
        rfl
      refine take_ (i := 3) (N := some 19) (v := ?_) (a' := ?_) #[true, true, true, true, false, false, false, false, false, false, false, false] rfl rfl (by kernel_rfl) (fun _ _ _ h => h) (Or.inl ⟨by rfl, ?_⟩) hHeld ?_ ?_
      rotate_left
      · rintro w' rfl
        go_simp
        with_reducible rfl
      rotate_left
      · simp only [Act.put, List.setIfInBounds_toArray, List.set_cons_zero, List.set_cons_succ, i64_w, i32_w]
        rfl
      refine pure_ (i := 4) (N := some 20) (v := ?_) (a' := ?_) #[true, true, true, true, true, false, false, false, false, false, false, false] rfl rfl (by kernel_rfl) (fun _ _ _ h => h) (Or.inl ⟨by rfl, ?_⟩) ?_ ?_
      rotate_left
      · intro w'
        go_simp
        with_reducible rfl
      rotate_left
      · simp only [Act.put, List.setIfInBounds_toArray, List.set_cons_zero, List.set_cons_succ, i64_w, i32_w]
        rfl
      refine take_ (i := 5) (N := some 21) (v := ?_) (a' := ?_) #[true, true, true, true, true, true, false, false, false, false, false, false] rfl rfl (by kernel_rfl) (fun _ _ _ h => h) (Or.inl ⟨by rfl, ?_⟩) hHeld ?_ ?_
      rotate_left
      · rintro w' rfl
        go_simp
        with_reducible rfl
      rotate_left
      · simp only [Act.put, List.setIfInBounds_toArray, List.set_cons_zero, List.set_cons_succ, i64_w, i32_w]
        rfl
      refine take_ (i := 6) (N := some 22) (v := ?_) (a' := ?_) #[true, true, true, true, true, true, true, false, false, false, false, false] rfl rfl (by kernel_rfl) (fun _ _ _ h => h) (Or.inl ⟨by rfl, ?_⟩) hHeld ?_ ?_
      rotate_left
      · rintro w' rfl
        go_simp
        with_reducible rfl
      rotate_left
      · simp only [Act.put, List.setIfInBounds_toArray, List.set_cons_zero, List.set_cons_succ, i64_w, i32_w]
        rfl
      refine pure_ (i := 7) (N := some 15) (v := ?_) (a' := ?_) #[true, true, true, true, true, true, true, true, false, false, false, false] rfl rfl (by kernel_rfl) (fun _ _ _ h => h) (Or.inl ⟨by rfl, ?_⟩) ?_ ?_
      rotate_left
      · intro w'
        go_simp
        with_reducible rfl
      rotate_left
      · simp only [Act.put, List.setIfInBounds_toArray, List.set_cons_zero, List.set_cons_succ, i64_w, i32_w]
        rfl
      refine pure_ (i := 8) (N := some 23) (v := ?_) (a' := ?_) #[true, true, true, true, true, true, true, true, true, false, false, false] rfl rfl (by kernel_rfl) (fun _ _ _ h => h) (Or.inl ⟨by rfl, ?_⟩) ?_ ?_
      rotate_left
      · intro w'
        go_simp
        with_reducible rfl
      rotate_left
      · simp only [Act.put, List.setIfInBounds_toArray, List.set_cons_zero, List.set_cons_succ, i64_w, i32_w]
        rfl
      refine pure_ (i := 9) (N := some 24) (v := ?_) (a' := ?_) #[true, true, true, true, true, true, true, true, true, true, false, false] rfl rfl (by kernel_rfl) (fun _ _ _ h => h) (Or.inl ⟨by rfl, ?_⟩) ?_ ?_
      rotate_left
      · intro w'
        go_simp
        with_reducible rfl
      rotate_left
      · simp only [Act.put, List.setIfInBounds_toArray, List.set_cons_zero, List.set_cons_succ, i64_w, i32_w]
        rfl
      refine pure_ (i := 10) (N := some 6) (v := ?_) (a' := ?_) #[true, true, true, true, true, true, true, true, true, true, true, false] rfl rfl (by kernel_rfl) (fun _ _ _ h => h) (Or.inl ⟨by rfl, ?_⟩) ?_ ?_
      rotate_left
      · intro w'
        go_simp
        with_reducible rfl
      rotate_left
      · simp only [Act.put, List.setIfInBounds_toArray, List.set_cons_zero, List.set_cons_succ, i64_w, i32_w]
        rfl
      refine pure_ (i := 11) (N := some 7) (v := ?_) (a' := ?_) #[true, true, true, true, true, true, true, true, true, true, true, true] rfl rfl (by kernel_rfl) (fun _ _ _ h => h) (Or.inl ⟨by rfl, ?_⟩) ?_ ?_
      rotate_left
      · intro w'
        go_simp
        with_reducible rfl
      rotate_left
      · simp only [Act.put, List.setIfInBounds_toArray, List.set_cons_zero, List.set_cons_succ, i64_w, i32_w]
        rfl
      refine done_ (by kernel_rfl) ?_
      have HWd := Aside0.mk (below_drew HWx.out)
      clear hrun HSS s0 s1 s2 hHeld
      cases q with
      | true =>
        have HLO := Aside0.mk (loadOk_bad HGet.out (not_good HQ.out.symm))
        go_wp2
        go_ret
        exact ⟨HWd.out, .inr ⟨HLO.out, rfl⟩⟩
      | false =>
        cases hno : nameOk f.f0 with
        | false =>
          rw [hno] at HNa
          have HLO := Aside0.mk (loadOk_bad HGet.out (fun h => by rw [h.1] at hno; cases hno))
          clear hno
          have s1 : wx.drew.cell? ⟨wr.heap.size, 0, none⟩ = some (.string f.f0) := (blk_cell (show wx.drew.heap[wr.heap.size]? = _ from HBF.out) 0).trans rfl
          go_wp2_with (first | (go_at_call 78; with_reducible refine (HNa.out _).mono ?_; rintro e w2 ⟨rfl, hB2⟩; have HB2 := Aside0.mk hB2; clear hB2) | fail)
          go_ret
          exact ⟨below_then HWd.out HWd.out.size HB2.out, .inr ⟨HLO.out, rfl⟩⟩
        | true =>
          rw [hno] at HNa
          have HGA := Aside0.mk (good_at (l := l) (k := k) hno HQ.out.symm)
          clear hno
          have s1 : wx.drew.cell? ⟨wr.heap.size, 0, none⟩ = some (.string f.f0) := (blk_cell (show wx.drew.heap[wr.heap.size]? = _ from HBF.out) 0).trans rfl
          go_wp2_with (first | (go_at_call 78; with_reducible refine (HNa.out _).mono ?_; rintro e w2 ⟨rfl, hB2⟩; have HB2 := Aside0.mk (below_then (below_drew (Below.refl wx.heap.size wx)) (below_drew (Below.refl wx.heap.size wx)).size hB2); clear hB2 s1) | fail)
          have HSS := Aside0.mk (fun (w' : World) (h1 : w'.heap[w.heap.size + 1]? = wx.heap[w.heap.size + 1]?) (h2 : w'.heap[wr.heap.size]? = wx.heap[wr.heap.size]?) => (⟨(blk_cell (h1.trans HDX.out.blk) 0).trans rfl, (blk_cell (h2.trans HBF.out) 0).trans rfl, (blk_cell (h2.trans HBF.out) 1).trans rfl⟩ : w'.cell? ⟨w.heap.size + 1, 0, none⟩ = some (.map (some w.heap.size)) ∧ w'.cell? ⟨wr.heap.size, 0, none⟩ = some (.string f.f0) ∧ w'.cell? ⟨wr.heap.size, 1, none⟩ = some (.slice B f.f1.length d)))
          have HLt := Aside0.mk (blk_lt HDX.out.blk)
          have HB3 := Aside0.mk (below_drew HB2.out)
          refine start_ (n := 10) (S := fun w' => w'.cell? ⟨w.heap.size + 1, 0, none⟩ = some (.map (some w.heap.size)) ∧ w'.cell? ⟨wr.heap.size, 0, none⟩ = some (.string f.f0) ∧ w'.cell? ⟨wr.heap.size, 1, none⟩ = some (.slice B f.f1.length d)) (ds := []) #[false, false, false, false, false, false, false, false, false, false] (by kernel_rfl) rfl rfl ?_ (fun hHeld => ?_)
          · exact HSS.out _ (HB3.out.block _ HLt.out) (HB3.out.block _ hxlt)
          refine pure_ (i := 0) (N := some 32) (v := ?_) (a' := ?_) #[true, false, false, false, false, false, false, false, false, false] rfl rfl (by kernel_rfl) (fun _ _ _ h => h) (Or.inl ⟨by rfl, ?_⟩) ?_ ?_
          rotate_left
          · intro w'
            go_simp
            with_reducible rfl
          rotate_left
          · simp only [Act.put, List.setIfInBounds_toArray, List.set_cons_zero, List.set_cons_succ, i64_w, i32_w]
            rfl
          refine pure_ (i := 1) (N := some 33) (v := ?_) (a' := ?_) #[true, true, false, false, false, false, false, false, false, false] rfl rfl (by kernel_rfl) (fun _ _ _ h => h) (Or.inl ⟨by rfl, ?_⟩) ?_ ?_
          rotate_left
          · intro w'
            go_simp
            with_reducible rfl
          rotate_left
          · simp only [Act.put, List.setIfInBounds_toArray, List.set_cons_zero, List.set_cons_succ, i64_w, i32_w]
            rfl
          refine pure_ (i := 2) (N := some 34) (v := ?_) (a' := ?_) #[true, true, true, false, false, false, false, false, false, false] rfl rfl (by kernel_rfl) (fun _ _ _ h => h) (Or.inl ⟨by rfl, ?_⟩) ?_ ?_
          rotate_left
          · intro w'
            go_simp
            with_reducible rfl
          rotate_left
          · simp only [Act.put, List.setIfInBounds_toArray, List.set_cons_zero, List.set_cons_succ, i64_w, i32_w]
            rfl
          refine take_ (i := 3) (N := some 35) (v := ?_) (a' := ?_) #[true, true, true, true, false, false, false, false, false, false] rfl rfl (by kernel_rfl) (fun _ _ _ h => h) (Or.inl ⟨by rfl, ?_⟩) hHeld ?_ ?_
          rotate_left
          · rintro w' ⟨s0, s1, s2⟩
            go_simp
            with_reducible rfl
          rotate_left
          · simp only [Act.put, List.setIfInBounds_toArray, List.set_cons_zero, List.set_cons_succ, i64_w, i32_w]
            rfl
          refine pure_ (i := 4) (N := some 36) (v := ?_) (a' := ?_) #[true, true, true, true, true, false, false, false, false, false] rfl rfl (by kernel_rfl) (fun _ _ _ h => h) (Or.inl ⟨by rfl, ?_⟩) ?_ ?_
          rotate_left
          · intro w'
            go_simp
            with_reducible rfl
          rotate_left
          · simp only [Act.put, List.setIfInBounds_toArray, List.set_cons_zero, List.set_cons_succ, i64_w, i32_w]
            rfl
          refine take_ (i := 5) (N := some 37) (v := ?_) (a' := ?_) #[true, true, true, true, true, true, false, false, false, false] rfl rfl (by kernel_rfl) (fun _ _ _ h => h) (Or.inl ⟨by rfl, ?_⟩) hHeld ?_ ?_
          rotate_left
          · rintro w' ⟨s0, s1, s2⟩
            go_simp
            with_reducible rfl
          rotate_left
          · simp only [Act.put, List.setIfInBounds_toArray, List.set_cons_zero, List.set_cons_succ, i64_w, i32_w]
            rfl
          refine pure_ (i := 6) (N := some 38) (v := ?_) (a' := ?_) #[true, true, true, true, true, true, true, false, false, false] rfl rfl (by kernel_rfl) (fun _ _ _ h => h) (Or.inl ⟨by rfl, ?_⟩) ?_ ?_
          rotate_left
          · intro w'
            go_simp
            with_reducible rfl
          rotate_left
          · simp only [Act.put, List.setIfInBounds_toArray, List.set_cons_zero, List.set_cons_succ, i64_w, i32_w]
            rfl
          refine take_ (i := 7) (N := some 39) (v := ?_) (a' := ?_) #[true, true, true, true, true, true, true, true, false, false] rfl rfl (by kernel_rfl) (fun _ _ _ h => h) (Or.inl ⟨by rfl, ?_⟩) hHeld ?_ ?_
          rotate_left
          · rintro w' ⟨s0, s1, s2⟩
            go_simp
            with_reducible rfl
          rotate_left
          · simp only [Act.put, List.setIfInBounds_toArray, List.set_cons_zero, List.set_cons_succ, i64_w, i32_w]
            rfl
          refine one_ (i := 8) (N := some 40) #[true, true, true, true, true, true, true, true, true, false] rfl rfl (by kernel_rfl) (by decide) (fun K hK => ?_)
          refine goes_ Try.func79 (by kernel_rfl) rfl #[.slice B f.f1.length d] (by rfl) rfl rfl (by (try simp only [List.map_toArray, List.map_cons, List.map_nil]); first | done | rfl) ?_
          refine (cloneB_calls B d f.f1 w2.drew (Kd.C_below HCB.out (below_then (Below.refl wr.heap.size wr) (Nat.le_refl _) (below_then (by rw [HWX.out]; exact below_alloc (Below.refl _ _) _) (by omega) HB3.out))) hsz).mono ?_
          rintro e w3 ⟨⟨v3, rfl, hr3⟩, hB3⟩
          have HB4 := Aside0.mk (below_then HB3.out HB3.out.size hB3)
          obtain ⟨A3, c3, rfl⟩ := Kd.R_slice hr3
          have hft := RB.foot (ok := ok) hr3 (fun k hk => HK1.out k (by have h2 := HB3.out.size; have h3 := HS2.out; omega))
          have HV3 := Aside0.mk (show VB w3 ok (.slice A3 f.f1.length c3) f.f1 from Kd.V_mk hft.2.1 hft.2.2)
          clear hr3 hB3 hft
          refine ⟨_, rfl, hK.out _ _ (HSS.out _ (HB4.out.block _ HLt.out) (HB4.out.block _ hxlt)) (fun _ => ?_)⟩
          clear hK K
          refine norm_ (a' := ?_) ?_ ?_
          rotate_left
          · show Act.put _ (some 40) _ = _
            simp only [Act.put, List.setIfInBounds_toArray, List.set_cons_zero, List.set_cons_succ, i64_w, i32_w]
            rfl
          obtain ⟨w4, hup, hm4, hg4⟩ := (HDX.out.map.move HB4.out).put (fun k hk => (HK2.out k hk).2.1) (f := f) (v := .slice A3 f.f1.length c3) hnz (by unfold maxLen; omega) HV3.out
          refine one_ (i := 9) (N := none) #[true, true, true, true, true, true, true, true, true, true] rfl rfl (by kernel_rfl) (by decide) (fun K hK => ?_)
          refine skip_ (w1 := ?_) (by rfl) rfl ?_ ?_
          rotate_left
          · go_simp
            rfl
          have h1 : w4.heap[w.heap.size + 1]? = wx.heap[w.heap.size + 1]? := (hg4.block _ (Nat.lt_of_lt_of_le HLt.out HB4.out.size) (by simp)).trans (HB4.out.block _ HLt.out)
          have h2 : w4.heap[wr.heap.size]? = wx.heap[wr.heap.size]? := (hg4.block _ (Nat.lt_of_lt_of_le hxlt HB4.out.size) (by have := HS2.out; simp; omega)).trans (HB4.out.block _ hxlt)
          refine hK.out _ _ (HSS.out _ h1 h2) (fun _ => ?_)
          clear hK K
          have HD4 := Aside0.mk (show DiskAt w4 ok (w.heap.size + 1) w.heap.size (k + 1) (loadL (l.take (k + 1))) none 0 [] from ⟨h1.trans HDX.out.blk, by rw [HST.out]; exact hm4.okmono (fun k hk => ⟨hk, by simp [Value.ownBlock]⟩), Kd.N_nil _ _ _ _ _, HDX.out.offg, HDX.out.offb, by simp⟩)
          have HW4 := Aside0.mk (show Below w.heap.size w w4 from pw_below_grown (below_then HWx.out HWx.out.size HB4.out) (some w.heap.size) (Nat.le_trans HWx.out.size HB4.out.size) hg4 (fun j hj => by injection hj with hj; omega))
          have HS4 := Aside0.mk (show w.heap.size + 2 ≤ w4.heap.size by have := HS2.out; have := HB4.out.size; have := hg4.size; omega)
          clear hup hm4 hg4 h1 h2
          refine done_ (by kernel_rfl) ?_
          go_wp2
          go_roundw
          case rel => exact ⟨k + 1, by omega, by go_num, HG.out.succ HGet.out HGA.out |> Aside0.mk, HD4, HW4, HS4⟩
          case measure => simp [intOf]; omega
    · obtain rfl : k = l.length := by omega
      have HLO := Aside0.mk (loadOk_good.2 HG.out)
      rw [List.take_length] at HD
      go_wp2
      go_ret
      have hsz := HSZ1.out
      exact ⟨HW.out, .inl ⟨HLO.out, _, rfl, ⟨_, _, none, 0, HD.out, fun k hk => HK1.out k (Nat.le_trans HS2.out hk), ⟨.inr (by omega), by have := HS2.out; omega⟩, ⟨.inr (Nat.le_refl _), by have := HS2.out; omega⟩, fun k hk hl => ⟨.inr (HK2.out k hk).1, hl⟩, ext_lt, trivial⟩⟩⟩
end Go.Proofs.Ytfaniohoplbdoaa.My
/- A disk's Crash. -/
namespace Go.Proofs.Ytfaniohoplbdoaa.My
open Go Go.RowKit Go.Proofs.YtfaniohoplbdoaaW.PrintWords Go.Proofs.YtfaniohoplbdoaaW.PrintLast Go.Proofs.YtfaniohoplbdoaaW.PrintMore Go.Proofs.Ytfaniohoplbdoaa.PDiskActs
set_option linter.unusedVariables false
set_option linter.unusedSimpArgs false
theorem clampD (keep : Int) (n : Nat) : ∃ m : Int, (∀ ats ty, Builtin.max_ ats ty #[.int .i64 keep, .int .i64 0] = pure (.int .i64 m)) ∧ (∀ ats ty, Builtin.min_ ats ty #[.int .i64 m, .int .i64 (n : Int)] = pure (.int .i64 (keepN keep n : Int))) := by
  refine ⟨mx keep 0, fun ats ty => ?_, fun ats ty => ?_⟩
  · rw [max_two, max2_int]
    simp [mx]
  · rw [min_two, min2_int]
    have : (keepN keep n : Int) = if (n : Int) < mx keep 0 then (n : Int) else mx keep 0 := by
      unfold keepN
      rw [Int.toNat_of_nonneg (by unfold mx; omega)]
      unfold mx mn
      omega
    rw [this]
    rfl
theorem cutP_to (A : Option Addr) (c : Nat) (l : List S123) (hi : Nat) (hc : l.length ≤ c) (h : hi ≤ l.length) :
    ∀ W : World, (Instr.slice 111 (.slice A l.length c) none (some (.int .i64 (hi : Int))) none).run Try.prog W = .ok (.slice A (l.take hi).length c) W := by
  obtain ⟨i0, hi0, _, hsz, _⟩ := info_parts info121
  have h1 := cut_to (P := Try.prog) 111 121 .i64 Try.underlying111 hi0 A l.length c (hi : Int) (by omega) (by omega) hc
  rw [Int.toNat_natCast] at h1
  intro W
  rw [h1 W, List.length_take, Nat.min_eq_left h]
theorem FO.at_ {w : World} {ok : Nat → Prop} {A : Option Addr} {l : List S123} (h : Kd.F k123 w ok A l.length l) (j : Nat) (hj : j < l.length) :
    ∃ ad B d, A = some ad ∧ w.cell? (ad.add (j * 4)) = some (.int .i64 l[j].f0) ∧ w.cell? (ad.add (j * 4 + 1)) = some (.string l[j].f1) ∧ w.cell? (ad.add (j * 4 + 2)) = some (.string l[j].f2) ∧ w.cell? (ad.add (j * 4 + 3)) = some (.slice B l[j].f3.length d) ∧ l[j].f3.length ≤ d ∧ Kd.F (Kd.int .u8) w ok B l[j].f3.length l[j].f3 := by
  obtain ⟨ad, cs, e, hcl, hK, hcc, _⟩ := Kd.F_get h l[j] (j : Int) (by omega) (by omega)
  rw [Int.toNat_natCast] at hK hcc
  rw [show l.getD j l[j] = l[j] from by simp [List.getD_eq_getElem?_getD, hj]] at hK
  obtain ⟨B, d, rfl, hd, hF⟩ := k123_openF hK
  exact ⟨ad, B, d, e, hcc 0 _ rfl, hcc 1 _ rfl, hcc 2 _ rfl, hcc 3 _ rfl, hd, hF⟩
abbrev restA (A : Option Addr) (c k : Nat) : Option Addr := if c = k then A else A.map (·.add (k * 4))
theorem cutP_from (A : Option Addr) (c : Nat) (l : List S123) (lo : Nat) (hc : l.length ≤ c) (h : lo ≤ l.length) :
    (∀ W : World, (Instr.slice 111 (.slice A l.length c) (some (.int .i64 (lo : Int))) none none).run Try.prog W = .ok (.slice (restA A c lo) (l.drop lo).length (c - lo)) W) ∧ ∀ w, CO w A l → CO w (restA A c lo) (l.drop lo) := by
  obtain ⟨i0, hi0, _, hsz, _⟩ := info_parts info121
  have h1 := cut_from (P := Try.prog) 111 121 .i64 Try.underlying111 hi0 4 hsz A l.length c (lo : Int) (by omega) (by omega)
  rw [Int.toNat_natCast] at h1
  refine ⟨fun W => by rw [h1 W, List.length_drop], fun w hC => ?_⟩
  exact Kd.C_drop hC h hc
theorem cutP_clip (A : Option Addr) (c n : Nat) (hc : n ≤ c) (W : World) : (Instr.slice 111 (.slice A n c) none (some (.int .i64 (n : Int))) (some (.int .i64 (n : Int)))).run Try.prog W = .ok (.slice A n n) W := by
  obtain ⟨i0, hi0, _, hsz, _⟩ := info_parts info121
  have h1 : ¬ ((n : Int) < 0) := by omega
  have h2 : ¬ (c < n) := by omega
  simp [Instr.slice, run_underlying Try.underlying111, go_sem, asInt, h1, h2]
theorem grown_set (w : World) (g i : Nat) (v : Value) : w.grownBy (w.setCell ⟨g, i, none⟩ v) (some g) :=
  ⟨rfl, rfl, rfl, by simp [World.setCell], fun k hk hne => Below.heap_setCell _ ⟨g, i, none⟩ _ k (fun e => hne (by rw [e]))⟩
theorem grown_then {w w1 w2 : World} {row : Option Nat} (h1 : w.grownBy w1 row) (h2 : w1.grownBy w2 row) : w.grownBy w2 row :=
  ⟨h2.os.trans h1.os, h2.tape.trans h1.tape, h2.output.trans h1.output, Nat.le_trans h1.size h2.size, fun k hk hne => (h2.block k (Nat.lt_of_lt_of_le hk h1.size) hne).trans (h1.block k hk hne)⟩
theorem DiskAt.nmono {w : World} {ok : Nat → Prop} {g b n m : Nat} {l : List S109} {A : Option Addr} {c : Nat} {ops : List S123} (h : DiskAt w ok g b n l A c ops) (hn : n ≤ m) : DiskAt w ok g b m l A c ops := ⟨h.blk, h.mapN.mono hn, h.pendN, h.offg, h.offb, h.names⟩
abbrev CrashPost (w : World) (ok : Nat → Prop) (g n : Nat) (l : List S109) : Ending → World → Prop := fun e w' => e = .returned (.tuple #[]) ∧ ∃ b, DiskAt w' (fun k => ok k ∧ k ≠ b) g b n l none 0 [] ∧ w.heap.size ≤ b ∧ w.grownBy w' (some g)
theorem crash_back {w w1 w' : World} {ok : Nat → Prop} {g n m : Nat} {l : List S109} {e : Ending} (h1 : w.grownBy w1 (some g)) (hn : n ≤ m) (h : e = .returned (.tuple #[]) ∧ DiskAt w' (fun k => ok k ∧ k ≠ w1.heap.size) g w1.heap.size n l none 0 [] ∧ w1.grownBy w' (some g)) : CrashPost w ok g m l e w' :=
  ⟨h.1, _, h.2.1.nmono hn, h1.size, grown_then h1 h.2.2⟩
theorem MP.ne_cells {w w' : World} {ok : Nat → Prop} {b n g t : Nat} {l : List S109} {cs : Array Value} (h : MP w ok b n l) (hb : w'.heap[b]? = w.heap[b]?) (hg : w'.heap[g]? = some (.cells cs t (0, 0))) : b ≠ g := by
  intro e
  obtain ⟨D, ⟨es, clock, h1, _⟩, _⟩ := h
  rw [← e, hb, h1] at hg
  cases hg
set_option maxHeartbeats 4000000 in
set_option maxRecDepth 100000 in
theorem dcrash_calls (ok : Nat → Prop) (g b n : Nat) (l : List S109) (A : Option Addr) (c : Nat) (ops : List S123) (keep torn : Int) (w : World) (hok : ∀ k, w.heap.size ≤ k → ok k) (hD : DiskAt w ok g b n l A c ops) (hn : n + ops.length + 1 < maxLen)
    (hs : byF l + byO ops ≤ 140737488351232) (hl : ops.length + 1 ≤ 2199023255552) :
    Calls Try.prog 49 #[.pointer (some ⟨g, 0, none⟩), .int .i64 keep, .int .i64 torn] w (CrashPost w ok g (n + ops.length) (dcrashL l ops keep torn)) := by
  obtain ⟨m0, hmax, hmin⟩ := clampD keep ops.length
  have hkl := keepN_le keep ops.length
  have hcrash := (rfl : dcrashL l ops keep torn = dcrashL l ops keep torn)
  conv at hcrash => rhs; unfold dcrashL
  generalize keepN keep ops.length = K0 at hmin hkl hcrash
  have HCR := Aside0.mk hcrash
  clear hcrash
  have hcc := (Kd.V_reads' hD.pend).2.1
  have hto := cutP_to A c ops K0 hcc hkl
  obtain ⟨hfrom, hfromC⟩ := cutP_from A c ops K0 hcc hkl
  have hz1 : w.cell? ⟨g, 1, none⟩ = some (.slice A ops.length c) := (blk_cell hD.blk 1).trans rfl
  have hf1 := blk_frozen hD.blk 1
  have hlg := blk_lt hD.blk
  have HT := Aside0.mk (hD.take K0 hkl)
  have hCr := hfromC _ (Kd.V_reads' (Kd.V_far hD.pend (p := ⟨g, 1, none⟩) hD.offg (.slice A (ops.take K0).length c))).2.2
  have hpv := Kd.F_cut (Kd.V_F (Kd.V_far hD.pend (p := ⟨g, 1, none⟩) hD.offg (.slice A (ops.take K0).length c))) hkl hcc
  replace hpv : Kd.F k123 (w.setCell ⟨g, 1, none⟩ (.slice A (ops.take K0).length c)) ok (restA A c K0) (ops.drop K0).length (ops.drop K0) := hpv
  have hpt := HT.out.pend
  have hcl : (ops.take K0).length = K0 := by rw [List.length_take]; omega
  have hdl : (ops.drop K0).length = ops.length - K0 := List.length_drop
  have hcat : ops.take K0 ++ ops.drop K0 = ops := List.take_append_drop K0 ops
  have hget : ∀ h : K0 < ops.length, ∃ h2 : 0 < (ops.drop K0).length, ops[K0] = (ops.drop K0)[0] := fun h => ⟨by omega, by simp⟩
  obtain ⟨cut, hcu⟩ : ∃ cut, cut = ops.take K0 := ⟨_, rfl⟩
  obtain ⟨rest, hre⟩ : ∃ rest, rest = ops.drop K0 := ⟨_, rfl⟩
  obtain ⟨A2, hA2⟩ : ∃ A2, A2 = restA A c K0 := ⟨_, rfl⟩
  have HCat := Aside0.mk hcat
  have HGet := Aside0.mk hget
  have HLR := Aside0.mk hdl
  have HLC := Aside0.mk hcl
  have HCr := Aside0.mk hCr
  have HPV := Aside0.mk hpv
  have HPT := Aside0.mk hpt
  clear hcat hget hcl hdl hCr hfromC hpv hpt
  rw [← hcu] at hto HT HLC HCat HCr HCR HPV HPT
  rw [← hre] at hfrom HCat HGet HLR HCr HPV
  rw [← hA2] at hfrom HCr HPV
  clear hcu hre hA2
  have hbc : byO ops = byO cut + byO rest := by rw [← HCat.out]; unfold byO; rw [List.map_append, List.sum_append]
  have hlc : ops.length = cut.length + rest.length := by rw [← HCat.out, List.length_append]
  have HN := Aside0.mk (show ∀ o ∈ rest, o.f1.size ≤ maxLen ∧ o.f2.size ≤ maxLen from fun o ho => hD.names o (by rw [← HCat.out]; exact List.mem_append_right _ ho))
  have HBC := Aside0.mk hbc
  have HLen := Aside0.mk hlc
  have HOK := Aside0.mk hok
  have hu113 := Try.underlying113
  have hu121 := Try.underlying121
  have hsz : (w.setCell ⟨g, 1, none⟩ (.slice A cut.length c)).heap.size = w.heap.size := by simp [World.setCell]
  have HSZ := Aside0.mk hsz
  have HSy := Aside0.mk (dsync_calls ok g b n l A c cut (w.setCell ⟨g, 1, none⟩ (.slice A cut.length c)) (fun k hk => hok k (by omega)) HT.out (by omega) (by omega))
  have hcc2 : cut.length ≤ c := by omega
  clear hbc hlc hsz hok hD
  by_cases hq : K0 < ops.length ∧ 0 < torn ∧ ∀ h : K0 < ops.length, ops[K0].f0 = 0
  · obtain ⟨hkn, ht, hk0'⟩ := hq
    obtain ⟨h0, hg0⟩ := HGet.out hkn
    have hk0 := hk0' hkn
    have HE := Aside0.mk (show dcrashL l ops keep torn = dviewL l (cut ++ [tornL (rest[0]'h0) torn]) by
      rw [HCR.out, dif_pos hkn, if_pos ⟨ht, hk0⟩, hg0])
    rw [HE.out]
    obtain ⟨ad, B, d, rfl, hc0, hc1, hc2, hc3, hd, hFo⟩ := FO.at_ HPV.out 0 h0
    have hnm := HN.out (rest[0]'h0) (List.getElem_mem h0)
    have hby := byO_le (List.getElem_mem h0)
    rw [hg0] at hk0
    obtain ⟨o, ho⟩ : ∃ o, o = rest[0] := ⟨_, rfl⟩
    have e0 : ad.add (0 * 4) = ad := by cases ad; simp [Addr.add]
    have e1 : ∀ j, 0 < j → ad.add (0 * 4 + j) = ⟨ad.block, ad.off + j, none⟩ := by
      intro j hj
      unfold Addr.add
      rw [if_neg (by omega), Nat.zero_mul, Nat.zero_add]
    rw [e0] at hc0
    rw [e1 _ (by omega)] at hc1 hc2 hc3
    rw [← ho] at hc0 hc1 hc2 hc3 hd hk0 hby hFo hnm ⊢
    have HFo := Aside0.mk hFo
    clear e0 e1 hg0 ho hk0' hFo
    have hkb : (o.f0 == 0) = true := by simpa using hk0
    have HNm := Aside0.mk hnm
    obtain ⟨m, hml, hmm, hmin2⟩ := clampT torn o.f3.length ht
    obtain ⟨hcut3, hC3⟩ := cutB_to B d o.f3 m m rfl hd hml
    have HT3 := Aside0.mk (show tornL o torn = ⟨o.f0, o.f1, o.f2, o.f3.take m⟩ by unfold tornL; rw [← hmm, Int.toNat_natCast])
    clear hC3 hmm hk0 hnm
    go_enter Try.func49, Try.ntmps49
    go_wp2_with fail
    obtain ⟨ws, hws⟩ : ∃ ws, ws = w.setCell ⟨g, 1, none⟩ (.slice A cut.length c) := ⟨_, rfl⟩
    obtain ⟨t, ht3⟩ : ∃ t, t = o.f3.take m := ⟨_, rfl⟩
    have htl : t.length = m := by rw [ht3, List.length_take]; omega
    have hFt := Kd.F_take HFo.out hml
    rw [← ht3] at hFt HT3
    subst htl
    rw [← hws] at hFt HSZ HPT
    rw [← hws]
    have hbk : ws.heap[g]? = some (.cells #[.map (some b), .slice A cut.length c] 113 (0, 0)) := by rw [hws]; exact HT.out.blk
    have hmap := HT.out.map
    rw [← hws] at hmap
    have HMap := Aside0.mk hmap
    have hoff := HT.out.offg
    have hnmc := HT.out.names
    have hgs : w.grownBy ws (some g) := by rw [hws]; exact grown_set w g 1 _
    clear hws ht3 HSy HT HPV HFo hc0 hc1 hc2 hc3 hto hfrom hcut3 hmin hmin2 hmax hz1 hf1 hkb HCR HE
    obtain ⟨wx, hwx⟩ : ∃ wx, wx = ws.alloc (.cells (doC ⟨o.f0, o.f1, o.f2, t⟩ B d) 121) := ⟨_, rfl⟩
    have hBx : Below ws.heap.size ws wx := by rw [hwx]; exact below_alloc (Below.refl _ _) _
    have hxs : wx.heap.size = ws.heap.size + 1 := by rw [hwx, alloc_size]
    have hbo : wx.heap[ws.heap.size]? = some (.cells (doC ⟨o.f0, o.f1, o.f2, t⟩ B d) 121 (0, 0)) := by rw [hwx]; exact blk_new _ _
    have hgx := (hBx.block _ (blk_lt hbk)).trans hbk
    rw [HSZ.out] at hbo hxs
    rw [← hwx]
    have HSS := Aside0.mk (fun (w' : World) (hB : Below wx.heap.size wx w') => (⟨(blk_cell ((hB.block _ (blk_lt hgx)).trans hgx) 1).trans rfl, (blk_cell ((hB.block _ (blk_lt hbo)).trans hbo) 0).trans rfl, (blk_cell ((hB.block _ (blk_lt hbo)).trans hbo) 1).trans rfl, (blk_cell ((hB.block _ (blk_lt hbo)).trans hbo) 2).trans rfl, (blk_cell ((hB.block _ (blk_lt hbo)).trans hbo) 3).trans rfl⟩ : w'.cell? ⟨g, 1, none⟩ = some (.slice A cut.length c) ∧ w'.cell? ⟨w.heap.size, 0, none⟩ = some (.int .i64 o.f0) ∧ w'.cell? ⟨w.heap.size, 1, none⟩ = some (.string o.f1) ∧ w'.cell? ⟨w.heap.size, 2, none⟩ = some (.string o.f2) ∧ w'.cell? ⟨w.heap.size, 3, none⟩ = some (.slice B t.length d)))
    have HGX := Aside0.mk hgx
    have HBX := Aside0.mk hBx
    have HXS := Aside0.mk hxs
    have HFt := Aside0.mk hFt
    have HGS := Aside0.mk hgs
    have HOff := Aside0.mk hoff
    have HNmc := Aside0.mk hnmc
    clear hwx hBx hxs hbo hgx hbk hFt hgs hmap hoff hnmc
    have hclip := cutP_clip A c cut.length hcc2
    have HLC2 := HLC.out
    obtain rfl := HLC2
    refine start_ (n := 14) (S := fun w' => w'.cell? ⟨g, 1, none⟩ = some (.slice A cut.length c) ∧ w'.cell? ⟨w.heap.size, 0, none⟩ = some (.int .i64 o.f0) ∧ w'.cell? ⟨w.heap.size, 1, none⟩ = some (.string o.f1) ∧ w'.cell? ⟨w.heap.size, 2, none⟩ = some (.string o.f2) ∧ w'.cell? ⟨w.heap.size, 3, none⟩ = some (.slice B t.length d)) (ds := [13]) #[false, false, false, false, false, false, false, false, false, false, false, false, false, false] (by kernel_rfl) rfl rfl ?_ (fun hHeld => ?_)
    · exact HSS.out _ (below_drew (Below.refl _ _))
    refine pure_ (i := 0) (N := some 60) (v := ?_) (a' := ?_) #[true, false, false, false, false, false, false, false, false, false, false, false, false, false] rfl rfl (by kernel_rfl) (fun _ _ _ h => h) (Or.inl ⟨by rfl, ?_⟩) ?_ ?_
    rotate_left
    · intro w'
      go_simp
      with_reducible rfl
    rotate_left
    · simp only [Act.put, List.setIfInBounds_toArray, List.set_cons_zero, List.set_cons_succ, i64_w, i32_w]
      rfl
    refine pure_ (i := 1) (N := some 61) (v := ?_) (a' := ?_) #[true, true, false, false, false, false, false, false, false, false, false, false, false, false] rfl rfl (by kernel_rfl) (fun _ _ _ h => h) (Or.inl ⟨by rfl, ?_⟩) ?_ ?_
    rotate_left
    · intro w'
      go_simp
      with_reducible rfl
    rotate_left
    · simp only [Act.put, List.setIfInBounds_toArray, List.set_cons_zero, List.set_cons_succ, i64_w, i32_w]
      rfl
    refine pure_ (i := 2) (N := some 62) (v := ?_) (a' := ?_) #[true, true, true, false, false, false, false, false, false, false, false, false, false, false] rfl rfl (by kernel_rfl) (fun _ _ _ h => h) (Or.inl ⟨by rfl, ?_⟩) ?_ ?_
    rotate_left
    · intro w'
      go_simp
      with_reducible rfl
    rotate_left
    · simp only [Act.put, List.setIfInBounds_toArray, List.set_cons_zero, List.set_cons_succ, i64_w, i32_w]
      rfl
    refine pure_ (i := 3) (N := some 63) (v := ?_) (a' := ?_) #[true, true, true, true, false, false, false, false, false, false, false, false, false, false] rfl rfl (by kernel_rfl) (fun _ _ _ h => h) (Or.inl ⟨by rfl, ?_⟩) ?_ ?_
    rotate_left
    · intro w'
      go_simp
      with_reducible rfl
    rotate_left
    · simp only [Act.put, List.setIfInBounds_toArray, List.set_cons_zero, List.set_cons_succ, i64_w, i32_w]
      rfl
    refine take_ (i := 4) (N := some 64) (v := ?_) (a' := ?_) #[true, true, true, true, true, false, false, false, false, false, false, false, false, false] rfl rfl (by kernel_rfl) (fun _ _ _ h => h) (Or.inl ⟨by rfl, ?_⟩) hHeld ?_ ?_
    rotate_left
    · rintro w' ⟨s0, s1, s2, s3, s4⟩
      go_simp
      with_reducible rfl
    rotate_left
    · simp only [Act.put, List.setIfInBounds_toArray, List.set_cons_zero, List.set_cons_succ, i64_w, i32_w]
      rfl
    refine pure_ (i := 5) (N := some 65) (v := ?_) (a' := ?_) #[true, true, true, true, true, true, false, false, false, false, false, false, false, false] rfl rfl (by kernel_rfl) (fun _ _ _ h => h) (Or.inl ⟨by rfl, ?_⟩) ?_ ?_
    rotate_left
    · intro w'
      go_simp
      with_reducible rfl
    rotate_left
    · simp only [Act.put, List.setIfInBounds_toArray, List.set_cons_zero, List.set_cons_succ, i64_w, i32_w]
      rfl
    refine pure_ (i := 6) (N := some 66) (v := ?_) (a' := ?_) #[true, true, true, true, true, true, true, false, false, false, false, false, false, false] rfl rfl (by kernel_rfl) (fun _ _ _ h => h) (Or.inl ⟨by rfl, ?_⟩) ?_ ?_
    rotate_left
    · intro w'
      go_simp
      with_reducible rfl
    rotate_left
    · simp only [Act.put, List.setIfInBounds_toArray, List.set_cons_zero, List.set_cons_succ, i64_w, i32_w]
      rfl
    refine pure_ (i := 7) (N := some 67) (v := ?_) (a' := ?_) #[true, true, true, true, true, true, true, true, false, false, false, false, false, false] rfl rfl (by kernel_rfl) (fun _ _ _ h => h) (Or.inl ⟨by rfl, ?_⟩) ?_ ?_
    rotate_left
    · intro w'
      go_simp
      with_reducible rfl
    rotate_left
    · simp only [Act.put, List.setIfInBounds_toArray, List.set_cons_zero, List.set_cons_succ, i64_w, i32_w]
      rfl
    refine take_ (i := 8) (N := some 68) (v := ?_) (a' := ?_) #[true, true, true, true, true, true, true, true, true, false, false, false, false, false] rfl rfl (by kernel_rfl) (fun _ _ _ h => h) (Or.inl ⟨by rfl, ?_⟩) hHeld ?_ ?_
    rotate_left
    · rintro w' ⟨s0, s1, s2, s3, s4⟩
      go_simp
      with_reducible rfl
    rotate_left
    · simp only [Act.put, List.setIfInBounds_toArray, List.set_cons_zero, List.set_cons_succ, i64_w, i32_w]
      rfl
    have HWd := Aside0.mk (below_drew (Below.refl wx.heap.size wx))
    refine one_ (i := 9) (N := some 69) #[true, true, true, true, true, true, true, true, true, true, false, false, false, false] rfl rfl (by kernel_rfl) (by decide) (fun K hK => ?_)
    refine lit1_step (cs := doC ⟨o.f0, o.f1, o.f2, t⟩ B d) (t := 121) (by rfl) (by first | (go_simp; done) | (go_simp; rfl)) ?_
    intro g2 w1 HG1 HG2 HB10 HG10
    have HW1 := Aside0.mk (below_then HWd.out HWd.out.size HB10.out)
    refine hK.out _ _ (HSS.out _ HW1.out) (fun _ => ?_)
    clear hK K
    refine norm_ (a' := ?_) ?_ ?_
    rotate_left
    · show Act.put _ (some 69) _ = _
      simp only [Act.put, List.setIfInBounds_toArray, List.set_cons_zero, List.set_cons_succ, i64_w, i32_w]
      rfl
    have HB1 := Aside0.mk (below_then HBX.out HBX.out.size HW1.out)
    obtain ⟨v2, w2, hap, hv2, hg2⟩ := run_append_clipO (ok := ok) (okx := ok) (okp := ok) w1 111 A cut ⟨o.f0, o.f1, o.f2, t⟩ (doC ⟨o.f0, o.f1, o.f2, t⟩ B d) g2 (fun k hk => HOK.out k (by have := HB1.out.size; have := HSZ.out; omega)) (Kd.F_below (Kd.V_F HPT.out) HB1.out) (k123_mkF w1 ok _ (by show t.length ≤ d; omega) (Kd.F_below HFt.out HB1.out)) (fun _ h => h) (fun _ h => h) HG2.out (by have := HLen.out; omega)
    obtain ⟨A3, c3, rfl⟩ := Kd.V_slice hv2
    have HV2 := Aside0.mk hv2
    have HG3 := Aside0.mk hg2
    clear hv2 hg2
    refine one_ (i := 10) (N := some 70) #[true, true, true, true, true, true, true, true, true, true, true, false, false, false] rfl rfl (by kernel_rfl) (by decide) (fun K hK => ?_)
    refine event_step (v := .slice A3 (cut ++ [(⟨o.f0, o.f1, o.f2, t⟩ : S123)]).length c3) (w1 := w2) (by rfl) ?_ ?_
    · simp [execOp, resolve, invoke, builtin, Act.eval, hap, Result.andThen]
    have HW2 := Aside0.mk (below_then HW1.out HW1.out.size (show Below w1.heap.size w1 w2 from ⟨HG3.out.os, HG3.out.tape, HG3.out.output, HG3.out.size, fun k hk => HG3.out.block k hk (by simp)⟩))
    refine hK.out _ _ (HSS.out _ HW2.out) (fun _ => ?_)
    clear hK K hap
    refine norm_ (a' := ?_) ?_ ?_
    rotate_left
    · show Act.put _ (some 70) _ = _
      simp only [Act.put, List.setIfInBounds_toArray, List.set_cons_zero, List.set_cons_succ, i64_w, i32_w]
      rfl
    refine pure_ (i := 11) (N := some 71) (v := ?_) (a' := ?_) #[true, true, true, true, true, true, true, true, true, true, true, true, false, false] rfl rfl (by kernel_rfl) (fun _ _ _ h => h) (Or.inl ⟨by rfl, ?_⟩) ?_ ?_
    rotate_left
    · intro w'
      go_simp
      with_reducible rfl
    rotate_left
    · simp only [Act.put, List.setIfInBounds_toArray, List.set_cons_zero, List.set_cons_succ, i64_w, i32_w]
      rfl
    refine pure_ (i := 12) (N := some 72) (v := ?_) (a' := ?_) #[true, true, true, true, true, true, true, true, true, true, true, true, true, false] rfl rfl (by kernel_rfl) (fun _ _ _ h => h) (Or.inl ⟨by rfl, ?_⟩) ?_ ?_
    rotate_left
    · intro w'
      go_simp
      with_reducible rfl
    rotate_left
    · simp only [Act.put, List.setIfInBounds_toArray, List.set_cons_zero, List.set_cons_succ, i64_w, i32_w]
      rfl
    refine last_ (i := 13) (N := none) #[true, true, true, true, true, true, true, true, true, true, true, true, true, true] rfl rfl (by kernel_rfl) (by decide) (fun K hK => ?_)
    have hgk := (HW2.out.block _ (blk_lt HGX.out)).trans HGX.out
    have hy1 : w2.cell? ⟨g, 1, none⟩ = some (.slice A cut.length c) := (blk_cell hgk 1).trans rfl
    have hfy := blk_frozen hgk 1
    have HGK := Aside0.mk hgk
    clear hgk
    refine skip_ (w1 := ?_) (by rfl) rfl ?_ ?_
    rotate_left
    · go_simp
      rfl
    refine hK.out _ _ ?_
    clear hK K
    refine done_ (by kernel_rfl) ?_
    have HB2 := Aside0.mk (below_then HBX.out HBX.out.size HW2.out)
    obtain ⟨x, hx⟩ : ∃ x : S123, x = ⟨o.f0, o.f1, o.f2, t⟩ := ⟨_, rfl⟩
    have HX := Aside0.mk hx
    rw [← hx] at HV2 HT3 ⊢
    rw [HT3.out]
    have hx3 : x.f3 = t := by rw [hx]
    have hxn : x.f1.size ≤ maxLen ∧ x.f2.size ≤ maxLen := by rw [hx]; exact HNm.out
    clear hx
    have hs3 : (w2.setCell ⟨g, 1, none⟩ (.slice A3 (cut ++ [x]).length c3)).heap.size = w2.heap.size := by simp [World.setCell]
    have hby3 : byO (cut ++ [x]) = byO cut + t.length := by simp [byO, hx3]
    have hmp := (HMap.out.move HB2.out).far (p := ⟨g, 1, none⟩) (MP.ne_cells HMap.out (HB2.out.block _ HMap.out.lt) HGK.out) HOff.out (.slice A3 (cut ++ [x]).length c3)
    have HR := Aside0.mk (show DiskR (w2.setCell ⟨g, 1, none⟩ (.slice A3 (cut ++ [x]).length c3)) ok g b n l A3 c3 (cut ++ [x]) from ⟨blk_put (cs := #[.map (some b), .slice A cut.length c]) HGK.out 1 _ rfl, hmp, Kd.V_far HV2.out (p := ⟨g, 1, none⟩) HOff.out _, HOff.out, by
      intro y hy
      rcases List.mem_append.1 hy with h | h
      · exact HNmc.out y h
      · rw [List.mem_singleton.1 h]; exact hxn⟩)
    have HSy := Aside0.mk (dsyncR_calls ok g b n l A3 c3 (cut ++ [x]) _ (fun k hk => HOK.out k (by have h1 := HB2.out.size; have h2 := HSZ.out; omega)) HR.out (by rw [List.length_append, List.length_singleton]; have := HLen.out; omega) (by have := HBC.out; omega))
    have HGR := Aside0.mk (show w.grownBy (w2.setCell ⟨g, 1, none⟩ (.slice A3 (cut ++ [x]).length c3)) (some g) from grown_then HGS.out (grown_then ⟨HB2.out.os, HB2.out.tape, HB2.out.output, HB2.out.size, fun k hk _ => HB2.out.block k hk⟩ (grown_set w2 g 1 _)))
    have HBack := Aside0.mk (fun (w4 : World) (h : _) => crash_back (ok := ok) (m := n + ops.length) (l := dviewL l (cut ++ [x])) (e := .returned (.tuple #[])) (w' := w4) HGR.out (show n + (cut ++ [x]).length ≤ n + ops.length by rw [List.length_append, List.length_singleton]; have := HLen.out; omega) h)
    clear hs3 hby3 hmp hxn hx3
    have hl3 : (cut ++ [x]).length = cut.length + 1 := by simp
    rw [hl3] at HSy HBack
    clear hl3
    go_wp2_with (first | (go_at_call 55; with_reducible refine HSy.out.mono ?_; rintro e w4 h4; obtain rfl := h4.1; have H4 := Aside0.mk h4; clear h4) | fail)
    go_end0
    have hh := HBack.out _ H4.out
    rw [← HT3.out] at hh
    exact hh
  · have HE := Aside0.mk (show dcrashL l ops keep torn = dviewL l cut by
      rw [HCR.out]
      split
      · rename_i h1
        rw [if_neg (fun h2 => hq ⟨h1, h2.1, fun _ => h2.2⟩)]
      · rfl)
    rw [HE.out]
    have HBack := Aside0.mk (fun (w2 : World) (h : _) => crash_back (ok := ok) (m := n + ops.length) (l := dviewL l cut) (e := .returned (.tuple #[])) (w' := w2) (grown_set w g 1 (.slice A cut.length c)) (show n + cut.length ≤ n + ops.length by have := HLen.out; omega) h)
    by_cases hkn : K0 < ops.length
    · obtain ⟨h0, hg0⟩ := HGet.out hkn
      obtain ⟨ad, B, d, rfl, hc0, hc1, hc2, hc3, hd, hCd⟩ := CO.at_ HCr.out 0 h0
      have HQ := Aside0.mk (show ¬ (0 < torn ∧ (rest[0]'h0).f0 = 0) from fun h => hq ⟨hkn, h.1, fun _ => by rw [hg0]; exact h.2⟩)
      obtain ⟨o, ho⟩ : ∃ o, o = rest[0] := ⟨_, rfl⟩
      have e0 : ad.add (0 * 4) = ad := by cases ad; simp [Addr.add]
      rw [e0] at hc0 hc1 hc2 hc3
      rw [← ho] at hc0 hc1 hc2 hc3 hd HQ
      clear e0
      clear hCd hg0 ho hq
      by_cases hk0 : o.f0 = 0
      · have hkb : (o.f0 == 0) = true := by simpa using hk0
        have ht : ¬ 0 < torn := fun h => HQ.out ⟨h, hk0⟩
        clear hk0
        go_enter Try.func49, Try.ntmps49
        go_wp2_with (first | (go_at_call 55; with_reducible refine HSy.out.mono ?_; rintro e w2 h2; obtain rfl := h2.1; have H2 := Aside0.mk h2; clear h2) | fail)
        go_end0
        exact HBack.out _ H2.out
      · have hkb : (o.f0 == 0) = false := by simpa using hk0
        clear hk0
        go_enter Try.func49, Try.ntmps49
        go_wp2_with (first | (go_at_call 55; with_reducible refine HSy.out.mono ?_; rintro e w2 h2; obtain rfl := h2.1; have H2 := Aside0.mk h2; clear h2) | fail)
        go_end0
        exact HBack.out _ H2.out
    · have hr0 : ¬ 0 < rest.length := by have := HLR.out; omega
      clear hq
      go_enter Try.func49, Try.ntmps49
      go_wp2_with (first | (go_at_call 55; with_reducible refine HSy.out.mono ?_; rintro e w2 h2; obtain rfl := h2.1; have H2 := Aside0.mk h2; clear h2) | fail)
      go_end0
      exact HBack.out _ H2.out
end Go.Proofs.Ytfaniohoplbdoaa.My
/- Crash of a disk; the reference's operations, each with the blocks that it lives in. -/
namespace Go.Proofs.Ytfaniohoplbdoaa.My
open Go Go.RowKit Go.Proofs.YtfaniohoplbdoaaW.PrintWords Go.Proofs.YtfaniohoplbdoaaW.PrintLast Go.Proofs.YtfaniohoplbdoaaW.PrintMore Go.Proofs.Ytfaniohoplbdoaa.PDiskActs
set_option linter.unusedVariables false
set_option linter.unusedSimpArgs false
theorem sCrash (w : World) (S : Nat → Prop) (g n : Nat) (l : List S109) (ops : List S123) (keep torn : Int) (h : DSt w S g l ops n) (hz : Sz l ops n) :
    Calls Try.prog 49 #[.pointer (some ⟨g, 0, none⟩), .int .i64 keep, .int .i64 torn] w (DPost w S g (crashL l ops keep torn) [] (n + ops.length) (.tuple #[])) := by
  have hs := h.srt
  obtain ⟨ok, b, A, c, hD, hf, hg, hb, hok, hlt, ho⟩ := h
  obtain ⟨z1, z2, z3⟩ := hz
  rw [← dcrash_crash keep torn hs ho]
  refine (dcrash_calls ok g b n l A c ops keep torn w hf hD (by unfold maxLen; omega) (by omega) (by omega)).mono fun e w' ⟨he, b', hD', hbb, hw⟩ => ?_
  have hlt' := hD'.mapN.lt
  have := DSt.of_sync hf hg hok hlt hbb hlt' _ (fun k hk => hk.1) (fun k hk => ⟨hf k (Nat.le_trans hw.size hk), by omega⟩) hD' hw
  exact ⟨he, this.1, this.2⟩
theorem XSt.made {w w' : World} {ok T : Nat → Prop} {u v : Value} {l : List S109} {ops : List S123} (hu : VF w' ok u l) (hv : VO w' ok v ops) (hB : Below w.heap.size w w') (hf : ∀ k, w.heap.size ≤ k → ok k) (hok : ∀ k, ok k → k < w.heap.size → T k) : XSt w' (ext T w w') u v l ops := by
  refine ⟨ok, hu, hv, fun k hk => hf k (Nat.le_trans hB.size hk), fun k hk hl => ⟨?_, hl⟩, ext_lt⟩
  by_cases h : k < w.heap.size
  · exact .inl (hok k hk h)
  · exact .inr (by omega)
abbrev XPost (w : World) (T : Nat → Prop) (l : List S109) (ops : List S123) (mk : Value → Value → Value) : Ending → World → Prop := fun e w' => ∃ u v, e = .returned (mk u v) ∧ XSt w' (ext T w w') u v l ops ∧ Below w.heap.size w w'
section
variable (w : World) (T : Nat → Prop) (A : Option Addr) (c : Nat) (A' : Option Addr) (c' n : Nat) (l : List S109) (ops : List S123) (h : XSt w T (.slice A l.length c) (.slice A' ops.length c') l ops) (hz : Sz l ops n)
include h hz
theorem xAppend (nm : ByteArray) (B : Option Addr) (d : Nat) (y : List Int) (hm : nm.size ≤ maxLen) (hd : y.length ≤ d) (hC : CB w B y) (hyl : y.length ≤ 140737488351232) :
    Calls Try.prog 82 #[dkV A l.length c A' ops.length c', .string nm, .slice B y.length d] w (XPost w T l (appendL ops nm y).1 fun u v => .tuple #[.agg #[u, v], .int .i64 (appendL ops nm y).2]) := by
  obtain ⟨ok, hu, hv, hf, hok, hlt⟩ := h
  obtain ⟨z1, z2, z3⟩ := hz
  refine (append_calls ok A c l A' c' ops nm B d y w hf hu hv (by omega) (by omega) (by unfold maxLen at hm; omega) hd hC hyl).mono fun e w' ⟨⟨u, v, he, hu', hv'⟩, hB⟩ => ?_
  exact ⟨u, v, he, XSt.made hu' hv' hB hf hok, hB⟩
theorem xRemove (nm : ByteArray) : Calls Try.prog 81 #[dkV A l.length c A' ops.length c', .string nm] w (XPost w T l (removeL l ops nm).1 fun u v => .tuple #[.agg #[u, v], .int .i64 (removeL l ops nm).2]) := by
  obtain ⟨ok, hu, hv, hf, hok, hlt⟩ := h
  obtain ⟨z1, z2, z3⟩ := hz
  refine (remove_calls ok A c l A' c' ops nm w hf hu hv (by omega) (by omega)).mono fun e w' ⟨⟨u, v, he, hu', hv'⟩, hB⟩ => ?_
  exact ⟨u, v, he, XSt.made hu' hv' hB hf hok, hB⟩
theorem xRename (nm tn : ByteArray) (hm : tn.size ≤ maxLen) : Calls Try.prog 83 #[dkV A l.length c A' ops.length c', .string nm, .string tn] w (XPost w T l (renameL l ops nm tn).1 fun u v => .tuple #[.agg #[u, v], .int .i64 (renameL l ops nm tn).2]) := by
  obtain ⟨ok, hu, hv, hf, hok, hlt⟩ := h
  obtain ⟨z1, z2, z3⟩ := hz
  refine (rename_calls ok A c l A' c' ops nm tn w hf hu hv (by omega) (by omega) (by unfold maxLen at hm; omega)).mono fun e w' ⟨⟨u, v, he, hu', hv'⟩, hB⟩ => ?_
  exact ⟨u, v, he, XSt.made hu' hv' hB hf hok, hB⟩
theorem xSync : Calls Try.prog 48 #[dkV A l.length c A' ops.length c'] w (XPost w T (viewL l ops) [] fun u v => .agg #[u, v]) := by
  obtain ⟨ok, hu, hv, hf, hok, hlt⟩ := h
  obtain ⟨z1, z2, z3⟩ := hz
  refine (sync_calls ok A c l A' c' ops w hf hu (Kd.V_reads' hv).2.2 (by omega) (by omega)).mono fun e w' ⟨⟨u, v, he, hu', hv'⟩, hB⟩ => ?_
  exact ⟨u, v, he, XSt.made hu' hv' hB hf hok, hB⟩
theorem xCrash (keep torn : Int) : Calls Try.prog 50 #[dkV A l.length c A' ops.length c', .int .i64 keep, .int .i64 torn] w (XPost w T (crashL l ops keep torn) [] fun u v => .agg #[u, v]) := by
  obtain ⟨ok, hu, hv, hf, hok, hlt⟩ := h
  obtain ⟨z1, z2, z3⟩ := hz
  refine (crash_calls ok A c l A' c' ops keep torn w hf hu (Kd.V_reads' hv).2.2 (Kd.V_reads' hv).2.1 (by omega) (by omega)).mono fun e w' ⟨⟨u, v, he, hu', hv'⟩, hB⟩ => ?_
  exact ⟨u, v, he, XSt.made hu' hv' hB hf hok, hB⟩
theorem xView : Calls Try.prog 84 #[dkV A l.length c A' ops.length c'] w (SPost w (viewL l ops)) := by
  obtain ⟨ok, hu, hv, hf, hok, hlt⟩ := h
  obtain ⟨z1, z2, z3⟩ := hz
  exact (view_calls ok A c l A' c' ops w hf hu (Kd.V_reads' hv).2.2 (by omega) (by omega)).mono fun e w' h => SPost.of_view h
theorem xRead (nm : ByteArray) : Calls Try.prog 66 #[dkV A l.length c A' ops.length c', .string nm] w (ReadPost w (findL (viewL l ops) nm)) := by
  obtain ⟨ok, hu, hv, hf, hok, hlt⟩ := h
  obtain ⟨z1, z2, z3⟩ := hz
  exact read_calls A c l A' c' ops nm w (Kd.V_reads' hu).2.1 (Kd.V_reads' hu).2.2 (Kd.V_reads' hv).2.2 (by omega) (by omega)
end
/-- What an operation of the statements' does to files and buffered operations. -/
def doL (l : List S109) (ops : List S123) (n : Nat) (o : S82) : List S109 × List S123 × Nat :=
  if o.f0 = 0 then (l, (appendL ops o.f1 o.f3).1, n)
  else if o.f0 = 1 then (l, (removeL l ops o.f1).1, n)
  else if o.f0 = 2 then (l, (renameL l ops o.f1 o.f2).1, n)
  else if o.f0 = 3 then (viewL l ops, [], n + ops.length)
  else (crashL l ops o.f4 o.f5, [], n + ops.length)
abbrev opV (o : S82) (B : Option Addr) (d : Nat) : Value := .agg #[.int .i64 o.f0, .string o.f1, .string o.f2, .slice B o.f3.length d, .int .i64 o.f4, .int .i64 o.f5]
abbrev opC (o : S82) (B : Option Addr) (d : Nat) : Array Value := #[.int .i64 o.f0, .string o.f1, .string o.f2, .slice B o.f3.length d, .int .i64 o.f4, .int .i64 o.f5]
abbrev DoPost (w : World) (S T : Nat → Prop) (g : Nat) (r : List S109 × List S123 × Nat) : Ending → World → Prop := fun e w' => ∃ (S' T' : Nat → Prop) (u v : Value), e = .returned (.tuple #[.agg #[u, v], .bool true]) ∧ DSt w' S' g r.1 r.2.1 r.2.2 ∧ XSt w' T' u v r.1 r.2.1 ∧ (∀ k, S' k → ¬ T' k) ∧ (∀ k, S' k → S k ∨ w.heap.size ≤ k) ∧ (∀ k, T' k → T k ∨ w.heap.size ≤ k) ∧ Wr w w' S
theorem wr_set2 (w : World) (b : Nat) (x y : Value) : Wr w ((w.setCell ⟨b, 0, none⟩ x).setCell ⟨b, 1, none⟩ y) (fun k => k = b) :=
  ⟨rfl, rfl, rfl, by simp [World.setCell], fun k hk hn => by rw [Below.heap_setCell _ ⟨b, 1, none⟩ _ k hn, Below.heap_setCell _ ⟨b, 0, none⟩ _ k hn]⟩
/-- The reference first, then the disk. -/
theorem do_fin {w w0 w2 w3 w4 : World} {S T : Nat → Prop} {g b n : Nat} {l : List S109} {ops : List S123} {u v : Value} (x y : Value) (hS : ∀ k, S k → k < w.heap.size) (hT : ∀ k, T k → k < w.heap.size) (hd : ∀ k, S k → ¬ T k) (h0 : Below w.heap.size w w0) (hb : w.heap.size ≤ b) (hb0 : b < w0.heap.size)
    (h2 : Below w0.heap.size w0 w2) (hX : XSt w2 (ext T w0 w2) u v l ops) (h3 : Below w2.heap.size w2 w3) (hD : DSt w4 (ext S w3 w4) g l ops n) (h4 : Wr w3 w4 S) :
    DoPost w S T g (l, ops, n) (.returned (.tuple #[.agg #[u, v], .bool true])) ((w4.setCell ⟨b, 0, none⟩ x).setCell ⟨b, 1, none⟩ y) := by
  have s0 := h0.size
  have s2 := h2.size
  have s3 := h3.size
  have s4 := h4.size
  have hw := wr_set2 w4 b x y
  refine ⟨ext S w3 w4, ext T w0 w2, u, v, rfl, hD.off hw (fun k hk e => ?_), ((hX.move h3).off h4 (fun k hk e => ?_)).off hw (fun k hk e => ?_), fun k hk hk2 => ?_, fun k hk => ?_, fun k hk => ?_, ?_⟩
  · rcases hk.1 with h | h
    · have := hS k h; omega
    · omega
  · rcases hk.1 with h | h
    · exact hd k e h
    · have := hS k e; omega
  · rcases hk.1 with h | h
    · have := hT k h; omega
    · omega
  · rcases hk.1 with h | h
    · rcases hk2.1 with h' | h'
      · exact hd k h h'
      · have := hS k h; omega
    · have := hk2.2; omega
  · rcases hk.1 with h | h
    · exact .inl h
    · exact .inr (by omega)
  · rcases hk.1 with h | h
    · exact .inl h
    · exact .inr (by omega)
  · exact (((((Wr.of_below S h0).trans (Wr.of_below S h2) (fun k h => .inl h)).trans (Wr.of_below S h3) (fun k h => .inl h)).trans h4 (fun k h => .inl h))).trans hw (fun k h => .inr (by omega))
/-- The disk first, then the reference. -/
theorem do_fin2 {w w0 w2 w4 : World} {S T : Nat → Prop} {g b n : Nat} {l : List S109} {ops : List S123} {u v : Value} (x y : Value) (hS : ∀ k, S k → k < w.heap.size) (hT : ∀ k, T k → k < w.heap.size) (hd : ∀ k, S k → ¬ T k) (h0 : Below w.heap.size w w0) (hb : w.heap.size ≤ b) (hb0 : b < w0.heap.size)
    (h2 : Wr w0 w2 S) (hD : DSt w2 (ext S w0 w2) g l ops n) (hX : XSt w4 (ext T w2 w4) u v l ops) (h4 : Below w2.heap.size w2 w4) :
    DoPost w S T g (l, ops, n) (.returned (.tuple #[.agg #[u, v], .bool true])) ((w4.setCell ⟨b, 0, none⟩ x).setCell ⟨b, 1, none⟩ y) := by
  have s0 := h0.size
  have s2 := h2.size
  have s4 := h4.size
  have hw := wr_set2 w4 b x y
  refine ⟨ext S w0 w2, ext T w2 w4, u, v, rfl, (hD.move h4).off hw (fun k hk e => ?_), hX.off hw (fun k hk e => ?_), fun k hk hk2 => ?_, fun k hk => ?_, fun k hk => ?_, ?_⟩
  · rcases hk.1 with h | h
    · have := hS k h; omega
    · omega
  · rcases hk.1 with h | h
    · have := hT k h; omega
    · omega
  · rcases hk.1 with h | h
    · rcases hk2.1 with h' | h'
      · exact hd k h h'
      · have := hS k h; omega
    · rcases hk2.1 with h' | h'
      · have := hT k h'; omega
      · have := hk.2; omega
  · rcases hk.1 with h | h
    · exact .inl h
    · exact .inr (by omega)
  · rcases hk.1 with h | h
    · exact .inl h
    · exact .inr (by omega)
  · exact ((((Wr.of_below S h0).trans h2 (fun k h => .inl h)).trans (Wr.of_below S h4) (fun k h => .inl h))).trans hw (fun k h => .inr (by omega))
end Go.Proofs.Ytfaniohoplbdoaa.My
/- law34.do. -/
namespace Go.Proofs.Ytfaniohoplbdoaa.My
open Go Go.RowKit Go.Proofs.YtfaniohoplbdoaaW.PrintWords Go.Proofs.YtfaniohoplbdoaaW.PrintLast Go.Proofs.YtfaniohoplbdoaaW.PrintMore Go.Proofs.Ytfaniohoplbdoaa.PDiskActs
set_option linter.unusedVariables false
set_option linter.unusedSimpArgs false
set_option maxHeartbeats 4000000 in
set_option maxRecDepth 100000 in
theorem do_calls (w : World) (S T : Nat → Prop) (g n : Nat) (l : List S109) (ops : List S123) (A : Option Addr) (c : Nat) (A' : Option Addr) (c' : Nat) (o : S82) (B : Option Addr) (d : Nat) (hD : DSt w S g l ops n) (hX : XSt w T (.slice A l.length c) (.slice A' ops.length c') l ops) (hz : Sz l ops n)
    (hdis : ∀ k, S k → ¬ T k) (hC : CB w B o.f3) (hd : o.f3.length ≤ d) (hy : o.f3.length ≤ 140737488351232) (hm1 : o.f1.size ≤ maxLen) (hm2 : o.f2.size ≤ maxLen) :
    Calls Try.prog 65 #[.pointer (some ⟨g, 0, none⟩), dkV A l.length c A' ops.length c', opV o B d] w (DoPost w S T g (doL l ops n o)) := by
  have hS := hD.lt
  have hT := hX.lt
  obtain ⟨wb, hwb⟩ : ∃ wb, wb = ((w.alloc (.cells #[.slice A l.length c, .slice A' ops.length c'] 53)).alloc (.cells (opC o B d) 82)).alloc dk2 := ⟨_, rfl⟩
  have hW : Below w.heap.size w wb := by rw [hwb]; exact below_alloc (below_alloc (below_alloc (Below.refl _ _) _) _) _
  have hsz : wb.heap.size = w.heap.size + 1 + 1 + 1 := by rw [hwb, alloc_size, alloc_size, alloc_size]
  have hb2 : wb.heap[w.heap.size + 1 + 1]? = some dk2 := by
    have := blk_new ((w.alloc (.cells #[.slice A l.length c, .slice A' ops.length c'] 53)).alloc (.cells (opC o B d) 82)) dk2
    rw [alloc_size, alloc_size] at this
    rw [hwb]; exact this
  have hb1 : wb.heap[w.heap.size + 1]? = some (.cells (opC o B d) 82 (0, 0)) := by
    have := blk_new (w.alloc (.cells #[.slice A l.length c, .slice A' ops.length c'] 53)) (.cells (opC o B d) 82)
    rw [alloc_size] at this
    rw [hwb]
    exact (Below.heap_alloc _ _ _ (by rw [alloc_size, alloc_size]; omega)).trans this
  have hb0 : wb.heap[w.heap.size]? = some (.cells #[.slice A l.length c, .slice A' ops.length c'] 53 (0, 0)) := by
    have := blk_new w (.cells #[.slice A l.length c, .slice A' ops.length c'] 53)
    rw [hwb]
    exact (Below.heap_alloc _ _ _ (by rw [alloc_size, alloc_size]; omega)).trans ((Below.heap_alloc _ _ _ (by rw [alloc_size]; omega)).trans this)
  have HDb := Aside0.mk (hD.move hW)
  have HXb := Aside0.mk (hX.move hW)
  have HCb := Aside0.mk (Kd.C_below hC hW)
  -- a world in which nothing but the disk's blocks was written
  have HK := Aside0.mk (fun (W : World) (hB : Wr wb W S) => (⟨(hB.2.2.2.2 _ (by omega) (fun h => by have := hS _ h; omega)).trans hb0, (hB.2.2.2.2 _ (by omega) (fun h => by have := hS _ h; omega)).trans hb1, (hB.2.2.2.2 _ (by omega) (fun h => by have := hS _ h; omega)).trans hb2⟩ : W.heap[w.heap.size]? = some (.cells #[.slice A l.length c, .slice A' ops.length c'] 53 (0, 0)) ∧ W.heap[w.heap.size + 1]? = some (.cells (opC o B d) 82 (0, 0)) ∧ W.heap[w.heap.size + 1 + 1]? = some dk2))
  have HWW := Aside0.mk hW
  have HWB := Aside0.mk hwb
  have HSZ := Aside0.mk hsz
  have HS := Aside0.mk hS
  have HT := Aside0.mk hT
  have HDis := Aside0.mk hdis
  have HZ := Aside0.mk hz
  obtain ⟨⟨q0, q1⟩, q2, q3⟩ : ((wb.cell? ⟨w.heap.size, 0, none⟩ = some (.slice A l.length c) ∧ wb.cell? ⟨w.heap.size, 1, none⟩ = some (.slice A' ops.length c')) ∧ wb.cell? ⟨w.heap.size + 1, 0, none⟩ = some (.int .i64 o.f0) ∧ wb.cell? ⟨w.heap.size + 1, 1, none⟩ = some (.string o.f1)) := ⟨⟨(blk_cell hb0 0).trans rfl, (blk_cell hb0 1).trans rfl⟩, (blk_cell hb1 0).trans rfl, (blk_cell hb1 1).trans rfl⟩
  obtain ⟨q4, q5, q6, q7⟩ : (wb.cell? ⟨w.heap.size + 1, 2, none⟩ = some (.string o.f2) ∧ wb.cell? ⟨w.heap.size + 1, 3, none⟩ = some (.slice B o.f3.length d) ∧ wb.cell? ⟨w.heap.size + 1, 4, none⟩ = some (.int .i64 o.f4) ∧ wb.cell? ⟨w.heap.size + 1, 5, none⟩ = some (.int .i64 o.f5)) := ⟨(blk_cell hb1 2).trans rfl, (blk_cell hb1 3).trans rfl, (blk_cell hb1 4).trans rfl, (blk_cell hb1 5).trans rfl⟩
  have hlt0 := blk_lt hb0
  have hlt1 := blk_lt hb1
  have hlt2 := blk_lt hb2
  have hu53 := Try.underlying53
  have hu82 := Try.underlying82
  clear hD hX hz hdis hC hS hT hwb hW hsz hb0 hb1 hb2
  by_cases h0 : o.f0 = 0
  · have h0b : (o.f0 == 0) = true := by simpa using h0
    have HR := Aside0.mk (show doL l ops n o = (l, (appendL ops o.f1 o.f3).1, n) by unfold doL; rw [if_pos h0])
    rw [HR.out]
    have HX1 := Aside0.mk (xAppend wb T A c A' c' n l ops HXb.out HZ.out o.f1 B d o.f3 hm1 hd HCb.out hy)
    obtain ⟨r, hr⟩ : ∃ r, r = appendL ops o.f1 o.f3 := ⟨_, rfl⟩
    rw [← hr] at HX1 HR ⊢
    have HRe := Aside0.mk hr.symm
    clear hr
    clear h0
    go_enter Try.func65, Try.ntmps65
    go_wp2_with (first | (go_at_call 82; rw [← HWB.out]; with_reducible refine HX1.out.mono ?_; rintro e w2 ⟨u, v, rfl, hX2, hB2⟩; obtain ⟨A2, c2, A3, c3, rfl, rfl⟩ := hX2.slices; have HX2 := Aside0.mk hX2; have HB2 := Aside0.mk hB2; clear hX2 hB2) | fail)
    obtain ⟨wx, hwx⟩ : ∃ wx, wx = w2.alloc (.cells #[.slice A2 l.length c2, .slice A3 r.1.length c3] 53) := ⟨_, rfl⟩
    have hBx : Below w2.heap.size w2 wx := by rw [hwx]; exact below_alloc (Below.refl _ _) _
    have hbx : wx.heap[w2.heap.size]? = some (.cells #[.slice A2 l.length c2, .slice A3 r.1.length c3] 53 (0, 0)) := by rw [hwx]; exact blk_new _ _
    rw [← hwx]
    have HBX := Aside0.mk hbx
    have HBx := Aside0.mk hBx
    have hs2 := HB2.out.size
    have HXLt := Aside0.mk (blk_lt hbx)
    have HWx := Aside0.mk ((Wr.of_below S HB2.out).trans (Wr.of_below S hBx) (fun k h => .inl h))
    clear hwx hBx hbx q0 q1 q2 q3 q4 q5 q6 q7
    have HSS := Aside0.mk (fun (W : World) (hg : W.heap[w2.heap.size]? = some (.cells #[.slice A2 l.length c2, .slice A3 r.1.length c3] 53 (0, 0))) (hk : W.heap[w.heap.size + 1]? = some (.cells (opC o B d) 82 (0, 0))) => (⟨(blk_cell hg 0).trans rfl, (blk_cell hg 1).trans rfl, (blk_cell hk 1).trans rfl, (blk_cell hk 3).trans rfl⟩ : W.cell? ⟨w2.heap.size, 0, none⟩ = some (.slice A2 l.length c2) ∧ W.cell? ⟨w2.heap.size, 1, none⟩ = some (.slice A3 r.1.length c3) ∧ W.cell? ⟨w.heap.size + 1, 1, none⟩ = some (.string o.f1) ∧ W.cell? ⟨w.heap.size + 1, 3, none⟩ = some (.slice B o.f3.length d)))
    have HGW := Aside0.mk (fun (W : World) (hB : Wr wx W S) => (hB.2.2.2.2 _ HXLt.out (fun h => by have := HS.out _ h; have := HWW.out.size; omega)).trans HBX.out)
    have HKW := Aside0.mk (fun (W : World) (hB : Wr wx W S) => HK.out W (HWx.out.trans hB (fun k h => .inl h)))
    refine start_ (n := 11) (S := fun W => W.cell? ⟨w2.heap.size, 0, none⟩ = some (.slice A2 l.length c2) ∧ W.cell? ⟨w2.heap.size, 1, none⟩ = some (.slice A3 r.1.length c3) ∧ W.cell? ⟨w.heap.size + 1, 1, none⟩ = some (.string o.f1) ∧ W.cell? ⟨w.heap.size + 1, 3, none⟩ = some (.slice B o.f3.length d)) (ds := []) #[false, false, false, false, false, false, false, false, false, false, false] (by kernel_rfl) rfl rfl ?_ (fun hHeld => ?_)
    · have hB := Wr.of_below S (below_drew (Below.refl wx.heap.size wx))
      exact HSS.out _ (HGW.out _ hB) (HKW.out _ hB).2.1
    refine take_ (i := 0) (N := some 27) (v := ?_) (a' := ?_) #[true, false, false, false, false, false, false, false, false, false, false] rfl rfl (by kernel_rfl) (fun _ _ _ h => h) (Or.inl ⟨by rfl, ?_⟩) hHeld ?_ ?_
    rotate_left
    · rintro w' ⟨s0, s1, s2, s3⟩
      go_simp
      with_reducible rfl
    rotate_left
    · simp only [Act.put, List.setIfInBounds_toArray, List.set_cons_zero, List.set_cons_succ, i64_w, i32_w]
      rfl
    refine pure_ (i := 1) (N := some 28) (v := ?_) (a' := ?_) #[true, true, false, false, false, false, false, false, false, false, false] rfl rfl (by kernel_rfl) (fun _ _ _ h => h) (Or.inl ⟨by rfl, ?_⟩) ?_ ?_
    rotate_left
    · intro w'
      go_simp
      with_reducible rfl
    rotate_left
    · simp only [Act.put, List.setIfInBounds_toArray, List.set_cons_zero, List.set_cons_succ, i64_w, i32_w]
      rfl
    refine pure_ (i := 2) (N := some 29) (v := ?_) (a' := ?_) #[true, true, true, false, false, false, false, false, false, false, false] rfl rfl (by kernel_rfl) (fun _ _ _ h => h) (Or.inl ⟨by rfl, ?_⟩) ?_ ?_
    rotate_left
    · intro w'
      go_simp
      with_reducible rfl
    rotate_left
    · simp only [Act.put, List.setIfInBounds_toArray, List.set_cons_zero, List.set_cons_succ, i64_w, i32_w]
      rfl
    refine take_ (i := 3) (N := some 30) (v := ?_) (a' := ?_) #[true, true, true, true, false, false, false, false, false, false, false] rfl rfl (by kernel_rfl) (fun _ _ _ h => h) (Or.inl ⟨by rfl, ?_⟩) hHeld ?_ ?_
    rotate_left
    · rintro w' ⟨s0, s1, s2, s3⟩
      go_simp
      with_reducible rfl
    rotate_left
    · simp only [Act.put, List.setIfInBounds_toArray, List.set_cons_zero, List.set_cons_succ, i64_w, i32_w]
      rfl
    refine pure_ (i := 4) (N := some 31) (v := ?_) (a' := ?_) #[true, true, true, true, true, false, false, false, false, false, false] rfl rfl (by kernel_rfl) (fun _ _ _ h => h) (Or.inl ⟨by rfl, ?_⟩) ?_ ?_
    rotate_left
    · intro w'
      go_simp
      with_reducible rfl
    rotate_left
    · simp only [Act.put, List.setIfInBounds_toArray, List.set_cons_zero, List.set_cons_succ, i64_w, i32_w]
      rfl
    refine take_ (i := 5) (N := some 32) (v := ?_) (a' := ?_) #[true, true, true, true, true, true, false, false, false, false, false] rfl rfl (by kernel_rfl) (fun _ _ _ h => h) (Or.inl ⟨by rfl, ?_⟩) hHeld ?_ ?_
    rotate_left
    · rintro w' ⟨s0, s1, s2, s3⟩
      go_simp
      with_reducible rfl
    rotate_left
    · simp only [Act.put, List.setIfInBounds_toArray, List.set_cons_zero, List.set_cons_succ, i64_w, i32_w]
      rfl
    refine pure_ (i := 7) (N := some 34) (v := ?_) (a' := ?_) #[true, true, true, true, true, true, false, true, false, false, false] rfl rfl (by kernel_rfl) (fun _ _ _ h => h) (Or.inl ⟨by rfl, ?_⟩) ?_ ?_
    rotate_left
    · intro w'
      go_simp
      with_reducible rfl
    rotate_left
    · simp only [Act.put, List.setIfInBounds_toArray, List.set_cons_zero, List.set_cons_succ, i64_w, i32_w]
      rfl
    have HBd := Aside0.mk (below_drew (Below.refl wx.heap.size wx))
    have HB3 := Aside0.mk (below_then HBx.out HBx.out.size HBd.out)
    have HB5 := Aside0.mk (below_then HB2.out HB2.out.size HB3.out)
    refine one_ (i := 6) (N := some 33) #[true, true, true, true, true, true, true, true, false, false, false] rfl rfl (by kernel_rfl) (by decide) (fun K hK => ?_)
    refine goes_ Try.func57 (by kernel_rfl) rfl #[.pointer (some ⟨g, 0, none⟩), .string o.f1, .slice B o.f3.length d] (by rfl) rfl rfl (by (try simp only [List.map_toArray, List.map_cons, List.map_nil]); first | done | rfl) ?_
    refine (sAppend wx.drew S g n l ops o.f1 B d o.f3 (HDb.out.move HB5.out) HZ.out (Kd.C_below HCb.out HB5.out) hy hm1).mono ?_
    rw [HRe.out]
    rintro e w4 ⟨rfl, hD4, hW4⟩
    have HD4 := Aside0.mk hD4
    have HW4 := Aside0.mk hW4
    have HWr4 := Aside0.mk ((Wr.of_below S HBd.out).trans hW4 (fun k h => .inl h))
    refine ⟨_, rfl, hK.out _ _ (HSS.out _ (HGW.out _ HWr4.out) (HKW.out _ HWr4.out).2.1) (fun _ => ?_)⟩
    clear hK K hD4 hW4
    refine norm_ (a' := ?_) ?_ ?_
    rotate_left
    · show Act.put _ (some 33) _ = _
      simp only [Act.put, List.setIfInBounds_toArray, List.set_cons_zero, List.set_cons_succ, i64_w, i32_w]
      rfl
    refine pure_ (i := 8) (N := some 35) (v := ?_) (a' := ?_) #[true, true, true, true, true, true, true, true, true, false, false] rfl rfl (by kernel_rfl) (fun _ _ _ h => h) (Or.inl ⟨by rfl, ?_⟩) ?_ ?_
    rotate_left
    · intro w'
      go_simp
      with_reducible rfl
    rotate_left
    · simp only [Act.put, List.setIfInBounds_toArray, List.set_cons_zero, List.set_cons_succ, i64_w, i32_w]
      rfl
    refine one_ (i := 9) (N := none) #[true, true, true, true, true, true, true, true, true, true, false] rfl rfl (by kernel_rfl) (by decide) (fun K hK => ?_)
    have hk4 := HKW.out _ HWr4.out
    have HK4 := Aside0.mk hk4
    have hy0 : w4.cell? ⟨w.heap.size + 1 + 1, 0, none⟩ = some (.slice none 0 0) := (blk_cell hk4.2.2 0).trans rfl
    have hy1 : w4.cell? ⟨w.heap.size + 1 + 1, 1, none⟩ = some (.slice none 0 0) := (blk_cell hk4.2.2 1).trans rfl
    have hf0 := blk_frozen hk4.2.2 0
    have hf1 := blk_frozen hk4.2.2 1
    clear hk4
    refine skip_ (w1 := ?_) (by rfl) rfl ?_ ?_
    rotate_left
    · go_simp
      rfl
    refine hK.out _ _ (HSS.out _ (blk_far (blk_far (HGW.out _ HWr4.out) (p := ⟨w.heap.size + 1 + 1, 0, none⟩) (by show ¬ w2.heap.size = w.heap.size + 1 + 1; have := HSZ.out; omega) _) (p := ⟨w.heap.size + 1 + 1, 1, none⟩) (by show ¬ w2.heap.size = w.heap.size + 1 + 1; have := HSZ.out; omega) _) (blk_far (blk_far HK4.out.2.1 (p := ⟨w.heap.size + 1 + 1, 0, none⟩) (by show ¬ w.heap.size + 1 = w.heap.size + 1 + 1; omega) _) (p := ⟨w.heap.size + 1 + 1, 1, none⟩) (by show ¬ w.heap.size + 1 = w.heap.size + 1 + 1; omega) _)) (fun _ => ?_)
    clear hK K hy0 hy1 hf0 hf1
    refine pure_ (i := 10) (N := some 7) (v := ?_) (a' := ?_) #[true, true, true, true, true, true, true, true, true, true, true] rfl rfl (by kernel_rfl) (fun _ _ _ h => h) (Or.inl ⟨by rfl, ?_⟩) ?_ ?_
    rotate_left
    · intro w'
      go_simp
      with_reducible rfl
    rotate_left
    · simp only [Act.put, List.setIfInBounds_toArray, List.set_cons_zero, List.set_cons_succ, i64_w, i32_w]
      rfl
    refine done_ (by kernel_rfl) ?_
    go_wp2
    refine bodyPost_ret (results_ct rfl _ _ (w.heap.size + 1 + 1) 53 #[.slice A2 l.length c2, .slice A3 r.1.length c3] (0, 0) _ rfl (blk_put2 HK4.out.2.2 _ _) Try.underlying53 rfl (by kernel_rfl)) rfl ?_
    exact do_fin _ _ HS.out HT.out HDis.out HWW.out (by omega) (by have := HSZ.out; omega) HB2.out HX2.out HB3.out HD4.out HW4.out
  have h0b : (o.f0 == 0) = false := by simpa using h0
  by_cases h1 : o.f0 = 1
  · have h1b : (o.f0 == 1) = true := by simpa using h1
    have HR := Aside0.mk (show doL l ops n o = (l, (removeL l ops o.f1).1, n) by unfold doL; rw [if_neg h0, if_pos h1])
    rw [HR.out]
    have HX1 := Aside0.mk (xRemove wb T A c A' c' n l ops HXb.out HZ.out o.f1)
    obtain ⟨r, hr⟩ : ∃ r, r = removeL l ops o.f1 := ⟨_, rfl⟩
    rw [← hr] at HX1 HR ⊢
    have HRe := Aside0.mk hr.symm
    clear hr
    clear h0 h1
    go_enter Try.func65, Try.ntmps65
    go_wp2_with (first | (go_at_call 81; rw [← HWB.out]; with_reducible refine HX1.out.mono ?_; rintro e w2 ⟨u, v, rfl, hX2, hB2⟩; obtain ⟨A2, c2, A3, c3, rfl, rfl⟩ := hX2.slices; have HX2 := Aside0.mk hX2; have HB2 := Aside0.mk hB2; clear hX2 hB2) | fail)
    obtain ⟨wx, hwx⟩ : ∃ wx, wx = w2.alloc (.cells #[.slice A2 l.length c2, .slice A3 r.1.length c3] 53) := ⟨_, rfl⟩
    have hBx : Below w2.heap.size w2 wx := by rw [hwx]; exact below_alloc (Below.refl _ _) _
    have hbx : wx.heap[w2.heap.size]? = some (.cells #[.slice A2 l.length c2, .slice A3 r.1.length c3] 53 (0, 0)) := by rw [hwx]; exact blk_new _ _
    rw [← hwx]
    have HBX := Aside0.mk hbx
    have HBx := Aside0.mk hBx
    have hs2 := HB2.out.size
    have HXLt := Aside0.mk (blk_lt hbx)
    have HWx := Aside0.mk ((Wr.of_below S HB2.out).trans (Wr.of_below S hBx) (fun k h => .inl h))
    clear hwx hBx hbx q0 q1 q2 q3 q4 q5 q6 q7
    have HSS := Aside0.mk (fun (W : World) (hg : W.heap[w2.heap.size]? = some (.cells #[.slice A2 l.length c2, .slice A3 r.1.length c3] 53 (0, 0))) (hk : W.heap[w.heap.size + 1]? = some (.cells (opC o B d) 82 (0, 0))) => (⟨(blk_cell hg 0).trans rfl, (blk_cell hg 1).trans rfl, (blk_cell hk 1).trans rfl⟩ : W.cell? ⟨w2.heap.size, 0, none⟩ = some (.slice A2 l.length c2) ∧ W.cell? ⟨w2.heap.size, 1, none⟩ = some (.slice A3 r.1.length c3) ∧ W.cell? ⟨w.heap.size + 1, 1, none⟩ = some (.string o.f1)))
    have HGW := Aside0.mk (fun (W : World) (hB : Wr wx W S) => (hB.2.2.2.2 _ HXLt.out (fun h => by have := HS.out _ h; have := HWW.out.size; omega)).trans HBX.out)
    have HKW := Aside0.mk (fun (W : World) (hB : Wr wx W S) => HK.out W (HWx.out.trans hB (fun k h => .inl h)))
    refine start_ (n := 9) (S := fun W => W.cell? ⟨w2.heap.size, 0, none⟩ = some (.slice A2 l.length c2) ∧ W.cell? ⟨w2.heap.size, 1, none⟩ = some (.slice A3 r.1.length c3) ∧ W.cell? ⟨w.heap.size + 1, 1, none⟩ = some (.string o.f1)) (ds := []) #[false, false, false, false, false, false, false, false, false] (by kernel_rfl) rfl rfl ?_ (fun hHeld => ?_)
    · have hB := Wr.of_below S (below_drew (Below.refl wx.heap.size wx))
      exact HSS.out _ (HGW.out _ hB) (HKW.out _ hB).2.1
    refine take_ (i := 0) (N := some 45) (v := ?_) (a' := ?_) #[true, false, false, false, false, false, false, false, false] rfl rfl (by kernel_rfl) (fun _ _ _ h => h) (Or.inl ⟨by rfl, ?_⟩) hHeld ?_ ?_
    rotate_left
    · rintro w' ⟨s0, s1, s2⟩
      go_simp
      with_reducible rfl
    rotate_left
    · simp only [Act.put, List.setIfInBounds_toArray, List.set_cons_zero, List.set_cons_succ, i64_w, i32_w]
      rfl
    refine pure_ (i := 1) (N := some 46) (v := ?_) (a' := ?_) #[true, true, false, false, false, false, false, false, false] rfl rfl (by kernel_rfl) (fun _ _ _ h => h) (Or.inl ⟨by rfl, ?_⟩) ?_ ?_
    rotate_left
    · intro w'
      go_simp
      with_reducible rfl
    rotate_left
    · simp only [Act.put, List.setIfInBounds_toArray, List.set_cons_zero, List.set_cons_succ, i64_w, i32_w]
      rfl
    refine pure_ (i := 2) (N := some 47) (v := ?_) (a' := ?_) #[true, true, true, false, false, false, false, false, false] rfl rfl (by kernel_rfl) (fun _ _ _ h => h) (Or.inl ⟨by rfl, ?_⟩) ?_ ?_
    rotate_left
    · intro w'
      go_simp
      with_reducible rfl
    rotate_left
    · simp only [Act.put, List.setIfInBounds_toArray, List.set_cons_zero, List.set_cons_succ, i64_w, i32_w]
      rfl
    refine take_ (i := 3) (N := some 48) (v := ?_) (a' := ?_) #[true, true, true, true, false, false, false, false, false] rfl rfl (by kernel_rfl) (fun _ _ _ h => h) (Or.inl ⟨by rfl, ?_⟩) hHeld ?_ ?_
    rotate_left
    · rintro w' ⟨s0, s1, s2⟩
      go_simp
      with_reducible rfl
    rotate_left
    · simp only [Act.put, List.setIfInBounds_toArray, List.set_cons_zero, List.set_cons_succ, i64_w, i32_w]
      rfl
    refine pure_ (i := 5) (N := some 50) (v := ?_) (a' := ?_) #[true, true, true, true, false, true, false, false, false] rfl rfl (by kernel_rfl) (fun _ _ _ h => h) (Or.inl ⟨by rfl, ?_⟩) ?_ ?_
    rotate_left
    · intro w'
      go_simp
      with_reducible rfl
    rotate_left
    · simp only [Act.put, List.setIfInBounds_toArray, List.set_cons_zero, List.set_cons_succ, i64_w, i32_w]
      rfl
    have HBd := Aside0.mk (below_drew (Below.refl wx.heap.size wx))
    have HB3 := Aside0.mk (below_then HBx.out HBx.out.size HBd.out)
    have HB5 := Aside0.mk (below_then HB2.out HB2.out.size HB3.out)
    refine one_ (i := 4) (N := some 49) #[true, true, true, true, true, true, false, false, false] rfl rfl (by kernel_rfl) (by decide) (fun K hK => ?_)
    refine goes_ Try.func58 (by kernel_rfl) rfl #[.pointer (some ⟨g, 0, none⟩), .string o.f1] (by rfl) rfl rfl (by (try simp only [List.map_toArray, List.map_cons, List.map_nil]); first | done | rfl) ?_
    refine (sRemove wx.drew S g n l ops o.f1 (HDb.out.move HB5.out) HZ.out hm1).mono ?_
    rw [HRe.out]
    rintro e w4 ⟨rfl, hD4, hW4⟩
    have HD4 := Aside0.mk hD4
    have HW4 := Aside0.mk hW4
    have HWr4 := Aside0.mk ((Wr.of_below S HBd.out).trans hW4 (fun k h => .inl h))
    refine ⟨_, rfl, hK.out _ _ (HSS.out _ (HGW.out _ HWr4.out) (HKW.out _ HWr4.out).2.1) (fun _ => ?_)⟩
    clear hK K hD4 hW4
    refine norm_ (a' := ?_) ?_ ?_
    rotate_left
    · show Act.put _ (some 49) _ = _
      simp only [Act.put, List.setIfInBounds_toArray, List.set_cons_zero, List.set_cons_succ, i64_w, i32_w]
      rfl
    refine pure_ (i := 6) (N := some 51) (v := ?_) (a' := ?_) #[true, true, true, true, true, true, true, false, false] rfl rfl (by kernel_rfl) (fun _ _ _ h => h) (Or.inl ⟨by rfl, ?_⟩) ?_ ?_
    rotate_left
    · intro w'
      go_simp
      with_reducible rfl
    rotate_left
    · simp only [Act.put, List.setIfInBounds_toArray, List.set_cons_zero, List.set_cons_succ, i64_w, i32_w]
      rfl
    refine one_ (i := 7) (N := none) #[true, true, true, true, true, true, true, true, false] rfl rfl (by kernel_rfl) (by decide) (fun K hK => ?_)
    have hk4 := HKW.out _ HWr4.out
    have HK4 := Aside0.mk hk4
    have hy0 : w4.cell? ⟨w.heap.size + 1 + 1, 0, none⟩ = some (.slice none 0 0) := (blk_cell hk4.2.2 0).trans rfl
    have hy1 : w4.cell? ⟨w.heap.size + 1 + 1, 1, none⟩ = some (.slice none 0 0) := (blk_cell hk4.2.2 1).trans rfl
    have hf0 := blk_frozen hk4.2.2 0
    have hf1 := blk_frozen hk4.2.2 1
    clear hk4
    refine skip_ (w1 := ?_) (by rfl) rfl ?_ ?_
    rotate_left
    · go_simp
      rfl
    refine hK.out _ _ (HSS.out _ (blk_far (blk_far (HGW.out _ HWr4.out) (p := ⟨w.heap.size + 1 + 1, 0, none⟩) (by show ¬ w2.heap.size = w.heap.size + 1 + 1; have := HSZ.out; omega) _) (p := ⟨w.heap.size + 1 + 1, 1, none⟩) (by show ¬ w2.heap.size = w.heap.size + 1 + 1; have := HSZ.out; omega) _) (blk_far (blk_far HK4.out.2.1 (p := ⟨w.heap.size + 1 + 1, 0, none⟩) (by show ¬ w.heap.size + 1 = w.heap.size + 1 + 1; omega) _) (p := ⟨w.heap.size + 1 + 1, 1, none⟩) (by show ¬ w.heap.size + 1 = w.heap.size + 1 + 1; omega) _)) (fun _ => ?_)
    clear hK K hy0 hy1 hf0 hf1
    refine pure_ (i := 8) (N := some 7) (v := ?_) (a' := ?_) #[true, true, true, true, true, true, true, true, true] rfl rfl (by kernel_rfl) (fun _ _ _ h => h) (Or.inl ⟨by rfl, ?_⟩) ?_ ?_
    rotate_left
    · intro w'
      go_simp
      with_reducible rfl
    rotate_left
    · simp only [Act.put, List.setIfInBounds_toArray, List.set_cons_zero, List.set_cons_succ, i64_w, i32_w]
      rfl
    refine done_ (by kernel_rfl) ?_
    go_wp2
    refine bodyPost_ret (results_ct rfl _ _ (w.heap.size + 1 + 1) 53 #[.slice A2 l.length c2, .slice A3 r.1.length c3] (0, 0) _ rfl (blk_put2 HK4.out.2.2 _ _) Try.underlying53 rfl (by kernel_rfl)) rfl ?_
    exact do_fin _ _ HS.out HT.out HDis.out HWW.out (by omega) (by have := HSZ.out; omega) HB2.out HX2.out HB3.out HD4.out HW4.out
  have h1b : (o.f0 == 1) = false := by simpa using h1
  by_cases h2 : o.f0 = 2
  · have h2b : (o.f0 == 2) = true := by simpa using h2
    have HR := Aside0.mk (show doL l ops n o = (l, (renameL l ops o.f1 o.f2).1, n) by unfold doL; rw [if_neg h0, if_neg h1, if_pos h2])
    rw [HR.out]
    have HX1 := Aside0.mk (xRename wb T A c A' c' n l ops HXb.out HZ.out o.f1 o.f2 hm2)
    obtain ⟨r, hr⟩ : ∃ r, r = renameL l ops o.f1 o.f2 := ⟨_, rfl⟩
    rw [← hr] at HX1 HR ⊢
    have HRe := Aside0.mk hr.symm
    clear hr
    clear h0 h1 h2
    go_enter Try.func65, Try.ntmps65
    go_wp2_with (first | (go_at_call 83; rw [← HWB.out]; with_reducible refine HX1.out.mono ?_; rintro e w2 ⟨u, v, rfl, hX2, hB2⟩; obtain ⟨A2, c2, A3, c3, rfl, rfl⟩ := hX2.slices; have HX2 := Aside0.mk hX2; have HB2 := Aside0.mk hB2; clear hX2 hB2) | fail)
    obtain ⟨wx, hwx⟩ : ∃ wx, wx = w2.alloc (.cells #[.slice A2 l.length c2, .slice A3 r.1.length c3] 53) := ⟨_, rfl⟩
    have hBx : Below w2.heap.size w2 wx := by rw [hwx]; exact below_alloc (Below.refl _ _) _
    have hbx : wx.heap[w2.heap.size]? = some (.cells #[.slice A2 l.length c2, .slice A3 r.1.length c3] 53 (0, 0)) := by rw [hwx]; exact blk_new _ _
    rw [← hwx]
    have HBX := Aside0.mk hbx
    have HBx := Aside0.mk hBx
    have hs2 := HB2.out.size
    have HXLt := Aside0.mk (blk_lt hbx)
    have HWx := Aside0.mk ((Wr.of_below S HB2.out).trans (Wr.of_below S hBx) (fun k h => .inl h))
    clear hwx hBx hbx q0 q1 q2 q3 q4 q5 q6 q7
    have HSS := Aside0.mk (fun (W : World) (hg : W.heap[w2.heap.size]? = some (.cells #[.slice A2 l.length c2, .slice A3 r.1.length c3] 53 (0, 0))) (hk : W.heap[w.heap.size + 1]? = some (.cells (opC o B d) 82 (0, 0))) => (⟨(blk_cell hg 0).trans rfl, (blk_cell hg 1).trans rfl, (blk_cell hk 1).trans rfl, (blk_cell hk 2).trans rfl⟩ : W.cell? ⟨w2.heap.size, 0, none⟩ = some (.slice A2 l.length c2) ∧ W.cell? ⟨w2.heap.size, 1, none⟩ = some (.slice A3 r.1.length c3) ∧ W.cell? ⟨w.heap.size + 1, 1, none⟩ = some (.string o.f1) ∧ W.cell? ⟨w.heap.size + 1, 2, none⟩ = some (.string o.f2)))
    have HGW := Aside0.mk (fun (W : World) (hB : Wr wx W S) => (hB.2.2.2.2 _ HXLt.out (fun h => by have := HS.out _ h; have := HWW.out.size; omega)).trans HBX.out)
    have HKW := Aside0.mk (fun (W : World) (hB : Wr wx W S) => HK.out W (HWx.out.trans hB (fun k h => .inl h)))
    refine start_ (n := 11) (S := fun W => W.cell? ⟨w2.heap.size, 0, none⟩ = some (.slice A2 l.length c2) ∧ W.cell? ⟨w2.heap.size, 1, none⟩ = some (.slice A3 r.1.length c3) ∧ W.cell? ⟨w.heap.size + 1, 1, none⟩ = some (.string o.f1) ∧ W.cell? ⟨w.heap.size + 1, 2, none⟩ = some (.string o.f2)) (ds := []) #[false, false, false, false, false, false, false, false, false, false, false] (by kernel_rfl) rfl rfl ?_ (fun hHeld => ?_)
    · have hB := Wr.of_below S (below_drew (Below.refl wx.heap.size wx))
      exact HSS.out _ (HGW.out _ hB) (HKW.out _ hB).2.1
    refine take_ (i := 0) (N := some 63) (v := ?_) (a' := ?_) #[true, false, false, false, false, false, false, false, false, false, false] rfl rfl (by kernel_rfl) (fun _ _ _ h => h) (Or.inl ⟨by rfl, ?_⟩) hHeld ?_ ?_
    rotate_left
    · rintro w' ⟨s0, s1, s2, s3⟩
      go_simp
      with_reducible rfl
    rotate_left
    · simp only [Act.put, List.setIfInBounds_toArray, List.set_cons_zero, List.set_cons_succ, i64_w, i32_w]
      rfl
    refine pure_ (i := 1) (N := some 64) (v := ?_) (a' := ?_) #[true, true, false, false, false, false, false, false, false, false, false] rfl rfl (by kernel_rfl) (fun _ _ _ h => h) (Or.inl ⟨by rfl, ?_⟩) ?_ ?_
    rotate_left
    · intro w'
      go_simp
      with_reducible rfl
    rotate_left
    · simp only [Act.put, List.setIfInBounds_toArray, List.set_cons_zero, List.set_cons_succ, i64_w, i32_w]
      rfl
    refine pure_ (i := 2) (N := some 65) (v := ?_) (a' := ?_) #[true, true, true, false, false, false, false, false, false, false, false] rfl rfl (by kernel_rfl) (fun _ _ _ h => h) (Or.inl ⟨by rfl, ?_⟩) ?_ ?_
    rotate_left
    · intro w'
      go_simp
      with_reducible rfl
    rotate_left
    · simp only [Act.put, List.setIfInBounds_toArray, List.set_cons_zero, List.set_cons_succ, i64_w, i32_w]
      rfl
    refine take_ (i := 3) (N := some 66) (v := ?_) (a' := ?_) #[true, true, true, true, false, false, false, false, false, false, false] rfl rfl (by kernel_rfl) (fun _ _ _ h => h) (Or.inl ⟨by rfl, ?_⟩) hHeld ?_ ?_
    rotate_left
    · rintro w' ⟨s0, s1, s2, s3⟩
      go_simp
      with_reducible rfl
    rotate_left
    · simp only [Act.put, List.setIfInBounds_toArray, List.set_cons_zero, List.set_cons_succ, i64_w, i32_w]
      rfl
    refine pure_ (i := 4) (N := some 67) (v := ?_) (a' := ?_) #[true, true, true, true, true, false, false, false, false, false, false] rfl rfl (by kernel_rfl) (fun _ _ _ h => h) (Or.inl ⟨by rfl, ?_⟩) ?_ ?_
    rotate_left
    · intro w'
      go_simp
      with_reducible rfl
    rotate_left
    · simp only [Act.put, List.setIfInBounds_toArray, List.set_cons_zero, List.set_cons_succ, i64_w, i32_w]
      rfl
    refine take_ (i := 5) (N := some 68) (v := ?_) (a' := ?_) #[true, true, true, true, true, true, false, false, false, false, false] rfl rfl (by kernel_rfl) (fun _ _ _ h => h) (Or.inl ⟨by rfl, ?_⟩) hHeld ?_ ?_
    rotate_left
    · rintro w' ⟨s0, s1, s2, s3⟩
      go_simp
      with_reducible rfl
    rotate_left
    · simp only [Act.put, List.setIfInBounds_toArray, List.set_cons_zero, List.set_cons_succ, i64_w, i32_w]
      rfl
    refine pure_ (i := 7) (N := some 70) (v := ?_) (a' := ?_) #[true, true, true, true, true, true, false, true, false, false, false] rfl rfl (by kernel_rfl) (fun _ _ _ h => h) (Or.inl ⟨by rfl, ?_⟩) ?_ ?_
    rotate_left
    · intro w'
      go_simp
      with_reducible rfl
    rotate_left
    · simp only [Act.put, List.setIfInBounds_toArray, List.set_cons_zero, List.set_cons_succ, i64_w, i32_w]
      rfl
    have HBd := Aside0.mk (below_drew (Below.refl wx.heap.size wx))
    have HB3 := Aside0.mk (below_then HBx.out HBx.out.size HBd.out)
    have HB5 := Aside0.mk (below_then HB2.out HB2.out.size HB3.out)
    refine one_ (i := 6) (N := some 69) #[true, true, true, true, true, true, true, true, false, false, false] rfl rfl (by kernel_rfl) (by decide) (fun K hK => ?_)
    refine goes_ Try.func59 (by kernel_rfl) rfl #[.pointer (some ⟨g, 0, none⟩), .string o.f1, .string o.f2] (by rfl) rfl rfl (by (try simp only [List.map_toArray, List.map_cons, List.map_nil]); first | done | rfl) ?_
    refine (sRename wx.drew S g n l ops o.f1 o.f2 (HDb.out.move HB5.out) HZ.out hm1 hm2).mono ?_
    rw [HRe.out]
    rintro e w4 ⟨rfl, hD4, hW4⟩
    have HD4 := Aside0.mk hD4
    have HW4 := Aside0.mk hW4
    have HWr4 := Aside0.mk ((Wr.of_below S HBd.out).trans hW4 (fun k h => .inl h))
    refine ⟨_, rfl, hK.out _ _ (HSS.out _ (HGW.out _ HWr4.out) (HKW.out _ HWr4.out).2.1) (fun _ => ?_)⟩
    clear hK K hD4 hW4
    refine norm_ (a' := ?_) ?_ ?_
    rotate_left
    · show Act.put _ (some 69) _ = _
      simp only [Act.put, List.setIfInBounds_toArray, List.set_cons_zero, List.set_cons_succ, i64_w, i32_w]
      rfl
    refine pure_ (i := 8) (N := some 71) (v := ?_) (a' := ?_) #[true, true, true, true, true, true, true, true, true, false, false] rfl rfl (by kernel_rfl) (fun _ _ _ h => h) (Or.inl ⟨by rfl, ?_⟩) ?_ ?_
    rotate_left
    · intro w'
      go_simp
      with_reducible rfl
    rotate_left
    · simp only [Act.put, List.setIfInBounds_toArray, List.set_cons_zero, List.set_cons_succ, i64_w, i32_w]
      rfl
    refine one_ (i := 9) (N := none) #[true, true, true, true, true, true, true, true, true, true, false] rfl rfl (by kernel_rfl) (by decide) (fun K hK => ?_)
    have hk4 := HKW.out _ HWr4.out
    have HK4 := Aside0.mk hk4
    have hy0 : w4.cell? ⟨w.heap.size + 1 + 1, 0, none⟩ = some (.slice none 0 0) := (blk_cell hk4.2.2 0).trans rfl
    have hy1 : w4.cell? ⟨w.heap.size + 1 + 1, 1, none⟩ = some (.slice none 0 0) := (blk_cell hk4.2.2 1).trans rfl
    have hf0 := blk_frozen hk4.2.2 0
    have hf1 := blk_frozen hk4.2.2 1
    clear hk4
    refine skip_ (w1 := ?_) (by rfl) rfl ?_ ?_
    rotate_left
    · go_simp
      rfl
    refine hK.out _ _ (HSS.out _ (blk_far (blk_far (HGW.out _ HWr4.out) (p := ⟨w.heap.size + 1 + 1, 0, none⟩) (by show ¬ w2.heap.size = w.heap.size + 1 + 1; have := HSZ.out; omega) _) (p := ⟨w.heap.size + 1 + 1, 1, none⟩) (by show ¬ w2.heap.size = w.heap.size + 1 + 1; have := HSZ.out; omega) _) (blk_far (blk_far HK4.out.2.1 (p := ⟨w.heap.size + 1 + 1, 0, none⟩) (by show ¬ w.heap.size + 1 = w.heap.size + 1 + 1; omega) _) (p := ⟨w.heap.size + 1 + 1, 1, none⟩) (by show ¬ w.heap.size + 1 = w.heap.size + 1 + 1; omega) _)) (fun _ => ?_)
    clear hK K hy0 hy1 hf0 hf1
    refine pure_ (i := 10) (N := some 7) (v := ?_) (a' := ?_) #[true, true, true, true, true, true, true, true, true, true, true] rfl rfl (by kernel_rfl) (fun _ _ _ h => h) (Or.inl ⟨by rfl, ?_⟩) ?_ ?_
    rotate_left
    · intro w'
      go_simp
      with_reducible rfl
    rotate_left
    · simp only [Act.put, List.setIfInBounds_toArray, List.set_cons_zero, List.set_cons_succ, i64_w, i32_w]
      rfl
    refine done_ (by kernel_rfl) ?_
    go_wp2
    refine bodyPost_ret (results_ct rfl _ _ (w.heap.size + 1 + 1) 53 #[.slice A2 l.length c2, .slice A3 r.1.length c3] (0, 0) _ rfl (blk_put2 HK4.out.2.2 _ _) Try.underlying53 rfl (by kernel_rfl)) rfl ?_
    exact do_fin _ _ HS.out HT.out HDis.out HWW.out (by omega) (by have := HSZ.out; omega) HB2.out HX2.out HB3.out HD4.out HW4.out
  have h2b : (o.f0 == 2) = false := by simpa using h2
  by_cases h3 : o.f0 = 3
  · have h3b : (o.f0 == 3) = true := by simpa using h3
    have HR := Aside0.mk (show doL l ops n o = (viewL l ops, [], n + ops.length) by unfold doL; rw [if_neg h0, if_neg h1, if_neg h2, if_pos h3])
    rw [HR.out]
    have HD1 := Aside0.mk (sSync wb S g n l ops HDb.out HZ.out)
    have HX1 := Aside0.mk (fun (W : World) (hB : Wr wb W S) => xSync W T A c A' c' n l ops (HXb.out.off hB (fun k hk h => HDis.out k h hk)) HZ.out)
    clear h0 h1 h2 h3 q3 q4 q5
    go_enter Try.func65, Try.ntmps65
    go_wp2_with (first | (go_at_call 55; rw [← HWB.out]; with_reducible refine HD1.out.mono ?_; rintro e w2 ⟨rfl, hD2, hW2⟩; have HD2 := Aside0.mk hD2; have HW2 := Aside0.mk hW2; have hk := HK.out _ hW2; obtain ⟨q0, q1⟩ : w2.cell? ⟨w.heap.size, 0, none⟩ = some (.slice A l.length c) ∧ w2.cell? ⟨w.heap.size, 1, none⟩ = some (.slice A' ops.length c') := ⟨(blk_cell hk.1 0).trans rfl, (blk_cell hk.1 1).trans rfl⟩; obtain ⟨q6, q7⟩ : w2.cell? ⟨w.heap.size + 1, 4, none⟩ = some (.int .i64 o.f4) ∧ w2.cell? ⟨w.heap.size + 1, 5, none⟩ = some (.int .i64 o.f5) := ⟨(blk_cell hk.2.1 4).trans rfl, (blk_cell hk.2.1 5).trans rfl⟩; clear hk hD2 hW2) | (go_at_call 48; with_reducible refine (HX1.out _ HW2.out).mono ?_; rintro e w4 ⟨u, v, rfl, hX4, hB4⟩; obtain ⟨A2, c2, A3, c3, rfl, rfl⟩ := hX4.slices; have HX4 := Aside0.mk hX4; have HB4 := Aside0.mk hB4; have hk := HK.out _ (HW2.out.trans (Wr.of_below S hB4) (fun k h => .inl h)); have HKb := Aside0.mk hk; have hy0 : w4.cell? ⟨w.heap.size + 1 + 1, 0, none⟩ = some (.slice none 0 0) := (blk_cell hk.2.2 0).trans rfl; have hy1 : w4.cell? ⟨w.heap.size + 1 + 1, 1, none⟩ = some (.slice none 0 0) := (blk_cell hk.2.2 1).trans rfl; have hf0 := blk_frozen hk.2.2 0; have hf1 := blk_frozen hk.2.2 1; clear hk hX4 hB4) | fail)
    refine bodyPost_ret (results_ct rfl _ _ (w.heap.size + 1 + 1) 53 #[.slice A2 (viewL l ops).length c2, .slice A3 0 c3] (0, 0) _ rfl (blk_put2 HKb.out.2.2 _ _) Try.underlying53 rfl (by kernel_rfl)) rfl ?_
    exact do_fin2 _ _ HS.out HT.out HDis.out HWW.out (by omega) (by have := HSZ.out; omega) HW2.out HD2.out HX4.out HB4.out
  have h3b : (o.f0 == 3) = false := by simpa using h3
  have HR := Aside0.mk (show doL l ops n o = (crashL l ops o.f4 o.f5, [], n + ops.length) by unfold doL; rw [if_neg h0, if_neg h1, if_neg h2, if_neg h3])
  rw [HR.out]
  have HD1 := Aside0.mk (sCrash wb S g n l ops o.f4 o.f5 HDb.out HZ.out)
  have HX1 := Aside0.mk (fun (W : World) (hB : Wr wb W S) => xCrash W T A c A' c' n l ops (HXb.out.off hB (fun k hk h => HDis.out k h hk)) HZ.out o.f4 o.f5)
  clear h0 h1 h2 h3 q3 q4 q5
  go_enter Try.func65, Try.ntmps65
  go_wp2_with (first | (go_at_call 49; rw [← HWB.out]; with_reducible refine HD1.out.mono ?_; rintro e w2 ⟨rfl, hD2, hW2⟩; have HD2 := Aside0.mk hD2; have HW2 := Aside0.mk hW2; have hk := HK.out _ hW2; obtain ⟨q0, q1⟩ : w2.cell? ⟨w.heap.size, 0, none⟩ = some (.slice A l.length c) ∧ w2.cell? ⟨w.heap.size, 1, none⟩ = some (.slice A' ops.length c') := ⟨(blk_cell hk.1 0).trans rfl, (blk_cell hk.1 1).trans rfl⟩; obtain ⟨q6, q7⟩ : w2.cell? ⟨w.heap.size + 1, 4, none⟩ = some (.int .i64 o.f4) ∧ w2.cell? ⟨w.heap.size + 1, 5, none⟩ = some (.int .i64 o.f5) := ⟨(blk_cell hk.2.1 4).trans rfl, (blk_cell hk.2.1 5).trans rfl⟩; clear hk hD2 hW2) | (go_at_call 50; with_reducible refine (HX1.out _ HW2.out).mono ?_; rintro e w4 ⟨u, v, rfl, hX4, hB4⟩; obtain ⟨A2, c2, A3, c3, rfl, rfl⟩ := hX4.slices; have HX4 := Aside0.mk hX4; have HB4 := Aside0.mk hB4; have hk := HK.out _ (HW2.out.trans (Wr.of_below S hB4) (fun k h => .inl h)); have HKb := Aside0.mk hk; have hy0 : w4.cell? ⟨w.heap.size + 1 + 1, 0, none⟩ = some (.slice none 0 0) := (blk_cell hk.2.2 0).trans rfl; have hy1 : w4.cell? ⟨w.heap.size + 1 + 1, 1, none⟩ = some (.slice none 0 0) := (blk_cell hk.2.2 1).trans rfl; have hf0 := blk_frozen hk.2.2 0; have hf1 := blk_frozen hk.2.2 1; clear hk hX4 hB4) | fail)
  refine bodyPost_ret (results_ct rfl _ _ (w.heap.size + 1 + 1) 53 #[.slice A2 (crashL l ops o.f4 o.f5).length c2, .slice A3 0 c3] (0, 0) _ rfl (blk_put2 HKb.out.2.2 _ _) Try.underlying53 rfl (by kernel_rfl)) rfl ?_
  exact do_fin2 _ _ HS.out HT.out HDis.out HWW.out (by omega) (by have := HSZ.out; omega) HW2.out HD2.out HX4.out HB4.out
end Go.Proofs.Ytfaniohoplbdoaa.My
/- law34.same. -/
namespace Go.Proofs.Ytfaniohoplbdoaa.My
open Go Go.RowKit Go.Proofs.YtfaniohoplbdoaaW.PrintWords Go.Proofs.YtfaniohoplbdoaaW.PrintLast Go.Proofs.YtfaniohoplbdoaaW.PrintMore Go.Proofs.Ytfaniohoplbdoaa.PDiskActs
set_option linter.unusedVariables false
set_option linter.unusedSimpArgs false
theorem Drawn0.to_below {w w' : World} (h : Drawn0 w w') : Below w.heap.size w w' := by
  obtain ⟨n, rfl⟩ := h
  exact pw_below_drewN (Below.refl _ _) n
abbrev TruePost (w : World) : Ending → World → Prop := fun e w' => e = .returned (.bool true) ∧ Below w.heap.size w w'
set_option maxHeartbeats 4000000 in
set_option maxRecDepth 100000 in
theorem same_calls (w : World) (S T : Nat → Prop) (g n : Nat) (l : List S109) (ops : List S123) (A : Option Addr) (c : Nat) (A' : Option Addr) (c' : Nat) (hD : DSt w S g l ops n) (hX : XSt w T (.slice A l.length c) (.slice A' ops.length c') l ops) (hz : Sz l ops n) :
    Calls Try.prog 64 #[.pointer (some ⟨g, 0, none⟩), dkV A l.length c A' ops.length c'] w (TruePost w) := by
  obtain ⟨wb, hwb⟩ : ∃ wb, wb = w.alloc (.cells #[.slice A l.length c, .slice A' ops.length c'] 53) := ⟨_, rfl⟩
  have hW : Below w.heap.size w wb := by rw [hwb]; exact below_alloc (Below.refl _ _) _
  have hb0 : wb.heap[w.heap.size]? = some (.cells #[.slice A l.length c, .slice A' ops.length c'] 53 (0, 0)) := by rw [hwb]; exact blk_new _ _
  have HD := Aside0.mk (fun (W : World) (hB : Below wb.heap.size wb W) => (hD.move hW).move hB)
  have HX := Aside0.mk (fun (W : World) (hB : Below wb.heap.size wb W) => (hX.move hW).move hB)
  have HL := Aside0.mk (fun (W : World) (h : XSt W T (.slice A l.length c) (.slice A' ops.length c') l ops) => (by obtain ⟨ok, hu, _⟩ := h; exact (Kd.V_reads' hu).2.2 : CF W A l))
  have HSS := Aside0.mk (fun (W : World) (hB : Below wb.heap.size wb W) => (⟨(blk_cell ((hB.block _ (blk_lt hb0)).trans hb0) 0).trans rfl, (blk_cell ((hB.block _ (blk_lt hb0)).trans hb0) 1).trans rfl⟩ : W.cell? ⟨w.heap.size, 0, none⟩ = some (.slice A l.length c) ∧ W.cell? ⟨w.heap.size, 1, none⟩ = some (.slice A' ops.length c')))
  have HW := Aside0.mk hW
  have HWB := Aside0.mk hwb
  have HZ := Aside0.mk hz
  have hu53 := Try.underlying53
  have hlt0 := blk_lt hb0
  have heq : ((ops.length : Int) == (ops.length : Int)) = true := by simp
  clear hD hX hz hwb hW hb0
  go_enter Try.func64, Try.ntmps64
  go_wp2_with fail
  rw [← HWB.out]
  refine start_ (n := 21) (S := fun W => W.cell? ⟨w.heap.size, 0, none⟩ = some (.slice A l.length c) ∧ W.cell? ⟨w.heap.size, 1, none⟩ = some (.slice A' ops.length c')) (ds := []) #[false, false, false, false, false, false, false, false, false, false, false, false, false, false, false, false, false, false, false, false, false] (by kernel_rfl) rfl rfl ?_ (fun hHeld => ?_)
  · exact HSS.out _ (below_drew (Below.refl _ _))
  refine pure_ (i := 0) (N := some 5) (v := ?_) (a' := ?_) #[true, false, false, false, false, false, false, false, false, false, false, false, false, false, false, false, false, false, false, false, false] rfl rfl (by kernel_rfl) (fun _ _ _ h => h) (Or.inl ⟨by rfl, ?_⟩) ?_ ?_
  rotate_left
  · intro w'
    go_simp
    with_reducible rfl
  rotate_left
  · simp only [Act.put, List.setIfInBounds_toArray, List.set_cons_zero, List.set_cons_succ, i64_w, i32_w]
    rfl
  refine pure_ (i := 2) (N := some 7) (v := ?_) (a' := ?_) #[true, false, true, false, false, false, false, false, false, false, false, false, false, false, false, false, false, false, false, false, false] rfl rfl (by kernel_rfl) (fun _ _ _ h => h) (Or.inl ⟨by rfl, ?_⟩) ?_ ?_
  rotate_left
  · intro w'
    go_simp
    with_reducible rfl
  rotate_left
  · simp only [Act.put, List.setIfInBounds_toArray, List.set_cons_zero, List.set_cons_succ, i64_w, i32_w]
    rfl
  refine take_ (i := 3) (N := some 8) (v := ?_) (a' := ?_) #[true, false, true, true, false, false, false, false, false, false, false, false, false, false, false, false, false, false, false, false, false] rfl rfl (by kernel_rfl) (fun _ _ _ h => h) (Or.inl ⟨by rfl, ?_⟩) hHeld ?_ ?_
  rotate_left
  · rintro w' ⟨s0, s1⟩
    go_simp
    with_reducible rfl
  rotate_left
  · simp only [Act.put, List.setIfInBounds_toArray, List.set_cons_zero, List.set_cons_succ, i64_w, i32_w]
    rfl
  have HB1 := Aside0.mk (below_drew (Below.refl wb.heap.size wb))
  refine one_ (i := 1) (N := some 6) #[true, true, true, true, false, false, false, false, false, false, false, false, false, false, false, false, false, false, false, false, false] rfl rfl (by kernel_rfl) (by decide) (fun K hK => ?_)
  refine goes_ Try.func60 (by kernel_rfl) rfl #[.pointer (some ⟨g, 0, none⟩)] (by rfl) rfl rfl (by (try simp only [List.map_toArray, List.map_cons, List.map_nil]); first | done | rfl) ?_
  refine (sFiles wb.drew S g n l ops (HD.out _ HB1.out) HZ.out).mono ?_
  rintro e w2 ⟨⟨A2, c2, rfl, _, hC2⟩, hB2⟩
  have HC2 := Aside0.mk hC2
  have HB2 := Aside0.mk (below_then HB1.out HB1.out.size hB2)
  refine ⟨_, rfl, hK.out _ _ (HSS.out _ HB2.out) (fun hHeld => ?_)⟩
  clear hK K hC2 hB2
  refine norm_ (a' := ?_) ?_ ?_
  rotate_left
  · show Act.put _ (some 6) _ = _
    simp only [Act.put, List.setIfInBounds_toArray, List.set_cons_zero, List.set_cons_succ, i64_w, i32_w]
    rfl
  refine one_ (i := 4) (N := some 9) #[true, true, true, true, true, false, false, false, false, false, false, false, false, false, false, false, false, false, false, false, false] rfl rfl (by kernel_rfl) (by decide) (fun K hK => ?_)
  refine goes_ Try.func67 (by kernel_rfl) rfl #[.slice A2 l.length c2, .slice A l.length c] (by rfl) rfl rfl (by (try simp only [List.map_toArray, List.map_cons, List.map_nil]); first | done | rfl) ?_
  refine (same_true A2 c2 A c l w2 HC2.out (HL.out _ (HX.out _ HB2.out))).mono ?_
  rintro e w3 ⟨rfl, hd3⟩
  have HB3 := Aside0.mk (below_then HB2.out HB2.out.size (Drawn0.to_below hd3))
  refine ⟨_, rfl, hK.out _ _ (HSS.out _ HB3.out) (fun hHeld => ?_)⟩
  clear hK K hd3
  refine norm_ (a' := ?_) ?_ ?_
  rotate_left
  · show Act.put _ (some 9) _ = _
    simp only [Act.put, List.setIfInBounds_toArray, List.set_cons_zero, List.set_cons_succ, i64_w, i32_w]
    rfl
  refine pure_ (i := 5) (N := some 10) (v := ?_) (a' := ?_) #[true, true, true, true, true, true, false, false, false, false, false, false, false, false, false, false, false, false, false, false, false] rfl rfl (by kernel_rfl) (fun _ _ _ h => h) (Or.inl ⟨by rfl, ?_⟩) ?_ ?_
  rotate_left
  · intro w'
    go_simp
    with_reducible rfl
  rotate_left
  · simp only [Act.put, List.setIfInBounds_toArray, List.set_cons_zero, List.set_cons_succ, i64_w, i32_w]
    rfl
  refine pure_ (i := 6) (N := some 11) (v := ?_) (a' := ?_) #[true, true, true, true, true, true, true, false, false, false, false, false, false, false, false, false, false, false, false, false, false] rfl rfl (by kernel_rfl) (fun _ _ _ h => h) (Or.inl ⟨by rfl, ?_⟩) ?_ ?_
  rotate_left
  · intro w'
    go_simp
    with_reducible rfl
  rotate_left
  · simp only [Act.put, List.setIfInBounds_toArray, List.set_cons_zero, List.set_cons_succ, i64_w, i32_w]
    rfl
  refine take_ (i := 8) (N := some 13) (v := ?_) (a' := ?_) #[true, true, true, true, true, true, true, false, true, false, false, false, false, false, false, false, false, false, false, false, false] rfl rfl (by kernel_rfl) (fun _ _ _ h => h) (Or.inl ⟨by rfl, ?_⟩) hHeld ?_ ?_
  rotate_left
  · rintro w' ⟨s0, s1⟩
    go_simp
    with_reducible rfl
  rotate_left
  · simp only [Act.put, List.setIfInBounds_toArray, List.set_cons_zero, List.set_cons_succ, i64_w, i32_w]
    rfl
  refine one_ (i := 7) (N := some 12) #[true, true, true, true, true, true, true, true, true, false, false, false, false, false, false, false, false, false, false, false, false] rfl rfl (by kernel_rfl) (by decide) (fun K hK => ?_)
  refine goes_ Try.func61 (by kernel_rfl) rfl #[.pointer (some ⟨g, 0, none⟩)] (by rfl) rfl rfl (by (try simp only [List.map_toArray, List.map_cons, List.map_nil]); first | done | rfl) ?_
  refine (sView w3 S g n l ops (HD.out _ HB3.out) HZ.out).mono ?_
  rintro e w4 ⟨⟨A4, c4, rfl, _, hC4⟩, hB4⟩
  have HC4 := Aside0.mk hC4
  have HB4 := Aside0.mk (below_then HB3.out HB3.out.size hB4)
  refine ⟨_, rfl, hK.out _ _ (HSS.out _ HB4.out) (fun hHeld => ?_)⟩
  clear hK K hC4 hB4
  refine norm_ (a' := ?_) ?_ ?_
  rotate_left
  · show Act.put _ (some 12) _ = _
    simp only [Act.put, List.setIfInBounds_toArray, List.set_cons_zero, List.set_cons_succ, i64_w, i32_w]
    rfl
  refine one_ (i := 9) (N := some 14) #[true, true, true, true, true, true, true, true, true, true, false, false, false, false, false, false, false, false, false, false, false] rfl rfl (by kernel_rfl) (by decide) (fun K hK => ?_)
  refine goes_ Try.func84 (by kernel_rfl) rfl #[dkV A l.length c A' ops.length c'] (by rfl) rfl rfl (by (try simp only [List.map_toArray, List.map_cons, List.map_nil]); first | done | rfl) ?_
  refine (xView w4 T A c A' c' n l ops (HX.out _ HB4.out) HZ.out).mono ?_
  rintro e w5 ⟨⟨A5, c5, rfl, _, hC5⟩, hB5⟩
  have HC5 := Aside0.mk hC5
  have HC4' := Aside0.mk (Kd.C_below HC4.out hB5)
  have HB5 := Aside0.mk (below_then HB4.out HB4.out.size hB5)
  refine ⟨_, rfl, hK.out _ _ (HSS.out _ HB5.out) (fun hHeld => ?_)⟩
  clear hK K hC5 hB5
  refine norm_ (a' := ?_) ?_ ?_
  rotate_left
  · show Act.put _ (some 14) _ = _
    simp only [Act.put, List.setIfInBounds_toArray, List.set_cons_zero, List.set_cons_succ, i64_w, i32_w]
    rfl
  refine one_ (i := 10) (N := some 15) #[true, true, true, true, true, true, true, true, true, true, true, false, false, false, false, false, false, false, false, false, false] rfl rfl (by kernel_rfl) (by decide) (fun K hK => ?_)
  refine goes_ Try.func67 (by kernel_rfl) rfl #[.slice A4 (viewL l ops).length c4, .slice A5 (viewL l ops).length c5] (by rfl) rfl rfl (by (try simp only [List.map_toArray, List.map_cons, List.map_nil]); first | done | rfl) ?_
  refine (same_true A4 c4 A5 c5 (viewL l ops) w5 HC4'.out HC5.out).mono ?_
  rintro e w6 ⟨rfl, hd6⟩
  have HB6 := Aside0.mk (below_then HB5.out HB5.out.size (Drawn0.to_below hd6))
  refine ⟨_, rfl, hK.out _ _ (HSS.out _ HB6.out) (fun hHeld => ?_)⟩
  clear hK K hd6
  refine norm_ (a' := ?_) ?_ ?_
  rotate_left
  · show Act.put _ (some 15) _ = _
    simp only [Act.put, List.setIfInBounds_toArray, List.set_cons_zero, List.set_cons_succ, i64_w, i32_w]
    rfl
  refine pure_ (i := 11) (N := some 16) (v := ?_) (a' := ?_) #[true, true, true, true, true, true, true, true, true, true, true, true, false, false, false, false, false, false, false, false, false] rfl rfl (by kernel_rfl) (fun _ _ _ h => h) (Or.inl ⟨by rfl, ?_⟩) ?_ ?_
  rotate_left
  · intro w'
    go_simp
    with_reducible rfl
  rotate_left
  · simp only [Act.put, List.setIfInBounds_toArray, List.set_cons_zero, List.set_cons_succ, i64_w, i32_w]
    rfl
  refine pure_ (i := 12) (N := some 17) (v := ?_) (a' := ?_) #[true, true, true, true, true, true, true, true, true, true, true, true, true, false, false, false, false, false, false, false, false] rfl rfl (by kernel_rfl) (fun _ _ _ h => h) (Or.inl ⟨by rfl, ?_⟩) ?_ ?_
  rotate_left
  · intro w'
    go_simp
    with_reducible rfl
  rotate_left
  · simp only [Act.put, List.setIfInBounds_toArray, List.set_cons_zero, List.set_cons_succ, i64_w, i32_w]
    rfl
  refine pure_ (i := 13) (N := some 18) (v := ?_) (a' := ?_) #[true, true, true, true, true, true, true, true, true, true, true, true, true, true, false, false, false, false, false, false, false] rfl rfl (by kernel_rfl) (fun _ _ _ h => h) (Or.inl ⟨by rfl, ?_⟩) ?_ ?_
  rotate_left
  · intro w'
    go_simp
    with_reducible rfl
  rotate_left
  · simp only [Act.put, List.setIfInBounds_toArray, List.set_cons_zero, List.set_cons_succ, i64_w, i32_w]
    rfl
  refine pure_ (i := 15) (N := some 20) (v := ?_) (a' := ?_) #[true, true, true, true, true, true, true, true, true, true, true, true, true, true, false, true, false, false, false, false, false] rfl rfl (by kernel_rfl) (fun _ _ _ h => h) (Or.inl ⟨by rfl, ?_⟩) ?_ ?_
  rotate_left
  · intro w'
    go_simp
    with_reducible rfl
  rotate_left
  · simp only [Act.put, List.setIfInBounds_toArray, List.set_cons_zero, List.set_cons_succ, i64_w, i32_w]
    rfl
  refine take_ (i := 16) (N := some 21) (v := ?_) (a' := ?_) #[true, true, true, true, true, true, true, true, true, true, true, true, true, true, false, true, true, false, false, false, false] rfl rfl (by kernel_rfl) (fun _ _ _ h => h) (Or.inl ⟨by rfl, ?_⟩) hHeld ?_ ?_
  rotate_left
  · rintro w' ⟨s0, s1⟩
    go_simp
    with_reducible rfl
  rotate_left
  · simp only [Act.put, List.setIfInBounds_toArray, List.set_cons_zero, List.set_cons_succ, i64_w, i32_w]
    rfl
  refine pure_ (i := 17) (N := some 22) (v := ?_) (a' := ?_) #[true, true, true, true, true, true, true, true, true, true, true, true, true, true, false, true, true, true, false, false, false] rfl rfl (by kernel_rfl) (fun _ _ _ h => h) (Or.inl ⟨by rfl, ?_⟩) ?_ ?_
  rotate_left
  · intro w'
    go_simp
    with_reducible rfl
  rotate_left
  · simp only [Act.put, List.setIfInBounds_toArray, List.set_cons_zero, List.set_cons_succ, i64_w, i32_w]
    rfl
  refine one_ (i := 14) (N := some 19) #[true, true, true, true, true, true, true, true, true, true, true, true, true, true, true, true, true, true, false, false, false] rfl rfl (by kernel_rfl) (by decide) (fun K hK => ?_)
  refine goes_ Try.func54 (by kernel_rfl) rfl #[.pointer (some ⟨g, 0, none⟩)] (by rfl) rfl rfl (by (try simp only [List.map_toArray, List.map_cons, List.map_nil]); first | done | rfl) ?_
  refine (sPending w6 S g n l ops (HD.out _ HB6.out)).mono ?_
  rintro e w7 ⟨rfl, rfl⟩
  refine ⟨_, rfl, hK.out _ _ (HSS.out _ HB6.out) (fun hHeld => ?_)⟩
  clear hK K
  refine norm_ (a' := ?_) ?_ ?_
  rotate_left
  · show Act.put _ (some 19) _ = _
    simp only [Act.put, List.setIfInBounds_toArray, List.set_cons_zero, List.set_cons_succ, i64_w, i32_w]
    rfl
  refine pure_ (i := 18) (N := some 23) (v := ?_) (a' := ?_) #[true, true, true, true, true, true, true, true, true, true, true, true, true, true, true, true, true, true, true, false, false] rfl rfl (by kernel_rfl) (fun _ _ _ h => h) (Or.inl ⟨by rfl, ?_⟩) ?_ ?_
  rotate_left
  · intro w'
    go_simp
    with_reducible rfl
  rotate_left
  · simp only [Act.put, List.setIfInBounds_toArray, List.set_cons_zero, List.set_cons_succ, i64_w, i32_w]
    rfl
  refine pure_ (i := 19) (N := some 24) (v := ?_) (a' := ?_) #[true, true, true, true, true, true, true, true, true, true, true, true, true, true, true, true, true, true, true, true, false] rfl rfl (by kernel_rfl) (fun _ _ _ h => h) (Or.inl ⟨by rfl, ?_⟩) ?_ ?_
  rotate_left
  · intro w'
    go_simp
    with_reducible rfl
  rotate_left
  · simp only [Act.put, List.setIfInBounds_toArray, List.set_cons_zero, List.set_cons_succ, i64_w, i32_w]
    rfl
  refine pure_ (i := 20) (N := some 4) (v := ?_) (a' := ?_) #[true, true, true, true, true, true, true, true, true, true, true, true, true, true, true, true, true, true, true, true, true] rfl rfl (by kernel_rfl) (fun _ _ _ h => h) (Or.inl ⟨by rfl, ?_⟩) ?_ ?_
  rotate_left
  · intro w'
    go_simp
    with_reducible rfl
  rotate_left
  · simp only [Act.put, List.setIfInBounds_toArray, List.set_cons_zero, List.set_cons_succ, i64_w, i32_w]
    rfl
  refine done_ (by kernel_rfl) ?_
  go_wp2
  go_ret
  exact ⟨rfl, below_then HW.out HW.out.size HB6.out⟩
end Go.Proofs.Ytfaniohoplbdoaa.My
/- The chapter's examples ('works' of the statements on the disk). -/
namespace Go.Proofs.Ytfaniohoplbdoaa.My
open Go Go.RowKit Go.Proofs.YtfaniohoplbdoaaW.PrintWords Go.Proofs.YtfaniohoplbdoaaW.PrintLast Go.Proofs.YtfaniohoplbdoaaW.PrintMore Go.Proofs.Ytfaniohoplbdoaa.PDiskActs
set_option linter.unusedVariables false
set_option linter.unusedSimpArgs false
abbrev nA : ByteArray := ⟨#[97]⟩
abbrev n0 : ByteArray := ⟨#[]⟩
abbrev fA (b : List Int) : List S109 := [⟨nA, b⟩]
abbrev oA (b : List Int) : S123 := ⟨0, nA, n0, b⟩
abbrev oR : S123 := ⟨1, nA, n0, []⟩
theorem nameA : nameOk nA = true := by decide +kernel
theorem ex1 : appendL [] nA [97, 98] = ([oA [97, 98]], 0) := by unfold appendL; rw [nameA]; rfl
theorem ex2 : viewL [] [oA [97, 98]] = fA [97, 98] := by simp [viewL, carryL, findL, withL, withoutL, insL]
theorem ex3 : appendL [] nA [99, 100] = ([oA [99, 100]], 0) := by unfold appendL; rw [nameA]; rfl
theorem ex4 : viewL (fA [97, 98]) [oA [99, 100]] = fA [97, 98, 99, 100] := by simp [viewL, carryL, findL, withL, withoutL, insL]
theorem ex5 : removeL (fA [97, 98]) [oA [99, 100]] nA = ([oA [99, 100], oR], 0) := by unfold removeL; rw [ex4]; simp [findL]
theorem ex6 : viewL (fA [97, 98]) [oA [99, 100], oR] = [] := by simp [viewL, carryL, findL, withL, withoutL, insL]
theorem ex7 : renameL (fA [97, 98]) [oA [99, 100], oR] ⟨#[120]⟩ ⟨#[121]⟩ = ([oA [99, 100], oR], 11) := by unfold renameL; rw [ex6]; simp [findL]
theorem ex8 : crashL (fA [97, 98]) [oA [99, 100], oR] 0 1 = fA [97, 98, 99] := by
  have : keepN 0 ([oA [99, 100], oR] : List S123).length = 0 := by decide
  unfold crashL
  rw [dif_pos (by rw [this]; decide)]
  simp only [this]
  simp [viewL, carryL, findL, withL, withoutL, insL, tornL, mn]
theorem ex9 : findL (fA [97, 98, 99]) nA = some [97, 98, 99] := by simp [findL]
theorem dp_step {w w1 w2 : World} {S : Nat → Prop} {base : Nat} (hB : Below base w w1) (hb : base ≤ w.heap.size) (hS : ∀ k, S k → base ≤ k) (hW : Wr w1 w2 S) : Below base w w2 ∧ ∀ k, ext S w1 w2 k → base ≤ k := by
  have h1 := hB.size
  refine ⟨⟨hW.1.trans hB.os, hW.2.1.trans hB.tape, hW.2.2.1.trans hB.output, Nat.le_trans hB.size hW.size, fun k hk => (hW.2.2.2.2 k (by omega) (fun h => by have := hS k h; omega)).trans (hB.block k hk)⟩, fun k hk => ?_⟩
  rcases hk.1 with h | h
  · exact hS k h
  · omega
theorem CF_one {w : World} {b : Nat} {f : S109} {B : Option Addr} {d : Nat} (hb : w.heap[b]? = some (.cells (fileC f B d) 109 (0, 0))) (hd : f.f1.length ≤ d) (hC : CB w B f.f1) : CF w (some ⟨b, 0, none⟩) [f] := by
  refine ⟨rfl, by simp, fun _ => ⟨_, rfl, fun j p hj => ?_⟩⟩
  rcases j with _ | j
  · simp at hj
    subst hj
    refine ⟨_, rfl, k109_mk w f hd hC, fun i v hi => ?_⟩
    show w.cell? (Addr.add ⟨b, 0, none⟩ (0 * 2 + i)) = _
    rw [show Addr.add ⟨b, 0, none⟩ (0 * 2 + i) = ⟨b, i, none⟩ from by simp [Addr.add, eq_comm], blk_cell hb i]
    rw [← hi]
    simp
  · simp at hj
theorem sz_ex : ∀ {l : List S109} {ops : List S123} {n : Nat}, n + ops.length ≤ 100 → l.length + ops.length ≤ 100 → byF l + byO ops ≤ 100 → Sz l ops n := fun h1 h2 h3 => ⟨by omega, by omega, by omega⟩
set_option maxHeartbeats 4000000 in
set_option maxRecDepth 100000 in
theorem works_disk (w : World) : Calls Try.prog 63 #[] w (TruePost w) := by
  have kc := fun (w : World) (C : Array Value) (n c : Nat) => Lib.run_convert_bytes_const (P := Try.prog) w 22 5 C n c Try.underlying22 Try.underlying5
  have kc1 := fun (w : World) (o : Obj) (C : Array Value) (n c : Nat) => Lib.run_convert_bytes_const (P := Try.prog) (w.alloc o) 22 5 C n c Try.underlying22 Try.underlying5
  simp only [World.size_alloc] at kc1
  have hu109 := Try.underlying109
  go_enter Try.func63, Try.ntmps63
  go_wp2_with fail
  refine (sNew w).mono ?_
  rintro e w1 ⟨g, rfl, hD1, hB1⟩
  have HD1 := Aside0.mk hD1
  have HB1 := Aside0.mk hB1
  obtain ⟨S1, hS1⟩ : ∃ S1, S1 = ext (fun _ => False) w w1 := ⟨_, rfl⟩
  have HS1 := Aside0.mk (show ∀ k, S1 k → w.heap.size ≤ k by rw [hS1]; intro k hk; exact hk.1.elim (fun h => h.elim) id)
  rw [← hS1] at HD1
  clear hD1 hB1 hS1
  go_wp2_with fail
  refine (sAppend (w1.alloc (Obj.cells #[.int .u8 97, .int .u8 98] 5 (2, 3))) S1 g 0 [] [] nA (some ⟨w1.heap.size, 0, none⟩) 2 [97, 98] (HD1.out.move (below_alloc (Below.refl _ _) _)) (sz_ex (by decide) (by decide) (by decide)) (CB_of_row (l := [97, 98]) (heap_alloc_new w1 _) (by decide)) (by decide) (by decide)).mono ?_
  rw [ex1]
  rintro e w2 ⟨rfl, hD2, hW2⟩
  obtain ⟨hB2, hS2⟩ := dp_step (base := w.heap.size) (below_alloc' HB1.out _ HB1.out.size) (Nat.le_refl _) HS1.out hW2
  have HB2 := Aside0.mk hB2
  obtain ⟨S2, hE2⟩ : ∃ S, S = ext S1 (w1.alloc (Obj.cells #[.int .u8 97, .int .u8 98] 5 (2, 3))) w2 := ⟨_, rfl⟩
  rw [← hE2] at hD2 hS2
  have HD2 := Aside0.mk hD2
  have HS2 := Aside0.mk hS2
  clear hD2 hW2 hB2 hS2 hE2 HD1 HB1 HS1
  go_wp2_with fail
  refine (sSync w2 S2 g 0 [] [oA [97, 98]] HD2.out (sz_ex (by decide) (by decide) (by decide))).mono ?_
  rw [ex2]
  rintro e w3 ⟨rfl, hD3, hW3⟩
  obtain ⟨hB3, hS3⟩ := dp_step (base := w.heap.size) (HB2.out) (Nat.le_refl _) HS2.out hW3
  have HB3 := Aside0.mk hB3
  obtain ⟨S3, hE3⟩ : ∃ S, S = ext S2 (w2) w3 := ⟨_, rfl⟩
  rw [← hE3] at hD3 hS3
  have HD3 := Aside0.mk hD3
  have HS3 := Aside0.mk hS3
  clear hD3 hW3 hB3 hS3 hE3 HD2 HB2 HS2
  replace HD3 : Aside0 (DSt w3 S3 g (fA [97, 98]) [] 1) := HD3
  go_wp2_with fail
  refine (sAppend (w3.alloc (Obj.cells #[.int .u8 99, .int .u8 100] 5 (2, 3))) S3 g 1 (fA [97, 98]) [] nA (some ⟨w3.heap.size, 0, none⟩) 2 [99, 100] (HD3.out.move (below_alloc (Below.refl _ _) _)) (sz_ex (by decide) (by decide) (by decide)) (CB_of_row (l := [99, 100]) (heap_alloc_new w3 _) (by decide)) (by decide) (by decide)).mono ?_
  rw [ex3]
  rintro e w4 ⟨rfl, hD4, hW4⟩
  obtain ⟨hB4, hS4⟩ := dp_step (base := w.heap.size) (below_alloc' HB3.out _ HB3.out.size) (Nat.le_refl _) HS3.out hW4
  have HB4 := Aside0.mk hB4
  obtain ⟨S4, hE4⟩ : ∃ S, S = ext S3 (w3.alloc (Obj.cells #[.int .u8 99, .int .u8 100] 5 (2, 3))) w4 := ⟨_, rfl⟩
  rw [← hE4] at hD4 hS4
  have HD4 := Aside0.mk hD4
  have HS4 := Aside0.mk hS4
  clear hD4 hW4 hB4 hS4 hE4 HD3 HB3 HS3
  go_wp2_with fail
  refine (sRemove w4 S4 g 1 (fA [97, 98]) [oA [99, 100]] nA HD4.out (sz_ex (by decide) (by decide) (by decide)) (by decide)).mono ?_
  rw [ex5]
  rintro e w5 ⟨rfl, hD5, hW5⟩
  obtain ⟨hB5, hS5⟩ := dp_step (base := w.heap.size) (HB4.out) (Nat.le_refl _) HS4.out hW5
  have HB5 := Aside0.mk hB5
  obtain ⟨S5, hE5⟩ : ∃ S, S = ext S4 (w4) w5 := ⟨_, rfl⟩
  rw [← hE5] at hD5 hS5
  have HD5 := Aside0.mk hD5
  have HS5 := Aside0.mk hS5
  clear hD5 hW5 hB5 hS5 hE5 HD4 HB4 HS4
  go_wp2_with fail
  refine (sRename w5 S5 g 1 (fA [97, 98]) [oA [99, 100], oR] ⟨#[120]⟩ ⟨#[121]⟩ HD5.out (sz_ex (by decide) (by decide) (by decide)) (by decide) (by decide)).mono ?_
  rw [ex7]
  rintro e w6 ⟨rfl, hD6, hW6⟩
  obtain ⟨hB6, hS6⟩ := dp_step (base := w.heap.size) (HB5.out) (Nat.le_refl _) HS5.out hW6
  have HB6 := Aside0.mk hB6
  obtain ⟨S6, hE6⟩ : ∃ S, S = ext S5 (w5) w6 := ⟨_, rfl⟩
  rw [← hE6] at hD6 hS6
  have HD6 := Aside0.mk hD6
  have HS6 := Aside0.mk hS6
  clear hD6 hW6 hB6 hS6 hE6 HD5 HB5 HS5
  go_wp2_with fail
  have hR := sRead w6 S6 g 1 (fA [97, 98]) [oA [99, 100], oR] nA HD6.out (sz_ex (by decide) (by decide) (by decide)) (by decide)
  rw [ex6, show findL ([] : List S109) nA = none from rfl] at hR
  refine hR.mono ?_
  clear hR
  rintro e w7 ⟨⟨v7, rfl, _⟩, hB7⟩
  have HD7 := Aside0.mk (HD6.out.move hB7)
  have HB7 := Aside0.mk (below_then HB6.out HB6.out.size hB7)
  clear hB7 HD6 HB6
  go_wp2_with fail
  refine (sPending w7 S6 g 1 (fA [97, 98]) [oA [99, 100], oR] HD7.out).mono ?_
  rintro e w8 ⟨rfl, h8⟩
  rw [h8]
  clear h8 w8
  go_wp2_with fail
  have hR := sView w7 S6 g 1 (fA [97, 98]) [oA [99, 100], oR] HD7.out (sz_ex (by decide) (by decide) (by decide))
  rw [ex6] at hR
  refine hR.mono ?_
  clear hR
  rintro e w8 ⟨⟨A8, c8, rfl, _, _⟩, hB8⟩
  have HD8 := Aside0.mk (HD7.out.move hB8)
  have HB8 := Aside0.mk (below_then HB7.out HB7.out.size hB8)
  clear hB8 HD7 HB7
  go_wp2_with fail
  refine (sFiles w8 S6 g 1 (fA [97, 98]) [oA [99, 100], oR] HD8.out (sz_ex (by decide) (by decide) (by decide))).mono ?_
  rintro e w9 ⟨⟨A9, c9, rfl, _, hC9⟩, hB9⟩
  have HC9 := Aside0.mk hC9
  have HD9 := Aside0.mk (HD8.out.move hB9)
  have HB9 := Aside0.mk (below_then HB8.out HB8.out.size hB9)
  clear hB9 HD8 HB8 hC9
  go_wp2_with fail
  have hc9 := Kd.C_alloc (CB_of_row (l := [97, 98]) (heap_alloc_new w9 (Obj.cells #[.int .u8 97, .int .u8 98] 5 (2, 3))) (by decide)) (.cells #[.string nA, .slice (some ⟨w9.heap.size, 0, none⟩) 2 2] 109)
  have hf9 := blk_new (w9.alloc (Obj.cells #[.int .u8 97, .int .u8 98] 5 (2, 3))) (.cells #[.string nA, .slice (some ⟨w9.heap.size, 0, none⟩) 2 2] 109)
  rw [alloc_size] at hf9
  refine (same_true A9 c9 _ 1 (fA [97, 98]) _ (Kd.C_alloc (Kd.C_alloc HC9.out _) _) (CF_one (f := ⟨nA, [97, 98]⟩) hf9 (by decide) hc9)).mono ?_
  clear hc9 hf9
  rintro e w10 ⟨rfl, hd10⟩
  have hB10 := Drawn0.to_below hd10
  have HD10 := Aside0.mk (((HD9.out.move (below_alloc (Below.refl _ _) _)).move (below_alloc (Below.refl _ _) _)).move hB10)
  have HB10 := Aside0.mk (below_then (below_alloc' (below_alloc' HB9.out (Obj.cells #[.int .u8 97, .int .u8 98] 5 (2, 3)) HB9.out.size) (.cells #[.string nA, .slice (some ⟨w9.heap.size, 0, none⟩) 2 2] 109) (by rw [alloc_size]; have := HB9.out.size; omega)) (by rw [alloc_size, alloc_size]; have := HB9.out.size; omega) hB10)
  clear hB10 hd10 HD9 HB9 HC9
  have HS10 := HS6
  go_wp2_with fail
  refine (sCrash w10 S6 g 1 (fA [97, 98]) [oA [99, 100], oR] 0 1 HD10.out (sz_ex (by decide) (by decide) (by decide))).mono ?_
  rw [ex8]
  rintro e w11 ⟨rfl, hD11, hW11⟩
  obtain ⟨hB11, hS11⟩ := dp_step (base := w.heap.size) (HB10.out) (Nat.le_refl _) HS10.out hW11
  have HB11 := Aside0.mk hB11
  obtain ⟨S11, hE11⟩ : ∃ S, S = ext S6 (w10) w11 := ⟨_, rfl⟩
  rw [← hE11] at hD11 hS11
  have HD11 := Aside0.mk hD11
  have HS11 := Aside0.mk hS11
  clear hD11 hW11 hB11 hS11 hE11 HD10 HB10 HS10 HS6
  replace HD11 : Aside0 (DSt w11 S11 g (fA [97, 98, 99]) [] 3) := HD11
  go_wp2_with fail
  have hR := sRead w11 S11 g 3 (fA [97, 98, 99]) [] nA HD11.out (sz_ex (by decide) (by decide) (by decide)) (by decide)
  rw [show viewL (fA [97, 98, 99]) [] = fA [97, 98, 99] from rfl, ex9] at hR
  refine hR.mono ?_
  clear hR
  rintro e w12 ⟨⟨v12, rfl, hr12⟩, hB12⟩
  obtain ⟨A12, c12, rfl⟩ := Kd.R_slice hr12
  have hcv : (convert 22 9 (.slice A12 3 c12)).run Try.prog w12 = .ok (.string (strOfNums [97, 98, 99])) w12 := Kd.C_string (P := Try.prog) (A := A12) (c := c12) Try.underlying22 Try.underlying5 Try.underlying9 (Kd.R_reads' hr12).2.2
  rw [show strOfNums [97, 98, 99] = (⟨#[97, 98, 99]⟩ : ByteArray) from rfl] at hcv
  have HD12 := Aside0.mk (HD11.out.move hB12)
  have HB12 := Aside0.mk (below_then HB11.out HB11.out.size hB12)
  clear hB12 HD11 HB11 hr12
  go_wp2_with fail
  refine (sPending w12 S11 g 3 (fA [97, 98, 99]) [] HD12.out).mono ?_
  rintro e w13 ⟨rfl, h13⟩
  rw [h13]
  clear h13 w13
  go_wp2_with fail
  go_ret
  exact ⟨rfl, HB12.out⟩
end Go.Proofs.Ytfaniohoplbdoaa.My
/- A disk and the reference's in a statement's loop. -/
namespace Go.Proofs.Ytfaniohoplbdoaa.My
open Go Go.RowKit Go.Proofs.YtfaniohoplbdoaaW.PrintWords Go.Proofs.YtfaniohoplbdoaaW.PrintLast Go.Proofs.YtfaniohoplbdoaaW.PrintMore Go.Proofs.Ytfaniohoplbdoaa.PDiskActs
set_option linter.unusedVariables false
set_option linter.unusedSimpArgs false
theorem byO_nil : byO [] = 0 := rfl
theorem byO_snoc (l : List S123) (o : S123) : byO (l ++ [o]) = byO l + o.f3.length := by simp [byO]
theorem crash_length (l : List S109) (ops : List S123) (keep torn : Int) : (crashL l ops keep torn).length ≤ l.length + ops.length := by
  have hk := keepN_le keep ops.length
  have hv := viewL_length (ops.take (keepN keep ops.length)) l
  rw [List.length_take] at hv
  unfold crashL
  split
  · split
    · have := carryL_length (viewL l (ops.take (keepN keep ops.length))) (tornL (ops[keepN keep ops.length]'(by assumption)) torn)
      omega
    · omega
  · omega
theorem crash_bytes (l : List S109) (ops : List S123) (keep torn : Int) : byF (crashL l ops keep torn) ≤ byF l + byO ops := by
  have hv := byF_viewL (ops.take (keepN keep ops.length)) l
  have ht := byO_takeN ops (keepN keep ops.length)
  unfold crashL
  split
  · rename_i hk
    split
    · have h1 := byF_carryL (viewL l (ops.take (keepN keep ops.length))) (tornL (ops[keepN keep ops.length]'hk) torn)
      have h2 := byO_take hk
      have h3 : (tornL (ops[keepN keep ops.length]'hk) torn).f3.length ≤ (ops[keepN keep ops.length]'hk).f3.length := by unfold tornL; simp; omega
      omega
    · omega
  · omega
theorem do_len (l : List S109) (ops : List S123) (n : Nat) (o : S82) : (doL l ops n o).2.2 + (doL l ops n o).2.1.length ≤ n + ops.length + 1 ∧ (doL l ops n o).1.length + (doL l ops n o).2.1.length ≤ l.length + ops.length + 1 ∧ byF (doL l ops n o).1 + byO (doL l ops n o).2.1 ≤ byF l + byO ops + o.f3.length := by
  unfold doL appendL removeL renameL
  have h1 := viewL_length ops l
  have h2 := byF_viewL ops l
  have h3 := crash_length l ops o.f4 o.f5
  have h4 := crash_bytes l ops o.f4 o.f5
  repeat' split
  all_goals (simp only [List.length_append, List.length_singleton, byO_snoc, List.length_nil, byO_nil]; refine ⟨?_, ?_, ?_⟩ <;> omega)
theorem XSt.of_load {w w' : World} {u v : Value} {l : List S109} (hu : VF w' (fun k => w.heap.size ≤ k) u l) (hv : VO w' (fun k => w.heap.size ≤ k) v []) (hB : Below w.heap.size w w') : XSt w' (ext (fun _ => False) w w') u v l [] :=
  XSt.made hu hv hB (fun _ hk => hk) (fun k hk hl => by omega)
theorem ext_base {S : Nat → Prop} {w w' : World} {base xb : Nat} (hb : base ≤ w.heap.size) (hx : xb < w.heap.size) (hS : ∀ k, S k → base ≤ k ∧ k ≠ xb) {S' : Nat → Prop} (h : ∀ k, S' k → S k ∨ w.heap.size ≤ k) : ∀ k, S' k → base ≤ k ∧ k ≠ xb := by
  intro k hk
  rcases h k hk with h | h
  · exact hS k h
  · exact ⟨by omega, by omega⟩
/-- What stands when the reference's new disk was stored into its variable, the block xb. -/
theorem pair_stored {w2 w3 : World} {S T : Nat → Prop} {g n xb : Nat} {L : List S109} {O : List S123} {u v x y : Value} (hD : DSt w2 S g L O n) (hX : XSt w2 T u v L O) (h3 : Below w2.heap.size w2 w3) (hS : ∀ k, S k → k ≠ xb) (hT : ∀ k, T k → k ≠ xb) (hb : w2.heap[xb]? = some (.cells #[x, y] 53 (0, 0))) :
    DSt ((w3.setCell ⟨xb, 0, none⟩ u).setCell ⟨xb, 1, none⟩ v) S g L O n ∧ XSt ((w3.setCell ⟨xb, 0, none⟩ u).setCell ⟨xb, 1, none⟩ v) T u v L O ∧ ((w3.setCell ⟨xb, 0, none⟩ u).setCell ⟨xb, 1, none⟩ v).heap[xb]? = some (.cells #[u, v] 53 (0, 0)) ∧ Wr w2 ((w3.setCell ⟨xb, 0, none⟩ u).setCell ⟨xb, 1, none⟩ v) (fun k => k = xb) := by
  have hw := wr_set2 w3 xb u v
  exact ⟨(hD.move h3).off hw (fun k hk e => hS k hk e), (hX.move h3).off hw (fun k hk e => hT k hk e), blk_put2 ((h3.block _ (blk_lt hb)).trans hb) _ _, (Wr.of_below _ h3).trans hw (fun k h => .inl h)⟩
theorem wr_below {base : Nat} {w w1 w2 : World} {S : Nat → Prop} (hB : Below base w w1) (hb : base ≤ w1.heap.size) (hS : ∀ k, S k → base ≤ k) (hW : Wr w1 w2 S) : Below base w w2 :=
  ⟨hW.1.trans hB.os, hW.2.1.trans hB.tape, hW.2.2.1.trans hB.output, Nat.le_trans hB.size hW.size, fun k hk => (hW.2.2.2.2 k (by omega) (fun h => by have := hS k h; omega)).trans (hB.block k hk)⟩
/-- A disk and the reference's, side by side; the reference's lies in the variable xb. -/
structure Pair (base : Nat) (w : World) (g xb : Nat) (S T : Nat → Prop) (A : Option Addr) (c : Nat) (A' : Option Addr) (c' : Nat) (L : List S109) (O : List S123) (n m y : Nat) : Prop where
  dst : DSt w S g L O n
  xst : XSt w T (.slice A L.length c) (.slice A' O.length c') L O
  dis : ∀ k, S k → ¬ T k
  sb : ∀ k, S k → base ≤ k ∧ k ≠ xb
  tb : ∀ k, T k → base ≤ k ∧ k ≠ xb
  blk : w.heap[xb]? = some (.cells #[.slice A L.length c, .slice A' O.length c'] 53 (0, 0))
  xbb : base ≤ xb
  s1 : n + O.length ≤ m
  s2 : L.length + O.length ≤ m
  s3 : byF L + byO O ≤ y
theorem Pair.sz {base : Nat} {w : World} {g xb : Nat} {S T : Nat → Prop} {A : Option Addr} {c : Nat} {A' : Option Addr} {c' : Nat} {L : List S109} {O : List S123} {n m y : Nat} (h : Pair base w g xb S T A c A' c' L O n m y) (hm : m ≤ 1000000) (hy : y ≤ 1000000000) : Sz L O n := ⟨Nat.le_trans h.s1 hm, Nat.le_trans h.s2 hm, Nat.le_trans h.s3 hy⟩
theorem Pair.move {base : Nat} {w w' : World} {g xb : Nat} {S T : Nat → Prop} {A : Option Addr} {c : Nat} {A' : Option Addr} {c' : Nat} {L : List S109} {O : List S123} {n m y : Nat} (h : Pair base w g xb S T A c A' c' L O n m y) (hB : Below w.heap.size w w') : Pair base w' g xb S T A c A' c' L O n m y :=
  ⟨h.dst.move hB, h.xst.move hB, h.dis, h.sb, h.tb, (hB.block _ (blk_lt h.blk)).trans h.blk, h.xbb, h.s1, h.s2, h.s3⟩
/-- A round: 'do', then the variable is stored. -/
theorem Pair.next {base : Nat} {w w2 w3 : World} {g xb : Nat} {S T S' T' : Nat → Prop} {A : Option Addr} {c : Nat} {A' : Option Addr} {c' : Nat} {L : List S109} {O : List S123} {n m y : Nat} {A2 : Option Addr} {c2 : Nat} {A3 : Option Addr} {c3 : Nat} {r : List S109 × List S123 × Nat} {o : S82} (h : Pair base w g xb S T A c A' c' L O n m y) (hr : r = doL L O n o) (hb : base ≤ w.heap.size)
    (hD : DSt w2 S' g r.1 r.2.1 r.2.2) (hX : XSt w2 T' (.slice A2 r.1.length c2) (.slice A3 r.2.1.length c3) r.1 r.2.1) (hdis : ∀ k, S' k → ¬ T' k) (hS : ∀ k, S' k → S k ∨ w.heap.size ≤ k) (hT : ∀ k, T' k → T k ∨ w.heap.size ≤ k) (hW : Wr w w2 S) (h3 : Below w2.heap.size w2 w3) :
    Pair base ((w3.setCell ⟨xb, 0, none⟩ (.slice A2 r.1.length c2)).setCell ⟨xb, 1, none⟩ (.slice A3 r.2.1.length c3)) g xb S' T' A2 c2 A3 c3 r.1 r.2.1 r.2.2 (m + 1) (y + o.f3.length) ∧ Wr w ((w3.setCell ⟨xb, 0, none⟩ (.slice A2 r.1.length c2)).setCell ⟨xb, 1, none⟩ (.slice A3 r.2.1.length c3)) (fun k => S k ∨ k = xb) ∧ w2.heap[xb]? = some (.cells #[.slice A L.length c, .slice A' O.length c'] 53 (0, 0)) := by
  have hxl := blk_lt h.blk
  have hblk : w2.heap[xb]? = some (.cells #[.slice A L.length c, .slice A' O.length c'] 53 (0, 0)) := (hW.2.2.2.2 xb hxl (fun hk => (h.sb xb hk).2 rfl)).trans h.blk
  have hS' := ext_base hb hxl h.sb hS (w' := w2)
  have hT' := ext_base hb hxl h.tb hT (w' := w2)
  obtain ⟨p1, p2, p3, p4⟩ := pair_stored hD hX h3 (fun k hk => (hS' k hk).2) (fun k hk => (hT' k hk).2) hblk
  have hl := do_len L O n o
  rw [← hr] at hl
  have s1 := h.s1
  have s2 := h.s2
  have s3 := h.s3
  exact ⟨⟨p1, p2, hdis, hS', hT', p3, h.xbb, by omega, by omega, by omega⟩, Wr.trans ⟨hW.1, hW.2.1, hW.2.2.1, hW.2.2.2.1, fun k hk hn => hW.2.2.2.2 k hk (fun h => hn (.inl h))⟩ p4 (fun k hk => .inl (.inr hk)), hblk⟩
/-- The variable made. -/
theorem Pair.made {base : Nat} {w1 w2 w3 : World} {g xb n : Nat} {S : Nat → Prop} {l : List S109} {u v : Value} (hD : DSt w1 S g l [] n) (hS : ∀ k, S k → base ≤ k) (hb : base ≤ w1.heap.size) (hX : XSt w2 (ext (fun _ => False) w1 w2) u v l []) (hB : Below w1.heap.size w1 w2) (hx : xb = w2.heap.size) (h3 : Below w2.heap.size w2 w3) (hblk : w3.heap[xb]? = some (.cells #[u, v] 53 (0, 0))) :
    ∃ A c A' c', u = .slice A l.length c ∧ v = .slice A' ([] : List S123).length c' ∧ Pair base w3 g xb S (ext (fun _ => False) w1 w2) A c A' c' l [] n (max n l.length) (byF l) := by
  obtain ⟨A, c, A', c', rfl, rfl⟩ := hX.slices
  have hlt := hD.lt
  have hs := hB.size
  refine ⟨A, c, A', c', rfl, rfl, ⟨(hD.move hB).move h3, hX.move h3, fun k hk h => ?_, fun k hk => ⟨hS k hk, ?_⟩, fun k hk => ⟨?_, ?_⟩, hblk, by omega, by simp; omega, by simp; omega, by simp [byO]⟩⟩
  · have := hlt k hk
    exact h.1.elim (fun h => h) (fun h => by omega)
  · have := hlt k hk; omega
  · exact hk.1.elim (fun h => h.elim) (fun h => by omega)
  · have := hk.2; omega
end Go.Proofs.Ytfaniohoplbdoaa.My
/- The statement DiskActs. -/
namespace Go.Proofs.Ytfaniohoplbdoaa.My
open Go Go.RowKit Go.Proofs.YtfaniohoplbdoaaW.PrintWords Go.Proofs.YtfaniohoplbdoaaW.PrintLast Go.Proofs.YtfaniohoplbdoaaW.PrintMore Go.Proofs.Ytfaniohoplbdoaa.PDiskActs
set_option linter.unusedVariables false
set_option linter.unusedSimpArgs false
/-- What a statement's files are, as an argument. -/
structure ArgF (w : World) (A : Option Addr) (c : Nat) (l : List S109) : Prop where
  rd : CF w A l
  cap : l.length ≤ c
  len : l.length ≤ 3518437208780
  data : ∀ f ∈ l, f.f1.length ≤ 140737488351232
  names : ∀ f ∈ l, f.f0.size ≤ maxLen
/-- What a statement's operations are, as an argument. -/
structure ArgP (w : World) (A : Option Addr) (ops : List S82) : Prop where
  rd : CP w A ops
  data : ∀ o ∈ ops, o.f3.length ≤ 140737488351232
  names : ∀ o ∈ ops, o.f1.size ≤ maxLen ∧ o.f2.size ≤ maxLen
theorem byP_takeN (ops : List S82) (k : Nat) : byP (ops.take k) ≤ byP ops := by
  have : byP ops = byP (ops.take k) + byP (ops.drop k) := by
    conv => lhs; rw [← List.take_append_drop k ops]
    unfold byP
    rw [List.map_append, List.sum_append]
  omega
theorem bigD_false {l : List S109} {ops : List S82} (h : bigD l ops = false) : l.length ≤ 40 ∧ ops.length ≤ 60 ∧ l.length + byF l + ops.length + byP ops ≤ 3000 := by
  unfold bigD at h
  simp only [Bool.or_eq_false_iff, decide_eq_false_iff_not] at h
  omega
theorem load_bytes (l : List S109) : byF (loadL l) ≤ byF l := by
  have : ∀ (r acc : List S109), byF (r.foldl withL acc) ≤ byF acc + byF r := by
    intro r
    induction r with
    | nil => intro acc; simp [byF]
    | cons f r ih =>
      intro acc
      have h1 := ih (withL acc f)
      have h2 := byF_insL f (withoutL acc f.f0)
      have h3 := byF_without f.f0 acc
      have h4 : byF (withL acc f) = f.f1.length + byF (withoutL acc f.f0) := h2
      simp only [List.foldl_cons]
      have h5 : byF (f :: r) = f.f1.length + byF r := by simp [byF]
      omega
  have := this l []
  simp [byF] at this
  exact this
theorem ArgF.move {w w' : World} {A : Option Addr} {c : Nat} {l : List S109} (h : ArgF w A c l) (hB : Below w.heap.size w w') : ArgF w' A c l := ⟨Kd.C_below h.rd hB, h.cap, h.len, h.data, h.names⟩
theorem ArgP.move {w w' : World} {A : Option Addr} {l : List S82} (h : ArgP w A l) (hB : Below w.heap.size w w') : ArgP w' A l := ⟨Kd.C_below h.rd hB, h.data, h.names⟩
theorem dload_no {A : Option Addr} {c : Nat} {l : List S109} {w : World} (h : ArgF w A c l) (hlo : loadOk l = false) : Calls Try.prog 37 #[.slice A l.length c] w fun e w' => e = .returned (.pointer none) ∧ Below w.heap.size w w' :=
  (dload_calls A c l w h.rd h.len h.data h.names).mono fun e w' ⟨hB, hc⟩ => by
    rcases hc with ⟨h1, _⟩ | ⟨_, h1⟩
    · rw [hlo] at h1; cases h1
    · exact ⟨h1, hB⟩
theorem dload_yes {A : Option Addr} {c : Nat} {l : List S109} {w : World} (h : ArgF w A c l) (hlo : loadOk l = true) : Calls Try.prog 37 #[.slice A l.length c] w fun e w' => ∃ (g : Nat) (S : Nat → Prop), e = .returned (.pointer (some ⟨g, 0, none⟩)) ∧ DSt w' S g (loadL l) [] l.length ∧ (∀ k, S k → w.heap.size ≤ k) ∧ Below w.heap.size w w' :=
  (dload_calls A c l w h.rd h.len h.data h.names).mono fun e w' ⟨hB, hc⟩ => by
    rcases hc with ⟨_, g, h1, h2⟩ | ⟨h1, _⟩
    · exact ⟨g, _, h1, h2, fun k hk => hk.1.elim (fun h => h.elim) (fun h => h), hB⟩
    · rw [hlo] at h1; cases h1
theorem xload_no {A : Option Addr} {c : Nat} {l : List S109} {w : World} (h : ArgF w A c l) (hlo : loadOk l = false) : Calls Try.prog 38 #[.slice A l.length c] w fun e w' => (∃ A2 n2 c2 A3 n3 c3, e = .returned (.tuple #[.agg #[.slice A2 n2 c2, .slice A3 n3 c3], .bool false])) ∧ Below w.heap.size w w' :=
  (load_calls (fun k => w.heap.size ≤ k) A c l w (fun _ hk => hk) h.rd h.cap h.len h.data (fun f hf => by have := h.names f hf; unfold maxLen at this; omega)).mono fun e w' ⟨⟨u, v, he, hu, hv⟩, hB⟩ => by
    obtain ⟨A2, c2, rfl⟩ := Kd.V_slice hu
    obtain ⟨A3, c3, rfl⟩ := Kd.V_slice hv
    rw [hlo] at he
    exact ⟨⟨_, _, _, _, _, _, he⟩, hB⟩
theorem xload_yes {A : Option Addr} {c : Nat} {l : List S109} {w : World} (h : ArgF w A c l) (hlo : loadOk l = true) : Calls Try.prog 38 #[.slice A l.length c] w fun e w' => ∃ u v, e = .returned (.tuple #[.agg #[u, v], .bool true]) ∧ XSt w' (ext (fun _ => False) w w') u v (loadL l) [] ∧ Below w.heap.size w w' :=
  (load_calls (fun k => w.heap.size ≤ k) A c l w (fun _ hk => hk) h.rd h.cap h.len h.data (fun f hf => by have := h.names f hf; unfold maxLen at this; omega)).mono fun e w' ⟨⟨u, v, he, hu, hv⟩, hB⟩ => by
    rw [hlo] at he hu
    exact ⟨u, v, he, XSt.of_load hu hv hB, hB⟩
theorem large_arg {A : Option Addr} {c : Nat} {l : List S109} {A' : Option Addr} {c' : Nat} {ops : List S82} {w : World} (h : ArgF w A c l) (h' : ArgP w A' ops) : Calls Try.prog 62 #[.slice A l.length c, .slice A' ops.length c'] w fun e w' => e = .returned (.bool (bigD l ops)) ∧ Below w.heap.size w w' := largeD_calls A c l A' c' ops w h.rd h'.rd h.data h'.data
set_option maxHeartbeats 4000000 in
set_option maxRecDepth 100000 in
theorem law_acts (A : Option Addr) (c : Nat) (l : List S109) (A' : Option Addr) (c' : Nat) (ops : List S82) (w : World) (hF : ArgF w A c l) (hP : ArgP w A' ops) :
    Calls Try.prog 13 #[.slice A l.length c, .slice A' ops.length c'] w (TruePost w) := by
  have hm := Kd.C_max hP.rd
  have HF := Aside0.mk (fun (W : World) (hB : Below w.heap.size w W) => hF.move hB)
  have HP := Aside0.mk (fun (W : World) (hB : Below w.heap.size w W) => hP.move hB)
  have HBig := Aside0.mk (fun (W : World) (hB : Below w.heap.size w W) => large_arg (c' := c') (hF.move hB) (hP.move hB))
  have hu53 := Try.underlying53
  have hu82 := Try.underlying82
  cases hlo : loadOk l with
  | false =>
    have HLo := Aside0.mk (dload_no hF hlo)
    have HLx := Aside0.mk (fun (W : World) (hB : Below w.heap.size w W) => xload_no (hF.move hB) hlo)
    clear hlo hF hP
    go_enter Try.func13, Try.ntmps13
    go_wp2_with (first | (go_at_call 37; with_reducible refine HLo.out.mono ?_; rintro e w1 ⟨rfl, hB1⟩; have HB1 := Aside0.mk hB1; clear hB1) | (go_at_call 38; with_reducible refine (HLx.out _ HB1.out).mono ?_; rintro e w2 ⟨⟨A2, n2, c2, A3, n3, c3, rfl⟩, hB2⟩; have HB2 := Aside0.mk (below_then HB1.out HB1.out.size hB2); clear hB2) | (go_at_call 63; with_reducible refine (works_disk _).mono ?_; rintro e w3 ⟨rfl, hB3⟩; have HB3 := Aside0.mk (below_then (below_alloc' HB2.out _ HB2.out.size) (by rw [alloc_size]; have := HB2.out.size; omega) hB3); clear hB3) | fail)
    go_ret
    exact ⟨rfl, HB3.out⟩
  | true =>
    have HLo := Aside0.mk (dload_yes hF hlo)
    have HLx := Aside0.mk (fun (W : World) (hB : Below w.heap.size w W) => xload_yes (hF.move hB) hlo)
    clear hlo hF hP
    have hlen := loadL_length l
    have hbts := load_bytes l
    obtain ⟨L0, hL0⟩ : ∃ L0, L0 = loadL l := ⟨_, rfl⟩
    rw [← hL0] at HLo HLx hlen hbts
    clear hL0
    go_enter Try.func13, Try.ntmps13
    go_wp2_with (first | (go_at_call 37; with_reducible refine HLo.out.mono ?_; rintro e w1 ⟨g, S, rfl, hD1, hS1, hB1⟩; have HB1 := Aside0.mk hB1; have HD1 := Aside0.mk hD1; have HS1 := Aside0.mk hS1; clear hB1 hD1 hS1) | (go_at_call 38; with_reducible refine (HLx.out _ HB1.out).mono ?_; rintro e w2 ⟨u, v, rfl, hx, hB2⟩; obtain ⟨A2, c2, A3, c3, rfl, rfl, hP⟩ := Pair.made (w3 := w2.alloc (.cells #[u, v] 53)) HD1.out HS1.out HB1.out.size hx hB2 rfl (below_alloc (Below.refl _ _) _) (blk_new _ _); have HPr := Aside0.mk hP; have HB2 := Aside0.mk (below_then HB1.out HB1.out.size hB2); clear hx hB2 hP) | fail)
    have HBx := Aside0.mk (below_alloc' HB2.out (.cells #[.slice A2 L0.length c2, .slice A3 0 c3] 53) HB2.out.size)
    obtain ⟨xb, hxb⟩ : ∃ xb, xb = w2.heap.size := ⟨_, rfl⟩
    obtain ⟨wx, hwx⟩ : ∃ wx, wx = w2.alloc (.cells #[.slice A2 L0.length c2, .slice A3 0 c3] 53) := ⟨_, rfl⟩
    replace HPr : Aside0 (Pair w.heap.size (w2.alloc (.cells #[.slice A2 L0.length c2, .slice A3 0 c3] 53)) g w2.heap.size S (ext (fun _ => False) w1 w2) A2 c2 A3 c3 L0 [] l.length (max l.length L0.length) (byF L0)) := HPr
    rw [← hwx, ← hxb] at HPr
    rw [← hwx] at HBx ⊢
    rw [← hxb]
    clear hxb hwx HB1 HD1 HS1 HB2 HLo HLx
    refine (HBig.out _ HBx.out).mono ?_
    rintro e w3 ⟨rfl, hB3⟩
    have HP3 := Aside0.mk (HPr.out.move hB3)
    have HB3 := Aside0.mk (below_then HBx.out HBx.out.size hB3)
    clear hB3 HPr HBx HBig
    cases hbig : bigD l ops with
    | true =>
      clear hbig
      go_wp2_with (first | (go_at_call 63; with_reducible refine (works_disk _).mono ?_; rintro e w4 ⟨rfl, hB4⟩; have HB4 := Aside0.mk (below_then HB3.out HB3.out.size hB4); clear hB4) | fail)
      go_ret
      exact ⟨rfl, HB4.out⟩
    | false =>
      have hbd := bigD_false hbig
      have HBd := Aside0.mk hbd
      clear hbig hbd
      have hlen60 := HBd.out.2.1
      go_wp2_with fail
      go_loopw [39] (fun i wr => ∃ k : Nat, k ≤ ops.length ∧ i = .int .i64 k ∧ Aside0 (Below w.heap.size w wr) ∧ Aside0 (∃ S T A c A' c' L O n, Pair w.heap.size wr g xb S T A c A' c' L O n (40 + k) (byF l + byP (ops.take k)))) (fun i _ => ops.length - (intOf i).toNat)
      case atStart =>
        have h := HP3.out
        have h1 := HBd.out.1
        exact ⟨0, by omega, rfl, HB3, ⟨S, _, A2, c2, A3, c3, L0, [], l.length, h.dst, h.xst, h.dis, h.sb, h.tb, h.blk, h.xbb, by have := h.s1; omega, by have := h.s2; omega, by have := h.s3; omega⟩⟩
      case round =>
        obtain ⟨k, hk, rfl, HW, HPe⟩ := hrel
        obtain ⟨S, T, A2, c2, A3, c3, L, O, n, hpr⟩ := HPe.out
        have HPr := Aside0.mk hpr
        have hxlt := blk_lt hpr.blk
        have hz0 : wr.cell? ⟨xb, 0, none⟩ = some (.slice A2 L.length c2) := (blk_cell hpr.blk 0).trans rfl
        have hz1 : wr.cell? ⟨xb, 1, none⟩ = some (.slice A3 O.length c3) := (blk_cell hpr.blk 1).trans rfl
        clear hpr HPe HP3 HB3
        by_cases hlt : k < ops.length
        · obtain ⟨ad, B, d, rfl, hc0, hc1, hc2, hc3, hc4, hc5, hd, hCB⟩ := CP.at_ (HP.out _ HW.out).rd k hlt
          have HCB := Aside0.mk hCB
          have hnm := (HP.out _ HW.out).names ops[k] (List.getElem_mem hlt)
          have hda := (HP.out _ HW.out).data ops[k] (List.getElem_mem hlt)
          have HBY := Aside0.mk (byP_take_succ hlt)
          have HTk := Aside0.mk (byP_takeN ops (k + 1))
          obtain ⟨o, ho⟩ : ∃ o, o = ops[k] := ⟨_, rfl⟩
          rw [← ho] at hc0 hc1 hc2 hc3 hc4 hc5 hd HCB hnm hda HBY
          clear ho hCB
          have HPa := Aside0.mk (HPr.out.move (below_alloc (Below.refl _ _) (.cells (opC o B d) 82)))
          have HSz := Aside0.mk (HPa.out.sz (by omega) (by have := HBd.out.2.2; have := byP_takeN ops k; omega))
          have HDo := Aside0.mk (do_calls (wr.alloc (.cells (opC o B d) 82)) S T g n L O A2 c2 A3 c3 o B d HPa.out.dst HPa.out.xst HSz.out HPa.out.dis (Kd.C_alloc HCB.out _) hd hda hnm.1 hnm.2)
          obtain ⟨r, hr⟩ : ∃ r, r = doL L O n o := ⟨_, rfl⟩
          rw [← hr] at HDo
          have HRr := Aside0.mk hr
          have HWa := Aside0.mk (below_alloc' HW.out (.cells (opC o B d) 82) HW.out.size)
          clear hr
          go_wp2_with (first | (go_at_call 65; with_reducible refine HDo.out.mono ?_; rintro e w4 ⟨S', T', u, v, rfl, hD4, hX4, hdis4, hS4, hT4, hW4⟩; obtain ⟨A4, c4, A5, c5, rfl, rfl⟩ := hX4.slices; obtain ⟨hP5, hW5, hbk⟩ := Pair.next (w3 := w4) HPa.out HRr.out HWa.out.size hD4 hX4 hdis4 hS4 hT4 hW4 (Below.refl _ _); have HP5 := Aside0.mk hP5; have HW5 := Aside0.mk hW5; have hxl4 := blk_lt hbk; have hy0 : w4.cell? ⟨xb, 0, none⟩ = some (.slice A2 L.length c2) := (blk_cell hbk 0).trans rfl; have hy1 : w4.cell? ⟨xb, 1, none⟩ = some (.slice A3 O.length c3) := (blk_cell hbk 1).trans rfl; have hf0 := blk_frozen hbk 0; have hf1 := blk_frozen hbk 1; clear hD4 hX4 hdis4 hS4 hT4 hW4 hP5 hW5 hbk) | fail)
          have HP6 := Aside0.mk (HP5.out.move (below_alloc (Below.refl _ _) (.cells #[.slice A4 r.1.length c4, .slice A5 r.2.1.length c5] 53)))
          have HW6 := Aside0.mk (wr_below HWa.out HWa.out.size (fun k hk => hk.elim (fun h => (HPr.out.sb k h).1) (fun h => by rw [h]; exact HPr.out.xbb)) HW5.out)
          refine (same_calls _ S' T' g r.2.2 r.1 r.2.1 A4 c4 A5 c5 HP6.out.dst HP6.out.xst (HP6.out.sz (by omega) (by have := HBd.out.2.2; have := byP_takeN ops k; have := HTk.out; have := HBY.out; omega))).mono ?_
          rintro e w7 ⟨rfl, hB7⟩
          have HP7 := Aside0.mk (HP6.out.move hB7)
          have HW7 := Aside0.mk (below_then (below_alloc' HW6.out (.cells #[.slice A4 r.1.length c4, .slice A5 r.2.1.length c5] 53) HW6.out.size) (by rw [alloc_size]; have := HW6.out.size; omega) hB7)
          clear hB7 HP6 HW6 HP5 HW5 hy0 hy1 hf0 hf1
          go_wp2
          go_roundw
          case rel =>
            have h := HP7.out
            have hby := HBY.out
            exact ⟨k + 1, by omega, by go_num, HW7, ⟨S', T', A4, c4, A5, c5, r.1, r.2.1, r.2.2, h.dst, h.xst, h.dis, h.sb, h.tb, h.blk, h.xbb, by have := h.s1; omega, by have := h.s2; omega, by have := h.s3; omega⟩⟩
          case measure => simp [intOf]; omega
        · obtain rfl : k = ops.length := by omega
          go_wp2_with (first | (go_at_call 63; with_reducible refine (works_disk _).mono ?_; rintro e w4 ⟨rfl, hB4⟩; have HB4 := Aside0.mk (below_then HW.out HW.out.size hB4); clear hB4) | fail)
          go_ret
          exact ⟨rfl, HB4.out⟩
end Go.Proofs.Ytfaniohoplbdoaa.My
/- Files and operations as arguments, opened. -/
namespace Go.Proofs.Ytfaniohoplbdoaa.My
open Go Go.RowKit Go.ChangeShapes Go.WideShapes Go.Proofs.YtfaniohoplbdoaaW.PrintWords Go.Proofs.YtfaniohoplbdoaaW.PrintLast Go.Proofs.YtfaniohoplbdoaaW.PrintMore Go.Proofs.Ytfaniohoplbdoaa.PDiskActs
set_option linter.unusedVariables false
set_option linter.unusedSimpArgs false
section
variable {H : Type} {enc : TypeId × Value → H} {W : World} {base : Nat} {held : Bool}
theorem open_data {fuel : Nat} {cs : List Value} {x : DataW H × List MemPlace} (h : DataW.trod enc Try.prog W base (fun _ => true) held fuel 22 cs = some x) (hw : ∀ n ∈ x.1.weights Try.prog 22, n ≤ reachBytes) :
    ∃ (A : Option Addr) (c : Nat) (y : List Int), cs = [.slice A y.length c] ∧ y.length ≤ c ∧ CB W A y ∧ y.length ≤ 140737488351232 ∧ Byt y := by
  rcases open_ints Try.underlying22 Try.underlying5 cells5 h with ⟨hcs, hy⟩ | ⟨a, len, cap, zs, hcs, hb, hl, hm, hz, hy, hcell, hwz⟩
  · exact ⟨none, 0, [], hcs, Nat.le_refl _, Kd.C_nil _ _, by simp, Byt.nil⟩
  · simp only [if_true] at hz
    have hIs : IsRow .u8 W (some a) len cap zs := .inr ⟨a, rfl, hl, hm, hz, hcell, hwz⟩
    obtain ⟨l', hl', hC, hc, hbt, he⟩ := hIs.bytes
    refine ⟨some a, cap, l', by rw [hcs, hl'], hc, hC, ?_, hbt⟩
    have := hw (((lits (H := H) .u8 (zs.take len)).length + (lits (H := H) .u8 (zs.drop len)).length) * Try.prog.bytesOf 5) (by rw [hy]; simp only [DataW.weights, Try.underlying22, List.mem_cons, true_or])
    rw [lits_length, lits_length, bytes5, List.length_take, List.length_drop] at this
    unfold reachBytes at this
    omega
theorem open_text {fuel : Nat} {cs : List Value} {x : DataW H × List MemPlace} (h : DataW.trod enc Try.prog W base (fun _ => true) held fuel 9 cs = some x) : ∃ s : ByteArray, cs = [.string s] ∧ s.size ≤ maxLen := by
  obtain ⟨s, h1, _, h3⟩ := DataW.trod_string Try.underlying9 h
  exact ⟨s, h1, h3⟩
theorem open_num {fuel : Nat} {cs : List Value} {x : DataW H × List MemPlace} (h : DataW.trod enc Try.prog W base (fun _ => true) held fuel 3 cs = some x) : ∃ n : Int, cs = [.int .i64 n] := by
  obtain ⟨n, h1, _⟩ := DataW.trod_int Try.underlying3 h
  exact ⟨n, h1⟩
theorem cells109 : Try.prog.cellsOf 109 = 2 := by kernel_rfl
theorem cells82 : Try.prog.cellsOf 82 = 6 := by kernel_rfl
theorem cells9 : Try.prog.cellsOf 9 = 1 := by kernel_rfl
theorem cells3 : Try.prog.cellsOf 3 = 1 := by kernel_rfl
theorem bytes109 : Try.prog.bytesOf 109 = 40 := by kernel_rfl
theorem bytes82 : Try.prog.bytesOf 82 = 80 := by kernel_rfl
theorem weights_each {H : Type} {P : Program} {n : Nat} : ∀ {ts : List TypeId} {ds : List (DataW H)} {j : Nat} {t : TypeId} {d : DataW H}, ts[j]? = some t → ds[j]? = some d → n ∈ d.weights P t → n ∈ DataW.weightsEach P ts ds
  | [], _, _, _, _, h, _, _ => by simp at h
  | _ :: _, [], _, _, _, _, h, _ => by simp at h
  | t0 :: ts, d0 :: ds, 0, t, d, h, h', hn => by
    simp only [List.getElem?_cons_zero, Option.some.injEq] at h h'
    subst h; subst h'
    unfold DataW.weightsEach
    exact List.mem_append_left _ hn
  | t0 :: ts, d0 :: ds, j + 1, t, d, h, h', hn => by
    unfold DataW.weightsEach
    exact List.mem_append_right _ (weights_each (j := j) h h' hn)
set_option maxRecDepth 100000 in
/-- One file. -/
theorem open_file {fuel : Nat} {cs : List Value} {x : DataW H × List MemPlace} (h : DataW.trod enc Try.prog W base (fun _ => true) held fuel 109 cs = some x) (hw : ∀ n ∈ x.1.weights Try.prog 109, n ≤ reachBytes) :
    ∃ (f : S109) (B : Option Addr) (d : Nat), cs = [.string f.f0, .slice B f.f1.length d] ∧ f.f1.length ≤ d ∧ CB W B f.f1 ∧ f.f1.length ≤ 140737488351232 ∧ f.f0.size ≤ maxLen ∧ Byt f.f1 := by
  obtain ⟨xs, n, _, rfl, hcl, hxl, hf⟩ := DataW.trod_struct Try.underlying109 h
  rw [cells109] at hcl
  match cs, hcl with
  | [v0, v1], _ =>
    have g0 : DataW.trod enc Try.prog W base (fun _ => true) held n 9 (([v0, v1].drop 0).take (Try.prog.cellsOf 9)) = xs[0]? := hf 0 _ rfl
    have g1 : DataW.trod enc Try.prog W base (fun _ => true) held n 22 (([v0, v1].drop 1).take (Try.prog.cellsOf 22)) = xs[1]? := hf 1 _ rfl
    rw [cells9] at g0
    rw [cells22] at g1
    obtain ⟨y0, h0⟩ : ∃ y, xs[0]? = some y := ⟨_, List.getElem?_eq_getElem (by rw [hxl]; decide)⟩
    obtain ⟨y1, h1⟩ : ∃ y, xs[1]? = some y := ⟨_, List.getElem?_eq_getElem (by rw [hxl]; decide)⟩
    rw [h0] at g0
    rw [h1] at g1
    obtain ⟨s, e0, hs⟩ := open_text g0
    obtain ⟨B, d, y, e1, hd, hC, hy, hbt⟩ := open_data g1 (fun n hn => hw n (by
      simp only [DataW.weights, Try.underlying109]
      exact weights_each (j := 1) rfl (by rw [List.getElem?_map, h1]; rfl) hn))
    simp at e0 e1
    exact ⟨⟨s, y⟩, B, d, by rw [e0, e1], hd, hC, hy, hs, hbt⟩
set_option maxRecDepth 100000 in
/-- One operation. -/
theorem open_op {fuel : Nat} {cs : List Value} {x : DataW H × List MemPlace} (h : DataW.trod enc Try.prog W base (fun _ => true) held fuel 82 cs = some x) (hw : ∀ n ∈ x.1.weights Try.prog 82, n ≤ reachBytes) :
    ∃ (o : S82) (B : Option Addr) (d : Nat), cs = [.int .i64 o.f0, .string o.f1, .string o.f2, .slice B o.f3.length d, .int .i64 o.f4, .int .i64 o.f5] ∧ o.f3.length ≤ d ∧ CB W B o.f3 ∧ o.f3.length ≤ 140737488351232 ∧ o.f1.size ≤ maxLen ∧ o.f2.size ≤ maxLen := by
  obtain ⟨xs, n, _, rfl, hcl, hxl, hf⟩ := DataW.trod_struct Try.underlying82 h
  rw [cells82] at hcl
  match cs, hcl with
  | [v0, v1, v2, v3, v4, v5], _ =>
    have ex : ∀ j, j < 6 → ∃ y, xs[j]? = some y := fun j hj => ⟨_, List.getElem?_eq_getElem (by rw [hxl]; exact hj)⟩
    obtain ⟨y0, h0⟩ := ex 0 (by decide)
    obtain ⟨y1, h1⟩ := ex 1 (by decide)
    obtain ⟨y2, h2⟩ := ex 2 (by decide)
    obtain ⟨y3, h3⟩ := ex 3 (by decide)
    obtain ⟨y4, h4⟩ := ex 4 (by decide)
    obtain ⟨y5, h5⟩ := ex 5 (by decide)
    have g0 : DataW.trod enc Try.prog W base (fun _ => true) held n 3 (([v0, v1, v2, v3, v4, v5].drop 0).take (Try.prog.cellsOf 3)) = xs[0]? := hf 0 _ rfl
    rw [cells3] at g0
    have g1 : DataW.trod enc Try.prog W base (fun _ => true) held n 9 (([v0, v1, v2, v3, v4, v5].drop 1).take (Try.prog.cellsOf 9)) = xs[1]? := hf 1 _ rfl
    rw [cells9] at g1
    have g2 : DataW.trod enc Try.prog W base (fun _ => true) held n 9 (([v0, v1, v2, v3, v4, v5].drop 2).take (Try.prog.cellsOf 9)) = xs[2]? := hf 2 _ rfl
    rw [cells9] at g2
    have g3 : DataW.trod enc Try.prog W base (fun _ => true) held n 22 (([v0, v1, v2, v3, v4, v5].drop 3).take (Try.prog.cellsOf 22)) = xs[3]? := hf 3 _ rfl
    rw [cells22] at g3
    have g4 : DataW.trod enc Try.prog W base (fun _ => true) held n 3 (([v0, v1, v2, v3, v4, v5].drop 4).take (Try.prog.cellsOf 3)) = xs[4]? := hf 4 _ rfl
    rw [cells3] at g4
    have g5 : DataW.trod enc Try.prog W base (fun _ => true) held n 3 (([v0, v1, v2, v3, v4, v5].drop 5).take (Try.prog.cellsOf 3)) = xs[5]? := hf 5 _ rfl
    rw [cells3] at g5
    rw [h0] at g0
    rw [h1] at g1
    rw [h2] at g2
    rw [h3] at g3
    rw [h4] at g4
    rw [h5] at g5
    obtain ⟨z0, e0⟩ := open_num g0
    obtain ⟨s1, e1, hs1⟩ := open_text g1
    obtain ⟨s2, e2, hs2⟩ := open_text g2
    obtain ⟨z4, e4⟩ := open_num g4
    obtain ⟨z5, e5⟩ := open_num g5
    obtain ⟨B, d, y, e3, hd, hC, hy, _⟩ := open_data g3 (fun n hn => hw n (by
      simp only [DataW.weights, Try.underlying82]
      exact weights_each (j := 3) rfl (by rw [List.getElem?_map, h3]; rfl) hn))
    simp at e0 e1 e2 e3 e4 e5
    exact ⟨⟨z0, s1, s2, y, z4, z5⟩, B, d, by rw [e0, e1, e2, e3, e4, e5], hd, hC, hy, hs1, hs2⟩

/-- A list of such. -/
theorem open_files {a : Option Addr} {len cap : Nat} {d : DataW H} {ps : List MemPlace} (h : DataW.Trod enc Try.prog W base (fun _ => true) held 42 (.slice a len cap) d ps) (hw : ∀ n ∈ d.weights Try.prog 42, n ≤ reachBytes) : ∃ l : List S109, l.length = len ∧ ArgF W a cap l ∧ ∀ f ∈ l, Byt f.f1 := by
  haveI : Inhabited S109 := ⟨⟨⟨#[]⟩, []⟩⟩
  obtain ⟨fuel, hf⟩ := h
  rcases Go.Deep.open_slice Try.underlying42 hf with ⟨hcs, _⟩ | ⟨x, l, c, m, n, D, Pl, hcs, hb, hl, hm, hmm, hx, hel⟩
  · simp [Value.cells] at hcs
    obtain ⟨rfl, rfl, rfl⟩ := hcs
    exact ⟨[], rfl, by constructor <;> first | exact Kd.C_nil _ _ | simp, by simp⟩
  · simp [Value.cells] at hcs
    obtain ⟨rfl, rfl, rfl⟩ := hcs
    simp only [if_true] at hmm
    obtain rfl := hmm
    obtain ⟨rfl, _⟩ := Prod.mk.inj hx
    have hsz := hw _ (by simp only [DataW.weights, Try.underlying42]; exact List.mem_cons_self)
    simp only [List.length_map, List.length_range, bytes109] at hsz
    have each : ∀ i, i < len → ∃ p : S109 × (Option Addr × Nat), (∀ j v, (([.string p.1.f0, .slice p.2.1 p.1.f1.length p.2.2] : List Value))[j]? = some v → W.cell? (x.add (i * 2 + j)) = some v) ∧ p.1.f1.length ≤ p.2.2 ∧ CB W p.2.1 p.1.f1 ∧ p.1.f1.length ≤ 140737488351232 ∧ p.1.f0.size ≤ maxLen ∧ Byt p.1.f1 := by
      intro i hi
      obtain ⟨cs', h1, h2⟩ := hel i (by omega)
      obtain ⟨f, B, dd, rfl, hd, hC, hy, hs⟩ := open_file h2 (fun n hn => hw n (by
        simp only [DataW.weights, Try.underlying42, List.mem_cons, List.mem_append]
        exact .inr (.inl (weights_all hn (List.mem_map.2 ⟨i, List.mem_range.2 hi, rfl⟩)))))
      rw [cells109] at h1
      obtain ⟨_, hlen, hcell⟩ := World.cells?_some h1
      refine ⟨(f, B, dd), fun j v hj => ?_, hd, hC, hy, hs⟩
      have hj2 : j < 2 := by have := (List.getElem?_eq_some_iff.1 hj).1; simpa using this
      have := hcell j hj2
      rw [add_add] at this
      rw [this]
      rw [← hj]
    obtain ⟨F, hF⟩ := Go.Deep.choose_lt each
    have hlen : ((List.range len).map fun i => (F i).1).length = len := by simp
    refine ⟨(List.range len).map fun i => (F i).1, hlen, ?_⟩
    have hC : Kd.C k109 W (some x) ((List.range len).map fun i => (F i).1).length ((List.range len).map fun i => (F i).1) := by
      refine ⟨rfl, by rw [hlen]; have : maxLen = 9223372036854775807 := rfl; omega, fun _ => ⟨x, rfl, fun j p hj => ?_⟩⟩
      rw [List.getElem?_map] at hj
      obtain ⟨r, hr1, rfl⟩ := Option.map_eq_some_iff.1 hj
      obtain ⟨hlt, hge⟩ := List.getElem?_eq_some_iff.1 hr1
      rw [List.length_range] at hlt
      have : r = j := by rw [← hge]; simp
      subst this
      obtain ⟨h1, h2, h3, _⟩ := hF r hlt
      exact ⟨_, rfl, k109_mk W (F r).1 h2 h3, fun i v hi => h1 i v hi⟩
    have mem : ∀ f ∈ (List.range len).map fun i => (F i).1, ∃ r, r < len ∧ f = (F r).1 := by
      intro f hf
      obtain ⟨r, hr1, rfl⟩ := List.mem_map.1 hf
      exact ⟨r, List.mem_range.1 hr1, rfl⟩
    refine ⟨⟨hC, by rw [hlen]; exact hl, by rw [hlen]; unfold reachBytes at hsz; omega, fun f hf => ?_, fun f hf => ?_⟩, fun f hf => ?_⟩
    · obtain ⟨r, hr, rfl⟩ := mem f hf
      exact (hF r hr).2.2.2.1
    · obtain ⟨r, hr, rfl⟩ := mem f hf
      exact (hF r hr).2.2.2.2.1
    · obtain ⟨r, hr, rfl⟩ := mem f hf
      exact (hF r hr).2.2.2.2.2

/-- A list of such. -/
theorem open_ops {a : Option Addr} {len cap : Nat} {d : DataW H} {ps : List MemPlace} (h : DataW.Trod enc Try.prog W base (fun _ => true) held 91 (.slice a len cap) d ps) (hw : ∀ n ∈ d.weights Try.prog 91, n ≤ reachBytes) : ∃ l : List S82, l.length = len ∧ ArgP W a l := by
  haveI : Inhabited S82 := ⟨⟨0, ⟨#[]⟩, ⟨#[]⟩, [], 0, 0⟩⟩
  obtain ⟨fuel, hf⟩ := h
  rcases Go.Deep.open_slice Try.underlying91 hf with ⟨hcs, _⟩ | ⟨x, l, c, m, n, D, Pl, hcs, hb, hl, hm, hmm, hx, hel⟩
  · simp [Value.cells] at hcs
    obtain ⟨rfl, rfl, rfl⟩ := hcs
    exact ⟨[], rfl, by constructor <;> first | exact Kd.C_nil _ _ | simp⟩
  · simp [Value.cells] at hcs
    obtain ⟨rfl, rfl, rfl⟩ := hcs
    simp only [if_true] at hmm
    obtain rfl := hmm
    obtain ⟨rfl, _⟩ := Prod.mk.inj hx
    have hsz := hw _ (by simp only [DataW.weights, Try.underlying91]; exact List.mem_cons_self)
    simp only [List.length_map, List.length_range, bytes82] at hsz
    have each : ∀ i, i < len → ∃ p : S82 × (Option Addr × Nat), (∀ j v, (([.int .i64 p.1.f0, .string p.1.f1, .string p.1.f2, .slice p.2.1 p.1.f3.length p.2.2, .int .i64 p.1.f4, .int .i64 p.1.f5] : List Value))[j]? = some v → W.cell? (x.add (i * 6 + j)) = some v) ∧ p.1.f3.length ≤ p.2.2 ∧ CB W p.2.1 p.1.f3 ∧ p.1.f3.length ≤ 140737488351232 ∧ p.1.f1.size ≤ maxLen ∧ p.1.f2.size ≤ maxLen := by
      intro i hi
      obtain ⟨cs', h1, h2⟩ := hel i (by omega)
      obtain ⟨f, B, dd, rfl, hd, hC, hy, hs⟩ := open_op h2 (fun n hn => hw n (by
        simp only [DataW.weights, Try.underlying91, List.mem_cons, List.mem_append]
        exact .inr (.inl (weights_all hn (List.mem_map.2 ⟨i, List.mem_range.2 hi, rfl⟩)))))
      rw [cells82] at h1
      obtain ⟨_, hlen, hcell⟩ := World.cells?_some h1
      refine ⟨(f, B, dd), fun j v hj => ?_, hd, hC, hy, hs⟩
      have hj2 : j < 6 := by have := (List.getElem?_eq_some_iff.1 hj).1; simpa using this
      have := hcell j hj2
      rw [add_add] at this
      rw [this]
      rw [← hj]
    obtain ⟨F, hF⟩ := Go.Deep.choose_lt each
    have hlen : ((List.range len).map fun i => (F i).1).length = len := by simp
    refine ⟨(List.range len).map fun i => (F i).1, hlen, ?_⟩
    have hC : Kd.C k82 W (some x) ((List.range len).map fun i => (F i).1).length ((List.range len).map fun i => (F i).1) := by
      refine ⟨rfl, by rw [hlen]; have : maxLen = 9223372036854775807 := rfl; omega, fun _ => ⟨x, rfl, fun j p hj => ?_⟩⟩
      rw [List.getElem?_map] at hj
      obtain ⟨r, hr1, rfl⟩ := Option.map_eq_some_iff.1 hj
      obtain ⟨hlt, hge⟩ := List.getElem?_eq_some_iff.1 hr1
      rw [List.length_range] at hlt
      have : r = j := by rw [← hge]; simp
      subst this
      obtain ⟨h1, h2, h3, _⟩ := hF r hlt
      exact ⟨_, rfl, k82_mk W (F r).1 h2 h3, fun i v hi => h1 i v hi⟩
    have mem : ∀ f ∈ (List.range len).map fun i => (F i).1, ∃ r, r < len ∧ f = (F r).1 := by
      intro f hf
      obtain ⟨r, hr1, rfl⟩ := List.mem_map.1 hf
      exact ⟨r, List.mem_range.1 hr1, rfl⟩
    refine ⟨hC, fun f hf => ?_, fun f hf => ?_⟩
    · obtain ⟨r, hr, rfl⟩ := mem f hf
      exact (hF r hr).2.2.2.1
    · obtain ⟨r, hr, rfl⟩ := mem f hf
      exact (hF r hr).2.2.2.2
/-- Of a row's parameters, with their weights. -/
theorem open_files_sized {a : Option Addr} {len cap : Nat} {d : DataW H} {ps : List MemPlace} {ts : List TypeId} {ds : List (DataW H)} {j : Nat} (hsz : (DataW.weightsEach Try.prog ts ds).all (· ≤ reachBytes) = true) (ht : ts[j]? = some 42) (hd : ds[j]? = some d)
    (h : DataW.Trod enc Try.prog W base (fun _ => true) held 42 (.slice a len cap) d ps) : ∃ l : List S109, l.length = len ∧ ArgF W a cap l :=
  (open_files h fun n hn => by simpa using List.all_eq_true.1 hsz n (DataW.weights_mem_each ht hd n hn)).imp fun _ h => ⟨h.1, h.2.1⟩
theorem open_files_sized_b {a : Option Addr} {len cap : Nat} {d : DataW H} {ps : List MemPlace} {ts : List TypeId} {ds : List (DataW H)} {j : Nat} (hsz : (DataW.weightsEach Try.prog ts ds).all (· ≤ reachBytes) = true) (ht : ts[j]? = some 42) (hd : ds[j]? = some d)
    (h : DataW.Trod enc Try.prog W base (fun _ => true) held 42 (.slice a len cap) d ps) : ∃ l : List S109, l.length = len ∧ ArgF W a cap l ∧ ∀ f ∈ l, Byt f.f1 :=
  open_files h fun n hn => by simpa using List.all_eq_true.1 hsz n (DataW.weights_mem_each ht hd n hn)
theorem open_ops_sized {a : Option Addr} {len cap : Nat} {d : DataW H} {ps : List MemPlace} {ts : List TypeId} {ds : List (DataW H)} {j : Nat} (hsz : (DataW.weightsEach Try.prog ts ds).all (· ≤ reachBytes) = true) (ht : ts[j]? = some 91) (hd : ds[j]? = some d)
    (h : DataW.Trod enc Try.prog W base (fun _ => true) held 91 (.slice a len cap) d ps) : ∃ l : List S82, l.length = len ∧ ArgP W a l :=
  open_ops h fun n hn => by simpa using List.all_eq_true.1 hsz n (DataW.weights_mem_each ht hd n hn)
end
end Go.Proofs.Ytfaniohoplbdoaa.My
