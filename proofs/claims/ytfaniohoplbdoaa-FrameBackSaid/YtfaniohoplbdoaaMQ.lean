/- Lists of byte strings as arguments, opened. -/
import Derived.Test.YtfaniohoplbdoaaMP
import Derived.Deep.Matrix
import Derived.SizedLaws
namespace Go.Proofs.Ytfaniohoplbdoaa.My
open Go Go.RowKit Go.ChangeShapes Go.WideShapes Go.Proofs.YtfaniohoplbdoaaW.PrintWords Go.Proofs.YtfaniohoplbdoaaW.PrintLast Go.Proofs.YtfaniohoplbdoaaW.PrintMore
set_option linter.unusedVariables false
set_option linter.unusedSimpArgs false
theorem weights_all {H : Type} {P : Program} {e : TypeId} {n : Nat} {x : DataW H} (hn : n ∈ x.weights P e) : ∀ {l : List (DataW H)}, x ∈ l → n ∈ DataW.weightsAll P e l
  | y :: l, h => by
    simp only [DataW.weightsAll, List.mem_append]
    rcases List.mem_cons.1 h with rfl | h
    · exact .inl hn
    · exact .inr (weights_all hn h)
theorem bytes22 : Try.prog.bytesOf 22 = 24 := by kernel_rfl
theorem bytes5 : Try.prog.bytesOf 5 = 1 := by kernel_rfl
theorem cells22 : Try.prog.cellsOf 22 = 1 := by kernel_rfl
theorem cells5 : Try.prog.cellsOf 5 = 1 := by kernel_rfl
theorem lits_length {H : Type} (k : IntKind) (l : List Int) : (lits (H := H) k l).length = l.length := by simp [lits]
theorem open_rows {H : Type} {enc : TypeId × Value → H} {W : World} {base : Nat} {held : Bool} {a : Option Addr} {len cap : Nat} {d : DataW H} {ps : List MemPlace}
    (h : DataW.Trod enc Try.prog W base (fun _ => true) held 38 (.slice a len cap) d ps) (hw : ∀ n ∈ d.weights Try.prog 38, n ≤ reachBytes) :
    ∃ l : List (List Int), l.length = len ∧ CL W a l ∧ l.length ≤ cap ∧ (∀ b ∈ l, Byt b) ∧ l.length ≤ 140737488351232 ∧ ∀ b ∈ l, b.length ≤ 140737488351232 := by
  obtain ⟨fuel, hf⟩ := h
  rcases Go.Deep.open_int_rows Try.underlying38 Try.underlying22 Try.underlying5 cells22 cells5 hf with ⟨hcs, _⟩ | ⟨x, l, c, A, L, C, Z, hcs, _, hl, hm, hx, hr⟩
  · simp [Value.cells] at hcs
    obtain ⟨rfl, rfl, rfl⟩ := hcs
    exact ⟨[], rfl, Kd.C_nil _ _, by simp, by simp, by simp, by simp⟩
  · simp [Value.cells] at hcs
    obtain ⟨rfl, rfl, rfl⟩ := hcs
    obtain ⟨rfl, _⟩ := Prod.mk.inj hx
    have row : ∀ r, r < cap → IsRow .u8 W (A r) (L r) (C r) (Z r) := by
      intro r hrc
      obtain ⟨h1, h2, h3, h4, h5, h6, h7⟩ := hr r hrc
      cases hA : A r with
      | none =>
        have hc0 := h6 hA
        refine .inl ⟨rfl, by omega, hc0, ?_⟩
        exact List.length_eq_zero_iff.1 (by omega)
      | some a' =>
        refine .inr ⟨a', rfl, h2, h3, h4, fun i hi => ?_, h5⟩
        exact (h7 a' hA).2 i (by omega)
    have size : ∀ r, r < len → L r ≤ 140737488351232 := by
      intro r hrl
      cases hA : A r with
      | none =>
        obtain ⟨h1, h2, h3, h4, h5, h6, h7⟩ := hr r (by omega)
        have := h6 hA
        omega
      | some a' =>
        obtain ⟨h1, h2, h3, h4, h5, h6, h7⟩ := hr r (by omega)
        have hmem : Go.Deep.intRow (H := H) .u8 (A r) (L r) (Z r) ∈ (List.range len).map fun r => Go.Deep.intRow (H := H) .u8 (A r) (L r) (Z r) := List.mem_map.2 ⟨r, List.mem_range.2 hrl, rfl⟩
        have := hw ((((lits (H := H) .u8 ((Z r).take (L r))).length + (lits (H := H) .u8 ((Z r).drop (L r))).length)) * Try.prog.bytesOf 5) (by
          simp only [DataW.weights, Try.underlying38, List.mem_cons, List.mem_append]
          refine .inr (.inl (weights_all ?_ hmem))
          rw [hA]
          simp only [Go.Deep.intRow, DataW.weights, Try.underlying22, List.mem_cons, true_or])
        rw [lits_length, lits_length, bytes5, List.length_take, List.length_drop] at this
        unfold reachBytes at this
        omega
    have hsz : len ≤ 140737488351232 := by
      have := hw _ (by simp only [DataW.weights, Try.underlying38]; exact List.mem_cons_self)
      simp only [List.length_map, List.length_range, bytes22] at this
      unfold reachBytes at this
      omega
    have hlen : ((List.range len).map fun r => (Z r).take (L r)).length = len := by simp
    refine ⟨(List.range len).map fun r => (Z r).take (L r), hlen, ?_, by omega, ?_, by omega, ?_⟩
    · refine ⟨rfl, by omega, fun _ => ⟨x, rfl, fun j p hj => ?_⟩⟩
      rw [List.getElem?_map] at hj
      obtain ⟨r, hr1, rfl⟩ := Option.map_eq_some_iff.1 hj
      obtain ⟨hlt, hge⟩ := List.getElem?_eq_some_iff.1 hr1
      rw [List.length_range] at hlt
      have : r = j := by rw [← hge]; simp
      subst this
      obtain ⟨l', hl', hC, hc, hb, he⟩ := (row r (by omega)).bytes
      obtain ⟨h1, h2, _⟩ := hr r (by omega)
      rw [← he]
      refine ⟨[.slice (A r) l'.length (C r)], rfl, ⟨A r, C r, rfl, hc, hC⟩, fun i v hi => ?_⟩
      rcases i with _ | i
      · simp at hi
        subst hi
        show W.cell? (x.add (r * 1 + 0)) = _
        rw [Nat.mul_one, Nat.add_zero, h1, hl']
      · simp at hi
    · intro b hb
      obtain ⟨r, hr1, rfl⟩ := List.mem_map.1 hb
      have hlt := List.mem_range.1 hr1
      obtain ⟨l', hl', hC, hc, hb, he⟩ := (row r (by omega)).bytes
      rw [← he]
      exact hb
    · intro b hb
      obtain ⟨r, hr1, rfl⟩ := List.mem_map.1 hb
      have hlt := List.mem_range.1 hr1
      have := size r hlt
      rw [List.length_take]
      omega
/-- A row's list of byte strings, with its weights. -/
theorem open_rows_sized {H : Type} {enc : TypeId × Value → H} {W : World} {base : Nat} {held : Bool} {a : Option Addr} {len cap : Nat} {d : DataW H} {ps : List MemPlace} {ts : List TypeId} {ds : List (DataW H)} {j : Nat}
    (hsz : (DataW.weightsEach Try.prog ts ds).all (· ≤ reachBytes) = true) (ht : ts[j]? = some 38) (hd : ds[j]? = some d)
    (h : DataW.Trod enc Try.prog W base (fun _ => true) held 38 (.slice a len cap) d ps) :
    ∃ l : List (List Int), l.length = len ∧ CL W a l ∧ l.length ≤ cap ∧ (∀ b ∈ l, Byt b) ∧ l.length ≤ 140737488351232 ∧ ∀ b ∈ l, b.length ≤ 140737488351232 :=
  open_rows h fun n hn => by simpa using List.all_eq_true.1 hsz n (DataW.weights_mem_each ht hd n hn)
end Go.Proofs.Ytfaniohoplbdoaa.My
