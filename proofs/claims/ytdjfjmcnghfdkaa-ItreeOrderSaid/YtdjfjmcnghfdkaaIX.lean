/- Items and operations as arguments, opened. -/
import Derived.Test.YtdjfjmcnghfdkaaIW
import Derived.ProofKit
import Derived.OpenShut
import Derived.SizedLaws
import Derived.Deep.Matrix
namespace Go.Proofs.Ytdjfjmcnghfdkaa.My
open Go Go.RowKit Go.ChangeShapes Go.WideShapes Go.Proofs.YtdjfjmcnghfdkaaW.PrintWords Go.Proofs.YtdjfjmcnghfdkaaW.PrintLast Go.Proofs.YtdjfjmcnghfdkaaW.PrintMore Go.Proofs.Ytdjfjmcnghfdkaa.PItreeActs
set_option linter.unusedVariables false
set_option linter.unusedSimpArgs false
section
variable {H : Type} {enc : TypeId × Value → H} {W : World} {base : Nat} {held : Bool}
theorem open_num {fuel : Nat} {cs : List Value} {x : DataW H × List MemPlace} (h : DataW.trod enc Try.prog W base (fun _ => true) held fuel 3 cs = some x) : ∃ n : Int, cs = [.int .i64 n] := by
  obtain ⟨n, h1, _⟩ := DataW.trod_int Try.underlying3 h
  exact ⟨n, h1⟩
theorem cells3 : Try.prog.cellsOf 3 = 1 := by kernel_rfl
theorem cells28 : Try.prog.cellsOf 28 = 2 := by kernel_rfl
theorem cells30 : Try.prog.cellsOf 30 = 3 := by kernel_rfl
theorem cells46 : Try.prog.cellsOf 46 = 4 := by kernel_rfl
set_option maxRecDepth 100000 in
theorem open_per {fuel : Nat} {cs : List Value} {x : DataW H × List MemPlace} (h : DataW.trod enc Try.prog W base (fun _ => true) held fuel 28 cs = some x) : ∃ p : S28, cs = [.int .i64 p.f0, .int .i64 p.f1] := by
  obtain ⟨xs, n, _, rfl, hcl, hxl, hf⟩ := DataW.trod_struct Try.underlying28 h
  rw [cells28] at hcl
  match cs, hcl with
  | [v0, v1], _ =>
    have ex : ∀ j, j < 2 → ∃ y, xs[j]? = some y := fun j hj => ⟨_, List.getElem?_eq_getElem (by rw [hxl]; exact hj)⟩
    obtain ⟨y0, h0⟩ := ex 0 (by decide)
    obtain ⟨y1, h1⟩ := ex 1 (by decide)
    have g0 : DataW.trod enc Try.prog W base (fun _ => true) held n 3 (([v0, v1].drop 0).take (Try.prog.cellsOf 3)) = xs[0]? := hf 0 _ rfl
    have g1 : DataW.trod enc Try.prog W base (fun _ => true) held n 3 (([v0, v1].drop 1).take (Try.prog.cellsOf 3)) = xs[1]? := hf 1 _ rfl
    rw [cells3, h0] at g0
    rw [cells3, h1] at g1
    obtain ⟨z0, e0⟩ := open_num g0
    obtain ⟨z1, e1⟩ := open_num g1
    simp at e0 e1
    exact ⟨⟨z0, z1⟩, by rw [e0, e1]⟩
set_option maxRecDepth 100000 in
theorem open_item {fuel : Nat} {cs : List Value} {x : DataW H × List MemPlace} (h : DataW.trod enc Try.prog W base (fun _ => true) held fuel 30 cs = some x) : ∃ p : S30, cs = [.int .i64 p.f0.f0, .int .i64 p.f0.f1, .int .i64 p.f1] := by
  obtain ⟨xs, n, _, rfl, hcl, hxl, hf⟩ := DataW.trod_struct Try.underlying30 h
  rw [cells30] at hcl
  match cs, hcl with
  | [v0, v1, v2], _ =>
    have ex : ∀ j, j < 2 → ∃ y, xs[j]? = some y := fun j hj => ⟨_, List.getElem?_eq_getElem (by rw [hxl]; exact hj)⟩
    obtain ⟨y0, h0⟩ := ex 0 (by decide)
    obtain ⟨y1, h1⟩ := ex 1 (by decide)
    have g0 : DataW.trod enc Try.prog W base (fun _ => true) held n 28 (([v0, v1, v2].drop 0).take (Try.prog.cellsOf 28)) = xs[0]? := hf 0 _ rfl
    have g1 : DataW.trod enc Try.prog W base (fun _ => true) held n 3 (([v0, v1, v2].drop 2).take (Try.prog.cellsOf 3)) = xs[1]? := hf 1 _ rfl
    rw [cells28, h0] at g0
    rw [cells3, h1] at g1
    obtain ⟨z0, e0⟩ := open_per g0
    obtain ⟨z1, e1⟩ := open_num g1
    simp at e0 e1
    exact ⟨⟨z0, z1⟩, by rw [e0.1, e0.2, e1]⟩
set_option maxRecDepth 100000 in
theorem open_op {fuel : Nat} {cs : List Value} {x : DataW H × List MemPlace} (h : DataW.trod enc Try.prog W base (fun _ => true) held fuel 46 cs = some x) : ∃ o : S46, cs = [.int .i64 o.f0, .int .i64 o.f1.f0.f0, .int .i64 o.f1.f0.f1, .int .i64 o.f1.f1] := by
  obtain ⟨xs, n, _, rfl, hcl, hxl, hf⟩ := DataW.trod_struct Try.underlying46 h
  rw [cells46] at hcl
  match cs, hcl with
  | [v0, v1, v2, v3], _ =>
    have ex : ∀ j, j < 3 → ∃ y, xs[j]? = some y := fun j hj => ⟨_, List.getElem?_eq_getElem (by rw [hxl]; exact hj)⟩
    obtain ⟨y0, h0⟩ := ex 0 (by decide)
    obtain ⟨y1, h1⟩ := ex 1 (by decide)
    obtain ⟨y2, h2⟩ := ex 2 (by decide)
    have g0 : DataW.trod enc Try.prog W base (fun _ => true) held n 3 (([v0, v1, v2, v3].drop 0).take (Try.prog.cellsOf 3)) = xs[0]? := hf 0 _ rfl
    have g1 : DataW.trod enc Try.prog W base (fun _ => true) held n 28 (([v0, v1, v2, v3].drop 1).take (Try.prog.cellsOf 28)) = xs[1]? := hf 1 _ rfl
    have g2 : DataW.trod enc Try.prog W base (fun _ => true) held n 3 (([v0, v1, v2, v3].drop 3).take (Try.prog.cellsOf 3)) = xs[2]? := hf 2 _ rfl
    rw [cells3, h0] at g0
    rw [cells28, h1] at g1
    rw [cells3, h2] at g2
    obtain ⟨z0, e0⟩ := open_num g0
    obtain ⟨z1, e1⟩ := open_per g1
    obtain ⟨z2, e2⟩ := open_num g2
    simp at e0 e1 e2
    exact ⟨⟨z0, ⟨z1, z2⟩⟩, by rw [e0, e1.1, e1.2, e2]⟩
/-- A list of structs of numbers. -/
theorem open_rows {α : Type} [Inhabited α] {k : Kd α} {ty e sz : Nat} {C : α → List Value} (hu : Try.prog.underlying ty = some (.slice e)) (hs : Try.prog.cellsOf e = sz) (hk : k.sz = sz) (hC : ∀ x, (C x).length = sz) (hK : ∀ w x, k.K w x (C x))
    (hone : ∀ {fuel : Nat} {cs : List Value} {x : DataW H × List MemPlace}, DataW.trod enc Try.prog W base (fun _ => true) held fuel e cs = some x → ∃ a : α, cs = C a)
    {a : Option Addr} {len cap : Nat} {d : DataW H} {ps : List MemPlace} (h : DataW.Trod enc Try.prog W base (fun _ => true) held ty (.slice a len cap) d ps) :
    ∃ l : List α, l.length = len ∧ Kd.C k W a l.length l := by
  obtain ⟨fuel, hf⟩ := h
  rcases Go.Deep.open_slice hu hf with ⟨hcs, _⟩ | ⟨x, l, c, m, n, D, Pl, hcs, hb, hl, hm, hmm, hx, hel⟩
  · simp [Value.cells] at hcs
    obtain ⟨rfl, rfl, rfl⟩ := hcs
    exact ⟨[], rfl, Kd.C_nil _ _⟩
  · simp [Value.cells] at hcs
    obtain ⟨rfl, rfl, rfl⟩ := hcs
    simp only [if_true] at hmm
    obtain rfl := hmm
    have each : ∀ i, i < len → ∃ p : α, ∀ j v, (C p)[j]? = some v → W.cell? (x.add (i * sz + j)) = some v := by
      intro i hi
      obtain ⟨cs', h1, h2⟩ := hel i (by omega)
      obtain ⟨f, rfl⟩ := hone h2
      rw [hs] at h1
      obtain ⟨_, hlen, hcell⟩ := World.cells?_some h1
      refine ⟨f, fun j v hj => ?_⟩
      have hj2 : j < sz := by have := (List.getElem?_eq_some_iff.1 hj).1; rw [hC] at this; exact this
      have := hcell j hj2
      rw [add_add] at this
      rw [this]
      exact hj
    obtain ⟨F, hF⟩ := Go.Deep.choose_lt each
    have hlen : ((List.range len).map fun i => F i).length = len := by simp
    refine ⟨(List.range len).map fun i => F i, hlen, rfl, by rw [hlen]; have : maxLen = 9223372036854775807 := rfl; omega, fun _ => ⟨x, rfl, fun j p hj => ?_⟩⟩
    rw [List.getElem?_map] at hj
    obtain ⟨r, hr1, rfl⟩ := Option.map_eq_some_iff.1 hj
    obtain ⟨hlt, hge⟩ := List.getElem?_eq_some_iff.1 hr1
    rw [List.length_range] at hlt
    have : r = j := by rw [← hge]; simp
    subst this
    exact ⟨_, by rw [hC, hk], hK W (F r), fun i v hi => by rw [hk]; exact hF r hlt i v hi⟩
theorem open_items {a : Option Addr} {len cap : Nat} {d : DataW H} {ps : List MemPlace} (h : DataW.Trod enc Try.prog W base (fun _ => true) held 22 (.slice a len cap) d ps) : ∃ l : List S30, l.length = len ∧ Kd.C k30 W a l.length l := by
  haveI : Inhabited S30 := ⟨z30⟩
  exact open_rows (k := k30) (C := fun x => [.int .i64 x.f0.f0, .int .i64 x.f0.f1, .int .i64 x.f1]) Try.underlying22 cells30 rfl (fun _ => rfl) (fun w x => k30_mk w x) (fun h => open_item h) h
theorem open_ops {a : Option Addr} {len cap : Nat} {d : DataW H} {ps : List MemPlace} (h : DataW.Trod enc Try.prog W base (fun _ => true) held 37 (.slice a len cap) d ps) : ∃ l : List S46, l.length = len ∧ Kd.C k46 W a l.length l := by
  haveI : Inhabited S46 := ⟨z46⟩
  exact open_rows (k := k46) (C := fun x => [.int .i64 x.f0, .int .i64 x.f1.f0.f0, .int .i64 x.f1.f0.f1, .int .i64 x.f1.f1]) Try.underlying37 cells46 rfl (fun _ => rfl) (fun w x => k46_mk w x) (fun h => open_op h) h
end
end Go.Proofs.Ytdjfjmcnghfdkaa.My
