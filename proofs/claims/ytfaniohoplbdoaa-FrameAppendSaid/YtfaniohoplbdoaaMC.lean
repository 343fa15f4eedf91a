/- Four bytes of a number and back: frame.put, frame.get, four and number; frame.Append. -/
import Derived.Test.YtfaniohoplbdoaaMB
import Derived.Laws.CopyOwn
import Derived.WalkSpells
import Derived.WalkLawsBesides
namespace Go.Proofs.Ytfaniohoplbdoaa.My
open Go Go.RowKit Go.Proofs.YtfaniohoplbdoaaW.PrintWords Go.Proofs.YtfaniohoplbdoaaW.PrintLast Go.Proofs.YtfaniohoplbdoaaW.PrintMore
set_option linter.unusedVariables false
set_option linter.unusedSimpArgs false

/-- A block's cells. -/
abbrev Blk (w : World) (g : Nat) (cur : List Value) : Prop := w.heap[g]? = some (.cells cur.toArray 5 (0, 0))
abbrev bts (l : List Int) : List Value := nums .u8 l
theorem Blk.cell {w : World} {g : Nat} {cur : List Value} (h : Blk w g cur) (i : Nat) (hi : i < cur.length) : w.cell? ⟨g, i, none⟩ = some cur[i] := by
  rw [blk_cell h]
  simp [hi]
theorem Blk.set {w : World} {g : Nat} {cur : List Value} (h : Blk w g cur) (i : Nat) (v : Value) : Blk (w.setCell ⟨g, i, none⟩ v) g (cur.set i v) := by
  have := blk_set h i v
  rw [List.setIfInBounds_toArray] at this
  exact this
theorem splice_snoc {cur vs : List Value} {o : Nat} {v : Value} (h : o + vs.length < cur.length) : (splice cur o vs).set (o + vs.length) v = splice cur o (vs ++ [v]) := by
  unfold splice
  rw [List.set_append_right _ _ (by simp; omega), List.set_append_right _ _ (by simp; omega)]
  simp only [List.length_take, List.append_assoc, List.length_append, List.length_cons, List.length_nil]
  rw [show o + vs.length - min o cur.length - vs.length = 0 from by omega, List.drop_eq_getElem_cons (by omega), List.set_cons_zero, show o + vs.length + 1 = o + (vs.length + 1) from by omega]
  rfl
theorem grown_setCell {w w1 : World} {g : Nat} (h : w.grownBy w1 (some g)) (i : Nat) (v : Value) : w.grownBy (w1.setCell ⟨g, i, none⟩ v) (some g) := by
  obtain ⟨h1, h2, h3, h4, h5⟩ := h
  refine ⟨h1, h2, h3, by simpa [World.setCell] using h4, fun k hk hne => ?_⟩
  rw [Below.heap_setCell w1 ⟨g, i, none⟩ v k (fun e => hne (by rw [e]))]
  exact h5 k hk hne
theorem grown_drew {w w1 : World} {r : Option Nat} (h : w.grownBy w1 r) : w.grownBy w1.drew r := ⟨h.os, h.tape, h.output, h.size, h.block⟩
theorem grown_drewN {w w1 : World} {r : Option Nat} (h : w.grownBy w1 r) (n : Nat) : w.grownBy (w1.drewN n) r := ⟨h.os, h.tape, h.output, h.size, h.block⟩

theorem put_step {wr : World} {g o n k : Nat} {cur : List Value} {x : Int} (hB : Blk wr g (splice cur o ((bts (be4 n)).take k))) (hk : k < 4) (hfit : o + 4 ≤ cur.length) (hx : x = (be4 n).getD k 0) :
    Blk (wr.setCell ⟨g, o + k, none⟩ (.int .u8 x)) g (splice cur o ((bts (be4 n)).take (k + 1))) := by
  have h := hB.set (o + k) (.int .u8 x)
  have hl : ((bts (be4 n)).take k).length = k := by simp [nums, be4]; omega
  have hlt : k < (bts (be4 n)).length := by simp [nums, be4]; omega
  have e := splice_snoc (cur := cur) (vs := (bts (be4 n)).take k) (o := o) (v := .int .u8 x) (by omega)
  rw [hl] at e
  rw [e] at h
  rw [List.take_succ_eq_append_getElem hlt]
  have : (bts (be4 n))[k] = .int .u8 x := by
    rw [hx]
    simp only [nums, List.getElem_map]
    congr 1
    rw [List.getD_eq_getElem?_getD, List.getElem?_eq_getElem (by simpa [nums] using hlt)]
    rfl
  rw [this]
  exact h
set_option maxHeartbeats 1000000 in
theorem put_calls (w : World) (g o len cap : Nat) (cur : List Value) (n : Nat) (hn : n < 4294967296) (h4 : 4 ≤ len) (hl : len ≤ cap) (hm : cap ≤ 9223372036854775807) (hg : Blk w g cur) (hfit : o + 4 ≤ cur.length) :
    Calls Try.prog 70 #[.slice (some ⟨g, o, none⟩) len cap, .int .u32 (n : Int)] w fun e w' => e = .returned (.tuple #[]) ∧ Blk w' g (splice cur o (bts (be4 n))) ∧ w.grownBy w' (some g) := by
  have HG := Aside0.mk hg
  have HF := Aside0.mk hfit
  clear hg hfit
  go_enter Try.func70, Try.ntmps70
  go_wp2
  go_loopw [5] (fun i wr => ∃ k : Nat, k ≤ 4 ∧ i = .int .i64 k ∧ Aside0 (Blk wr g (splice cur o ((bts (be4 n)).take k))) ∧ Aside0 (w.grownBy wr (some g))) (fun i _ => 4 - (intOf i).toNat)
  case atStart => exact ⟨0, by omega, rfl, ⟨by simpa [splice] using HG.out⟩, ⟨World.grownBy.refl _ _⟩⟩
  case round =>
    obtain ⟨k, hk, rfl, hB, hW⟩ := hrel
    have hlen : (splice cur o ((bts (be4 n)).take k)).length = cur.length := length_splice _ _ _ (by have := HF.out; simp [nums, be4]; omega)
    have HL := Aside0.mk hlen
    clear hlen
    by_cases hlt : k < 4
    · obtain ⟨u, hu⟩ : ∃ u, wr.cell? ⟨g, o + k, none⟩ = some u := ⟨_, hB.out.cell (o + k) (by rw [HL.out]; have := HF.out; omega)⟩
      have hf := blk_frozen hB.out (o + k)
      obtain rfl | rfl | rfl | rfl : k = 0 ∨ k = 1 ∨ k = 2 ∨ k = 3 := by omega
      all_goals
        (try rw [Nat.add_zero] at hu hf)
        go_wp2
        go_roundw
        case measure => simp [intOf]
        case rel => exact ⟨_, by decide, rfl, ⟨put_step hB.out (by omega) HF.out (by simp [be4] <;> omega)⟩, ⟨grown_setCell hW.out _ _⟩⟩
    · obtain rfl : k = 4 := by omega
      go_wp2
      go_end0
      exact ⟨rfl, by have := hB.out; rwa [List.take_of_length_le (by simp [nums, be4])] at this, hW.out⟩

/-! ### reading them -/
theorem rd_getD (l : List Int) (i : Nat) : rd l (i : Int) = l.getD i 0 := by simp [rd]
theorem or4 (a b c d : Nat) (ha : a < 256) (hb : b < 256) (hc : c < 256) (hd : d < 256) :
    Go.bits .or .u32 (Go.bits .or .u32 (Go.bits .or .u32 ((((a : Int) % 4294967296) * 16777216) % 4294967296) ((((b : Int) % 4294967296) * 65536) % 4294967296)) ((((c : Int) % 4294967296) * 256) % 4294967296)) ((d : Int) % 4294967296) = ((16777216 * a + 65536 * b + 256 * c + d : Nat) : Int) := by
  have hk : ∀ n : Int, 0 ≤ n → n < 2 ^ 32 → IntKind.u32.wrap n = n := fun n h0 h1 => by rw [IntKind.wrap_u32]; omega
  have e1 := bits_join .u32 32 (by decide) hk 24 ((((a : Int) % 4294967296) * 16777216) % 4294967296) ((((b : Int) % 4294967296) * 65536) % 4294967296) (by omega) (by omega) (by omega) (by omega) (by omega) (by omega)
  rw [e1]
  have e2 := bits_join .u32 32 (by decide) hk 16 ((((a : Int) % 4294967296) * 16777216) % 4294967296 + (((b : Int) % 4294967296) * 65536) % 4294967296) ((((c : Int) % 4294967296) * 256) % 4294967296) (by omega) (by omega) (by omega) (by omega) (by omega) (by omega)
  rw [e2]
  have e3 := bits_join .u32 32 (by decide) hk 8 ((((a : Int) % 4294967296) * 16777216) % 4294967296 + (((b : Int) % 4294967296) * 65536) % 4294967296 + (((c : Int) % 4294967296) * 256) % 4294967296) ((d : Int) % 4294967296) (by omega) (by omega) (by omega) (by omega) (by omega) (by omega)
  rw [e3]
  omega
theorem four_of {l : List Int} (hb : Byt l) (h4 : 4 ≤ l.length) : ∃ a b c d : Nat, ∃ r, a < 256 ∧ b < 256 ∧ c < 256 ∧ d < 256 ∧ l = (a : Int) :: (b : Int) :: (c : Int) :: (d : Int) :: r := by
  match l, h4, hb with
  | a :: b :: c :: d :: r, _, hb =>
    have ha := hb a (by simp)
    have hb' := hb b (by simp)
    have hc := hb c (by simp)
    have hd := hb d (by simp)
    exact ⟨a.toNat, b.toNat, c.toNat, d.toNat, r, by omega, by omega, by omega, by omega, by
      rw [Int.toNat_of_nonneg ha.1, Int.toNat_of_nonneg hb'.1, Int.toNat_of_nonneg hc.1, Int.toNat_of_nonneg hd.1]⟩
theorem get_calls (A : Option Addr) (c : Nat) (l : List Int) (w : World) (hC : CB w A l) (hc : l.length ≤ c) (hb : Byt l) (h4 : 4 ≤ l.length) :
    Calls Try.prog 73 #[.slice A l.length c] w fun e w' => e = .returned (.int .u32 (num4 l : Nat)) ∧ Drawn0 w w' := by
  refine PFrameAppend.frame_get.calls A c l _ w hC hc ?_
  obtain ⟨x, y, z, t, r, hx, hy, hz, ht, rfl⟩ := four_of hb h4
  have e := or4 x y z t hx hy hz ht
  unfold PFrameAppend.frame_get.f
  simp only [List.length_cons]
  rw [if_pos (by omega), if_pos (by omega), if_pos (by omega), if_pos (by omega)]
  simp only [rd, num4, List.getD_cons_zero, List.getD_cons_succ, Int.toNat_natCast, show Int.toNat 0 = 0 from rfl, show Int.toNat 1 = 1 from rfl, show Int.toNat 2 = 2 from rfl, show Int.toNat 3 = 3 from rfl]
  rw [e]
end Go.Proofs.Ytfaniohoplbdoaa.My
