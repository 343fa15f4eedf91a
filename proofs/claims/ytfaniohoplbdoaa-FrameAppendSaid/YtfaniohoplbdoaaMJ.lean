/- The chapter's examples ('works' of the statements on frames). -/
import Derived.Test.YtfaniohoplbdoaaMI
import Derived.Lib.SlBytesConst
namespace Go.Proofs.Ytfaniohoplbdoaa.My
open Go Go.RowKit Go.Proofs.YtfaniohoplbdoaaW.PrintWords Go.Proofs.YtfaniohoplbdoaaW.PrintLast Go.Proofs.YtfaniohoplbdoaaW.PrintMore
set_option linter.unusedVariables false
set_option linter.unusedSimpArgs false
theorem sum_example : sumL [49, 50, 51, 52, 53, 54, 55, 56, 57] = 3808858755 := by decide +kernel
theorem sum_nil : sumL [] = 0 := by decide +kernel
theorem next_frame (l body : List Int) (hb : body.length ≤ 1048576) : nextL (l ++ frameL body) (l.length : Int) = (body, ((l.length + 8 + body.length : Nat) : Int), 0) := by
  have h := peek_frame body hb []
  rw [List.append_nil] at h
  unfold nextL
  rw [if_neg (by simp; omega), Int.toNat_natCast, List.drop_left' rfl, h.1, h.2]
  simp
theorem next_short (l m : List Int) (hm : m.length < 8) : nextL (l ++ m) (l.length : Int) = ([], 0, 2) := by
  unfold nextL
  rw [if_neg (by simp; omega), Int.toNat_natCast, List.drop_left' rfl, peek_none hm]
  simp
/-- Bytes in a block of whatever mark. -/
theorem CB_of_row {w : World} {g : Nat} {l : List Int} {fr : Nat × Nat} (hg : w.heap[g]? = some (.cells (bts l).toArray 5 fr)) (hm : l.length ≤ 9223372036854775807) : CB w (some ⟨g, 0, none⟩) l := by
  refine Kd.C_of_reads (enc := Value.int .u8) (d := (0 : Int)) (h1 := fun _ => rfl) ⟨rfl, hm, fun _ => ⟨_, rfl, fun j hj => ?_⟩⟩
  rw [add_plain, cell_of_row w g j _ 5 fr hg]
  simp [nums, hj, List.getD_eq_getElem?_getD]
/-- A literal of the call's own. -/
theorem RB_lit (W : World) (l : List Int) (hm : l.length ≤ 9223372036854775807) : RB (W.alloc (.cells (bts l).toArray 5)) W.heap.size (.slice (some ⟨W.heap.size, 0, none⟩) l.length l.length) l :=
  RB_of_blk (l := l) (heap_alloc_new W _) (Nat.le_refl _) hm
theorem below_alloc' {w W : World} {B : Nat} (h : Below B w W) (o : Obj) (hB : B ≤ W.heap.size) : Below B w (W.alloc o) := h.alloc hB o
def lenL (n : Int) : Int := if n < 0 ∨ 1048576 < n then 0 else n + 8
theorem len_f (n : Int) : PFrameAppend.frame_Len.f n = some (lenL n) := by
  unfold PFrameAppend.frame_Len.f lenL
  by_cases h1 : n < 0
  · rw [if_pos h1, if_pos (.inl h1)]
  · by_cases h2 : n > 1048576
    · rw [if_neg h1, if_pos h2, if_pos (.inr h2)]
    · rw [if_neg h1, if_neg h2, if_neg (by omega)]
      congr 1
      unfold wrap64
      omega
theorem len_calls (n : Int) (w : World) : Calls Try.prog 24 #[.int .i64 n] w fun e w' => e = .returned (.int .i64 (lenL n)) ∧ Drawn0 w w' := PFrameAppend.frame_Len.calls n _ w (len_f n)
theorem rlen_calls (n : Int) (w : World) : Calls Try.prog 25 #[.int .i64 n] w fun e w' => e = .returned (.int .i64 (lenL n)) ∧ Drawn0 w w' := PFrameAppend.bitemporalref10_Len.calls n _ w (len_f n)
theorem abc_bytes : Byt [97, 98, 99] := by intro x hx; simp at hx; omega
set_option maxHeartbeats 1000000 in
set_option maxRecDepth 100000 in
theorem works_calls (w : World) : Calls Try.prog 20 #[] w fun e w' => e = .returned (.bool true) ∧ Below w.heap.size w w' := by
  have kc := fun (w : World) (C : Array Value) (n c : Nat) => Lib.run_convert_bytes_const (P := Try.prog) w 22 5 C n c Try.underlying22 Try.underlying5
  have kc1 := fun (w : World) (o : Obj) (C : Array Value) (n c : Nat) => Lib.run_convert_bytes_const (P := Try.prog) (w.alloc o) 22 5 C n c Try.underlying22 Try.underlying5
  simp only [World.size_alloc] at kc1
  have hw0 : Below w.heap.size w ((w.alloc (Obj.cells #[Value.int IntKind.u8 7] 5)).alloc (Obj.cells #[Value.int IntKind.u8 97, Value.int IntKind.u8 98, Value.int IntKind.u8 99] 5 (3, 4))) := below_alloc (below_alloc (Below.refl _ _) _) _
  have hA := fAppend_ok (some ⟨w.heap.size, 0, none⟩) 1 [7] (some ⟨w.heap.size + 1, 0, none⟩) 3 [97, 98, 99] ((w.alloc (Obj.cells #[Value.int IntKind.u8 7] 5)).alloc (Obj.cells #[Value.int IntKind.u8 97, Value.int IntKind.u8 98, Value.int IntKind.u8 99] 5 (3, 4)))
    (Kd.C_alloc (CB_of_row (l := [7]) (heap_alloc_new w _) (by decide)) _) (by decide) (by
      have h := CB_of_row (l := [97, 98, 99]) (heap_alloc_new (w.alloc (Obj.cells #[Value.int IntKind.u8 7] 5)) (Obj.cells #[Value.int IntKind.u8 97, Value.int IntKind.u8 98, Value.int IntKind.u8 99] 5 (3, 4))) (by decide)
      rwa [World.size_alloc] at h) (by decide) abc_bytes (by decide) (by decide)
  have HA := Aside0.mk hA
  have HW0 := Aside0.mk hw0
  clear hA hw0
  go_enter Try.func20, Try.ntmps20
  go_wp2_with fail
  refine HA.out.mono ?_
  rintro e w1 ⟨v1, rfl, hr1, hw1⟩
  have HW1 := Aside0.mk (below_then HW0.out HW0.out.size hw1)
  obtain ⟨l1, hl1⟩ : ∃ l1, l1 = [7] ++ frameL [97, 98, 99] := ⟨_, rfl⟩
  rw [← hl1] at hr1
  have HE1 := Aside0.mk (show nextL l1 1 = ([97, 98, 99], 12, 0) by rw [hl1]; exact next_frame [7] [97, 98, 99] (by decide))
  have HE2 := Aside0.mk (show nextL (l1 ++ [0, 0, 0]) 12 = ([], 0, 2) by
    have h := next_short l1 [0, 0, 0] (by decide)
    rw [show l1.length = 12 by rw [hl1]; rfl] at h
    exact h)
  have HL1 := Aside0.mk (show l1.length = 12 by rw [hl1]; rfl)
  have HY1 := Aside0.mk (show Byt l1 by rw [hl1]; exact Byt.append (by intro x hx; simp at hx; omega) (frameL_byt abc_bytes))
  have hlen : ((l1.length : Int) == 12) = true := by rw [HL1.out]; rfl
  obtain ⟨A1, c1, rfl, hc1, hC1⟩ := Kd.R_reads hr1
  have HC1 := Aside0.mk hC1
  clear hr1 hw1 hl1 hC1 HA HW0
  go_wp2_with fail
  refine (calls_next (fNext_calls A1 c1 l1 1 w1 HC1.out hc1 HY1.out) HE1.out).mono ?_
  rintro e w2 ⟨v3, rfl, hr3, hw2⟩
  obtain ⟨A3, c3, rfl, hc3, hC3⟩ := Kd.R_reads hr3
  have HC3 := Aside0.mk hC3
  have HW2 := Aside0.mk (below_then HW1.out HW1.out.size hw2)
  have HC12 := Aside0.mk (Kd.C_below HC1.out hw2)
  clear hr3 hw2 hC3 HC1
  go_wp2_with (first | ((with_reducible refine gate_dst (N := 25) rfl ?_); refine app_bts (w0 := w2) w2.heap.size rfl (.tmp 23) (.tmp 24) rfl _ [] l1 A1 c1 rfl rfl (RB_new w2) (Kd.C_alloc HC12.out _) (below_alloc (Below.refl _ _) _) (by simp) (by rw [HL1.out]; decide) ?_; intro l5 v5 w3 E5 HR5 HW3) | ((with_reducible refine gate_dst (N := 27) rfl ?_); refine app_bts (w0 := w2) w2.heap.size rfl (.tmp 25) (.tmp 26) rfl _ l5 [0, 0, 0] (some ⟨w3.heap.size, 0, none⟩) 3 rfl rfl (Kd.R_alloc HR5.out _) (CB_of_row (l := [0, 0, 0]) (heap_alloc_new w3 _) (by decide)) (below_alloc' HW3.out _ HW3.out.size) (by have := HW3.out.size; simp; omega) (by rw [E5.out, List.nil_append, HL1.out]; decide) ?_; intro l6 v6 w4 E6 HR6 HW4; obtain ⟨A6, c6, rfl⟩ := Kd.R_slice HR6.out) | fail)
  have HE6 := Aside0.mk (show nextL l6 12 = ([], 0, 2) by rw [E6.out, E5.out, List.nil_append]; exact HE2.out)
  refine (calls_next (fNext_calls A6 c6 l6 12 w4 (Kd.R_reads' HR6.out).2.2 (Kd.R_reads' HR6.out).2.1 (by rw [E6.out, E5.out, List.nil_append]; exact HY1.out.append (by intro x hx; simp at hx; omega))) HE6.out).mono ?_
  rintro e w5 ⟨v7, rfl, hr7, hw7⟩
  have HW7 := Aside0.mk (below_then HW4.out HW4.out.size hw7)
  have HC7 := Aside0.mk (Kd.C_below HC3.out HW7.out)
  have HW5 := Aside0.mk (below_then HW2.out HW2.out.size HW7.out)
  clear hr7 hw7 HR6 HW4 HR5 HW3 HC12 HC3 HE6 HE2 HE1 E6 E5 HW7
  go_wp2_with fail
  have hS := fSum_calls (some ⟨w5.heap.size, 0, none⟩) 9 [49, 50, 51, 52, 53, 54, 55, 56, 57] (w5.alloc (Obj.cells (bts [49, 50, 51, 52, 53, 54, 55, 56, 57]).toArray 5 (9, 10))) (CB_of_row (heap_alloc_new w5 _) (by decide)) (by decide) (by intro x hx; simp at hx; omega)
  rw [sum_example] at hS
  refine hS.mono ?_
  rintro e w6 ⟨rfl, n6, rfl⟩
  clear hS
  go_wp2_with fail
  have hS := fSum_calls none 0 [] ((w5.alloc (Obj.cells (bts [49, 50, 51, 52, 53, 54, 55, 56, 57]).toArray 5 (9, 10))).drewN n6) (Kd.C_nil _ _) (by decide) Byt.nil
  rw [sum_nil] at hS
  refine hS.mono ?_
  rintro e w6 ⟨rfl, n7, rfl⟩
  clear hS
  have HC8 := Aside0.mk (Kd.C_drewN (Kd.C_drewN (Kd.C_alloc HC7.out (Obj.cells (bts [49, 50, 51, 52, 53, 54, 55, 56, 57]).toArray 5 (9, 10))) n6) n7)
  have HW8 := Aside0.mk (pw_below_drewN (pw_below_drewN (below_alloc' HW5.out (Obj.cells (bts [49, 50, 51, 52, 53, 54, 55, 56, 57]).toArray 5 (9, 10)) HW5.out.size) n6) n7)
  generalize (((w5.alloc (Obj.cells (bts [49, 50, 51, 52, 53, 54, 55, 56, 57]).toArray 5 (9, 10))).drewN n6).drewN n7) = w8 at HC8 HW8 ⊢
  have hcv : (convert 22 9 (.slice A3 3 c3)).run Try.prog w8 = .ok (.string (strOfNums [97, 98, 99])) w8 := Kd.C_string (P := Try.prog) (A := A3) (c := c3) Try.underlying22 Try.underlying5 Try.underlying9 HC8.out
  rw [show strOfNums [97, 98, 99] = (⟨#[97, 98, 99]⟩ : ByteArray) from rfl] at hcv
  have HL3 := Aside0.mk (fun w => len_calls 3 w)
  rw [show lenL 3 = 11 from rfl] at HL3
  have HLm := Aside0.mk (fun w => len_calls (-1) w)
  rw [show lenL (-1) = 0 from rfl] at HLm
  go_wp2_with fail
  refine (HL3.out _).mono ?_
  rintro e w9 ⟨rfl, n9, rfl⟩
  go_wp2_with fail
  refine (HLm.out _).mono ?_
  rintro e w10 ⟨rfl, n10, rfl⟩
  go_wp2
  go_ret
  exact ⟨rfl, by repeat (first | exact HW8.out | apply pw_below_drewN)⟩
end Go.Proofs.Ytfaniohoplbdoaa.My
