/- The statements on frames: the walks. -/
import Derived.Test.YtfaniohoplbdoaaMJ
namespace Go.Proofs.Ytfaniohoplbdoaa.My
open Go Go.RowKit Go.Proofs.YtfaniohoplbdoaaW.PrintWords Go.Proofs.YtfaniohoplbdoaaW.PrintLast Go.Proofs.YtfaniohoplbdoaaW.PrintMore
set_option linter.unusedVariables false
set_option linter.unusedSimpArgs false
/-- A slice of integers that came in: nil, or a row of 'cap' cells. -/
def IsRow (k : IntKind) (w : World) (a : Option Addr) (len cap : Nat) (zs : List Int) : Prop :=
  (a = none ∧ len = 0 ∧ cap = 0 ∧ zs = []) ∨
  ∃ x, a = some x ∧ len ≤ cap ∧ cap ≤ maxLen ∧ zs.length = cap ∧ (∀ i, i < zs.length → w.cell? (x.add i) = some (.int k (zs.getD i 0))) ∧ ∀ n ∈ zs, (Lit.int k n).wf = true
theorem IsRow.bytes {w : World} {a : Option Addr} {len cap : Nat} {zs : List Int} (h : IsRow .u8 w a len cap zs) : ∃ l, l.length = len ∧ CB w a l ∧ l.length ≤ cap ∧ Byt l ∧ l = zs.take len := by
  rcases h with ⟨rfl, rfl, rfl, rfl⟩ | ⟨x, rfl, hl, hm, hz, hc, hw⟩
  · exact ⟨[], rfl, Kd.C_nil _ _, by simp, Byt.nil, rfl⟩
  · have hlen : (zs.take len).length = len := by rw [List.length_take]; omega
    refine ⟨zs.take len, hlen, ?_, by omega, ?_, rfl⟩
    · refine Kd.C_of_reads (enc := Value.int .u8) (d := (0 : Int)) (h1 := fun _ => rfl) ⟨rfl, by unfold maxLen at hm; omega, fun _ => ⟨_, rfl, fun j hj => ?_⟩⟩
      rw [hc j (by omega)]
      simp [List.getD_eq_getElem?_getD, List.getElem?_take, show j < len by omega]
    · intro n hn
      have := hw n (List.mem_of_mem_take hn)
      simp [Lit.wf, IntKind.min, IntKind.max, IntKind.signed, IntKind.bits] at this
      omega
abbrev LawPost (w : World) : Ending → World → Prop := fun e w' => e = .returned (.bool true) ∧ Below w.heap.size w w'
set_option maxHeartbeats 1000000 in
theorem law_sum (A : Option Addr) (c : Nat) (l : List Int) (w : World) (hC : CB w A l) (hc : l.length ≤ c) (hb : Byt l) : Calls Try.prog 3 #[.slice A l.length c] w (LawPost w) := by
  have hm := Kd.C_max hC
  have HF := Aside0.mk (fSum_calls A c l w hC hc hb)
  have HR := Aside0.mk (fun w' (hw : Below w.heap.size w w') => rSum_calls A c l w' (Kd.C_below hC hw) hc hb)
  clear hC hb
  by_cases h5 : 5000 < l.length
  · go_enter Try.func3, Try.ntmps3
    go_wp2_with (go_at_call 20; refine (works_calls _).mono ?_; rintro e w' ⟨rfl, hw⟩)
    go_ret
    exact ⟨rfl, hw⟩
  · go_enter Try.func3, Try.ntmps3
    go_wp2_with fail
    refine HF.out.mono ?_
    rintro e w1 ⟨rfl, n, rfl⟩
    go_wp2_with fail
    refine (HR.out _ (pw_below_drewN (Below.refl _ _) n)).mono ?_
    rintro e w1 ⟨rfl, n2, rfl⟩
    have hq : (((sumL l : Nat) : Int) == ((sumL l : Nat) : Int)) = true := by simp
    go_wp2_with fail
    refine (works_calls _).mono ?_
    rintro e w' ⟨rfl, hw⟩
    go_wp2
    go_ret
    exact ⟨rfl, below_then (pw_below_drewN (Below.refl w.heap.size w) (n + n2)) (Nat.le_refl _) hw⟩
set_option maxHeartbeats 1000000 in
theorem law_next (A : Option Addr) (c : Nat) (l : List Int) (at_ : Int) (w : World) (hC : CB w A l) (hc : l.length ≤ c) (hb : Byt l) : Calls Try.prog 5 #[.slice A l.length c, .int .i64 at_] w (LawPost w) := by
  obtain ⟨⟨y, n, e0⟩, hn⟩ : ∃ p, nextL l at_ = p := ⟨_, rfl⟩
  have HF := Aside0.mk (calls_next (fNext_calls A c l at_ w hC hc hb) hn)
  have HR := Aside0.mk (fun w' (hw : Below w.heap.size w w') => calls_rnext (rNext_calls A c l at_ w' (Kd.C_below hC hw) hc hb) hn)
  have hq1 : (n == n) = true := by simp
  have hq2 : (e0 == e0) = true := by simp
  clear hC hb hn
  go_enter Try.func5, Try.ntmps5
  go_wp2_with fail
  refine HF.out.mono ?_
  rintro e w1 ⟨v1, rfl, hr1, hw1⟩
  obtain ⟨A1, c1, rfl, hc1, hC1⟩ := Kd.R_reads hr1
  have HC1 := Aside0.mk hC1
  have HW1 := Aside0.mk hw1
  clear hr1 hC1 hw1
  go_wp2_with fail
  refine (HR.out _ HW1.out).mono ?_
  rintro e w2 ⟨v2, rfl, hr2, hw2⟩
  obtain ⟨A2, c2, rfl, hc2, hC2⟩ := Kd.R_reads hr2
  have HC2 := Aside0.mk hC2
  have HC12 := Aside0.mk (Kd.C_below HC1.out hw2)
  have HW2 := Aside0.mk (below_then HW1.out HW1.out.size hw2)
  clear hr2 hC2 hw2 HC1
  go_wp2_with fail
  refine (PFrameAppend.bitemporallaw10_equal.calls A1 c1 y A2 c2 y true w2 HC12.out hc1 HC2.out hc2 (by simp [PFrameAppend.bitemporallaw10_equal.f])).mono ?_
  rintro e w3 ⟨rfl, n3, rfl⟩
  go_wp2_with fail
  refine (works_calls _).mono ?_
  rintro e w' ⟨rfl, hw⟩
  go_wp2
  go_ret
  exact ⟨rfl, below_then (pw_below_drewN HW2.out n3) HW2.out.size hw⟩
end Go.Proofs.Ytfaniohoplbdoaa.My
