/- has. -/
import Derived.Test.YtdjfjmcnghfdkaaIJ
namespace Go.Proofs.Ytdjfjmcnghfdkaa.My
open Go Go.RowKit Go.Proofs.YtdjfjmcnghfdkaaW.PrintWords Go.Proofs.YtdjfjmcnghfdkaaW.PrintLast Go.Proofs.YtdjfjmcnghfdkaaW.PrintMore Go.Proofs.Ytdjfjmcnghfdkaa.PItreeActs
set_option linter.unusedVariables false
set_option linter.unusedSimpArgs false
def hasT : Tr S30 → S30 → Bool
  | .nil, _ => false
  | .nd y l r, x => if 0 < cmp y x then hasT l x else if cmp y x < 0 then hasT r x else true
set_option maxHeartbeats 1000000 in
set_option maxRecDepth 100000 in
theorem has_calls (t : Nat) (T : BT) (n : Int) (x : S30) (w : World) (ht : w.heap[t]? = some (.cells #[T.ptr, .int .i64 n] 57 (0, 0))) (h : T.At w) :
    Calls Try.prog 26 #[.pointer (some ⟨t, 0, none⟩), aggI x] w fun e w' => e = .returned (.bool (hasT T.sk x)) ∧ Below w.heap.size w w' := by
  obtain ⟨wb, hwb⟩ : ∃ wb, wb = w.alloc (boxI x) := ⟨_, rfl⟩
  have hW : Below w.heap.size w wb := by rw [hwb]; exact below_alloc (Below.refl _ _) _
  have hT := h.below hW
  have hg : wb.heap[w.heap.size]? = some (boxI x) := by rw [hwb]; exact blk_new w _
  obtain ⟨v, hv⟩ := ptr_pointer T
  have htc : wb.cell? ⟨t, 0, none⟩ = some (.pointer v) := (blk_cell ((hW.block t (blk_lt ht)).trans ht) 0).trans (congrArg some hv)
  obtain ⟨q, hq⟩ : ∃ q, q = hasT T.sk x := ⟨_, rfl⟩
  rw [← hq]
  have HQ := Aside0.mk hq
  have HT := Aside0.mk hT
  have HW := Aside0.mk hW
  have HG := Aside0.mk hg
  have HWB := Aside0.mk hwb
  have HV := Aside0.mk hv
  have hu30 := Try.underlying30
  have hu69 := Try.underlying69
  have hu57 := Try.underlying57
  clear h hW hT hg hq hv hwb ht
  show Calls Try.prog 26 #[.pointer (some ⟨t, 0, none⟩), .agg #[.int .i64 x.f0.f0, .int .i64 x.f0.f1, .int .i64 x.f1]] w _
  go_enter Try.func26, Try.ntmps26
  go_wp2_with fail
  rw [show w.alloc (.cells #[.int .i64 x.f0.f0, .int .i64 x.f0.f1, .int .i64 x.f1] 30) = wb from HWB.out.symm]
  go_step3
  go_wp2
  go_step3
  go_wp2
  go_loopg [5] (T.ht) (fun k p wr => Below w.heap.size w wr ∧ wr.heap[w.heap.size]? = some (boxI x) ∧ ∃ (U : BT) (u : Option Addr), U.ht ≤ k ∧ U.ptr = .pointer u ∧ p = .pointer u ∧ U.At wr ∧ hasT U.sk x = q)
  case atStart => exact ⟨HW.out, HG.out, T, v, Nat.le_refl _, HV.out, rfl, HT.out, HQ.out.symm⟩
  case round =>
    obtain ⟨hB, hg, U, u, hk, hu, rfl, hA, hf⟩ := hrel
    have HB := Aside0.mk hB
    have HGr := Aside0.mk hg
    have HA := Aside0.mk hA
    have HK := Aside0.mk hk
    have HF := Aside0.mk hf
    match U with
    | .nil =>
      have hue : u = none := by simp only [Tr.ptr, Value.pointer.injEq] at hu; exact hu.symm
      subst hue
      clear hB hg hA hk hf hu htc
      go_wp2
      rw [Exit.noGoto_ret]
      go_ret
      exact ⟨by rw [← HF.out]; rfl, HB.out⟩
    | .nd (b, y) l r =>
      have hue : u = some ⟨b, 0, none⟩ := by simp only [Tr.ptr, Value.pointer.injEq] at hu; exact hu.symm
      subst hue
      have hcb := hA.1
      have HC := Aside0.mk (ncompare_calls b y x _ _ _ _ wr hcb)
      have HS := Aside0.mk (fun (w' : World) (hB' : Below wr.heap.size wr w') => And.intro (below_then hB hB.size hB') (And.intro ((hB'.block _ (blk_lt hg)).trans hg) (hA.below hB')))
      obtain ⟨c, hc⟩ : ∃ c, c = cmp y x := ⟨_, rfl⟩
      rw [← hc] at HC
      have hg0 : wr.cell? ⟨w.heap.size, 0, none⟩ = some (.int .i64 x.f0.f0) := (blk_cell hg 0).trans rfl
      have hg1 : wr.cell? ⟨w.heap.size, 1, none⟩ = some (.int .i64 x.f0.f1) := (blk_cell hg 1).trans rfl
      have hg2 : wr.cell? ⟨w.heap.size, 2, none⟩ = some (.int .i64 x.f1) := (blk_cell hg 2).trans rfl
      have HCC := Aside0.mk hc
      clear hB hg hA hk hf hu htc hcb hc
      by_cases c1 : 0 < c
      · have hd : decide (0 < c) = true := by simpa using c1
        have HD := Aside0.mk c1
        clear c1
        obtain ⟨vl, hvl⟩ := ptr_pointer l
        have HVL := Aside0.mk hvl
        clear hvl
        go_wp2_with (go_at_call 38; refine HC.out.mono ?_; rintro e w1 ⟨rfl, hB⟩; have HS1 := Aside0.mk (HS.out w1 hB)
                     have hc3 : w1.cell? ⟨b, 3, none⟩ = some (.pointer vl) := (blk_cell HS1.out.2.2.1 3).trans (congrArg some HVL.out); clear hB hg0 hg1 hg2 HC)
        go_roundg (l.ht)
        case measure => have := HK.out; simp only [Tr.ht] at this; omega
        case rel => exact ⟨HS1.out.1, HS1.out.2.1, l, vl, Nat.le_refl _, HVL.out, rfl, HS1.out.2.2.2.1, by
          have h1 : (if 0 < cmp y x then hasT l.sk x else if cmp y x < 0 then hasT r.sk x else true) = q := HF.out
          rw [← HCC.out, if_pos (by have := HD.out; omega)] at h1
          exact h1⟩
      · have hd : decide (0 < c) = false := by simpa using c1
        by_cases c2 : c < 0
        · have hd2 : decide (c < 0) = true := by simpa using c2
          have HD := Aside0.mk (And.intro c1 c2)
          clear c1 c2
          obtain ⟨vl, hvl⟩ := ptr_pointer r
          have HVL := Aside0.mk hvl
          clear hvl
          go_wp2_with (go_at_call 38; refine HC.out.mono ?_; rintro e w1 ⟨rfl, hB⟩; have HS1 := Aside0.mk (HS.out w1 hB)
                       have hc3 : w1.cell? ⟨b, 4, none⟩ = some (.pointer vl) := (blk_cell HS1.out.2.2.1 4).trans (congrArg some HVL.out); clear hB hg0 hg1 hg2 HC)
          go_roundg (r.ht)
          case measure => have := HK.out; simp only [Tr.ht] at this; omega
          case rel => exact ⟨HS1.out.1, HS1.out.2.1, r, vl, Nat.le_refl _, HVL.out, rfl, HS1.out.2.2.2.2, by
            have h1 : (if 0 < cmp y x then hasT l.sk x else if cmp y x < 0 then hasT r.sk x else true) = q := HF.out
            rw [← HCC.out, if_neg (by have := HD.out; omega), if_pos (by have := HD.out; omega)] at h1
            exact h1⟩
        · have hd2 : decide (c < 0) = false := by simpa using c2
          have HD := Aside0.mk (And.intro c1 c2)
          clear c1 c2
          go_wp2_with (go_at_call 38; refine HC.out.mono ?_; rintro e w1 ⟨rfl, hB⟩; have HS1 := Aside0.mk (HS.out w1 hB); clear hB hg0 hg1 hg2 HC)
          rw [Exit.noGoto_ret]
          go_ret
          refine ⟨?_, HS1.out.1⟩
          have h1 : (if 0 < cmp y x then hasT l.sk x else if cmp y x < 0 then hasT r.sk x else true) = q := HF.out
          rw [← HCC.out, if_neg (by have := HD.out; omega), if_neg (by have := HD.out; omega)] at h1
          rw [← h1]; rfl
end Go.Proofs.Ytdjfjmcnghfdkaa.My
