/- The statement ItreeHeight. -/
import Derived.Test.YtdjfjmcnghfdkaaIW
namespace Go.Proofs.Ytdjfjmcnghfdkaa.My
open Go Go.RowKit Go.Proofs.YtdjfjmcnghfdkaaW.PrintWords Go.Proofs.YtdjfjmcnghfdkaaW.PrintLast Go.Proofs.YtdjfjmcnghfdkaaW.PrintMore Go.Proofs.Ytdjfjmcnghfdkaa.PItreeActs
set_option linter.unusedVariables false
set_option linter.unusedSimpArgs false
set_option maxHeartbeats 4000000 in
set_option maxRecDepth 100000 in
theorem law_height (A : Option Addr) (c : Nat) (l : List S46) (w : World) (hl : Kd.C k46 w A l.length l) :
    Calls Try.prog 5 #[.slice A l.length c] w (TruePost w) := by
  have hm := Kd.C_max hl
  have HL := Aside0.mk (fun (W : World) (hB : Below w.heap.size w W) => (show Kd.C k46 W A l.length l from Kd.C_below hl hB))
  have hu46 := Try.underlying46
  have hu28 := Try.underlying28
  by_cases hbig : 300 < l.length
  · clear hl
    go_enter Try.func5, Try.ntmps5
    go_wp2_with (first
      | (go_at_call 10; refine (bnew w w (Below.refl _ _)).mono ?_; rintro e w1 ⟨t, rfl, hT, hB⟩; have HB := Aside0.mk hB; clear hT hB)
      | (go_at_call 9; refine (works_calls w w1 HB.out).mono ?_; rintro e w2 ⟨rfl, hB⟩; have HB2 := Aside0.mk (below_then HB.out HB.out.size hB); clear hB))
    go_ret
    exact ⟨rfl, HB2.out⟩
  · clear hl
    go_enter Try.func5, Try.ntmps5
    go_wp2_with (first
      | (go_at_call 10; refine (bnew w w (Below.refl _ _)).mono ?_; rintro e w1 ⟨t, rfl, hT, hB⟩; have HT := Aside0.mk hT; clear hT hB))
    go_loopw [23] (fun i wr => ∃ (k : Nat), k ≤ l.length ∧ i = .int .i64 k ∧ Aside0 (∃ Q, TB w wr t Q ∧ Q.list.length ≤ k)) (fun i _ => l.length - (intOf i).toNat)
    case atStart => exact ⟨0, by omega, rfl, ⟨.nil, HT.out, by decide⟩⟩
    case round =>
      obtain ⟨k, hk, rfl, HP⟩ := hrel
      obtain ⟨Q, hP, hnq⟩ := HP.out
      have HPr := Aside0.mk hP
      have HNQ := Aside0.mk hnq
      have HPB := Aside0.mk hP.below
      clear HP hP hnq HT
      by_cases hlt : k < l.length
      · obtain ⟨ad, rfl, hc0, hc1, hc2, hc3⟩ := at_op (HL.out wr HPB.out) k hlt
        obtain ⟨o, ho⟩ : ∃ o, o = l[k] := ⟨_, rfl⟩
        rw [← ho] at hc0 hc1 hc2 hc3
        clear ho
        obtain ⟨wa, hwa⟩ : ∃ wa, wa = wr.alloc (.cells #[.int .i64 o.f0, .int .i64 o.f1.f0.f0, .int .i64 o.f1.f0.f1, .int .i64 o.f1.f1] 46) := ⟨_, rfl⟩
        have HWA := Aside0.mk hwa
        have HPa := Aside0.mk (HPr.out.move (w' := wa) (by rw [hwa]; exact below_alloc (Below.refl _ _) _))
        have HLen := Aside0.mk (len_stepT (Q := Q) (by obtain ⟨S, h, _⟩ := HPr.out; exact h.2.ord) o)
        have HStep := Aside0.mk (show Calls Try.prog (if o.f0 = 0 then 11 else 19) #[.pointer (some ⟨t, 0, none⟩), .agg #[.int .i64 o.f1.f0.f0, .int .i64 o.f1.f0.f1], .int .i64 o.f1.f1] wa (fun e w' => (∃ r, e = .returned (.bool r)) ∧ TB w w' t (stepT Q o).1) by
          unfold stepT
          by_cases h0 : o.f0 = 0
          · rw [if_pos h0, if_pos h0]; exact (badd w wa t Q o.f1 _ rfl HPa.out (by have := HNQ.out; omega)).mono fun e w' ⟨he, h⟩ => ⟨⟨_, he⟩, h⟩
          · rw [if_neg h0, if_neg h0]; exact (bremove w wa t Q o.f1 HPa.out (by have := HNQ.out; omega)).mono fun e w' ⟨he, h⟩ => ⟨⟨_, he⟩, h⟩)
        obtain ⟨R, hR⟩ : ∃ R, R = (stepT Q o).1 := ⟨_, rfl⟩
        rw [← hR] at HStep HLen
        clear hR
        by_cases h0 : o.f0 = 0
        · rw [if_pos h0] at HStep
          have h0b : (o.f0 == 0) = true := by simp [h0]
          clear hwa h0
          go_upto_region 11 with (first
            | (go_at_call 11; rw [← HWA.out]; refine HStep.out.mono ?_; rintro e w2 ⟨⟨r, rfl⟩, hT2⟩
               have HT2 := Aside0.mk hT2
               have HG2 := Aside0.mk (show Good R R.list.length by obtain ⟨S, h, _⟩ := hT2; exact h.2)
               obtain ⟨n, hn⟩ : ∃ n, n = R.list.length := ⟨_, rfl⟩
               obtain ⟨h, hh⟩ : ∃ h, h = R.ht := ⟨_, rfl⟩
               have HN := Aside0.mk hn
               have HH := Aside0.mk hh
               have hn300 : n ≤ 300 := by have := HLen.out; have := HNQ.out; omega
               have h1 := ht_upper R
               have h2 := ht_lower R HG2.out.bal
               have h3 := ht_zero R
               rw [← hn, ← hh] at h1 h2 h3
               have HF := Aside0.mk (And.intro h1 (And.intro h2 h3))
               clear hT2 hn hh h1 h2 h3 HStep)
            | (go_at_call 20; refine (blen w _ t R HT2.out).mono ?_; rintro e _ ⟨rfl, rfl⟩; rw [← HN.out])
            | (go_at_call 21; refine (bheight w _ t R HT2.out).mono ?_; rintro e _ ⟨rfl, rfl⟩; rw [← HH.out]))
          obtain ⟨N, hN⟩ : ∃ N : Int, N = (n : Int) + 1 := ⟨_, rfl⟩
          obtain ⟨M, hM⟩ : ∃ M : Int, M = (h : Int) := ⟨_, rfl⟩
          rw [← hN, ← hM]
          have g1 : decide (N < 1) = false := by simp only [decide_eq_false_iff_not]; omega
          have g2 : decide (301 < N) = false := by simp only [decide_eq_false_iff_not]; omega
          have g3 : decide (M < 0) = false := by simp only [decide_eq_false_iff_not]; omega
          have hh17 := HF.out.2.1
          have hh20 : h ≤ 20 := by
            rcases Nat.lt_or_ge 20 h with h21 | h21
            · have e1 : 2 ^ 21 ≤ 2 ^ h := Nat.pow_le_pow_right (by decide) h21
              have e2 : (n + 1) * (n + 1) ≤ 301 * 301 := Nat.mul_le_mul (by omega) (by omega)
              have e3 : (2 : Nat) ^ 21 = 2097152 := by decide
              omega
            · exact h21
          have g4 : decide (20 < M) = false := by simp only [decide_eq_false_iff_not]; omega
          obtain ⟨P, hP⟩ : ∃ P : Int, P = ((2 ^ h : Nat) : Int) := ⟨_, rfl⟩
          have hpw : 2 ^ h ≤ 1048576 := Nat.le_trans (Nat.pow_le_pow_right (by decide) hh20) (by decide)
          have hsh : Op.shift .shl .i64 1 .i64 M = pure (.int .i64 P) := by
            rw [shift_shl_any _ _ _ _ (by omega), hM, Int.toNat_natCast, show min h IntKind.i64.bits = h by have : IntKind.i64.bits = 64 := rfl; omega, Int.one_mul, i64_w, hP]
            have hP1 : P ≤ 1048576 := by rw [hP]; exact Int.ofNat_le.2 hpw
            have hP0 : 0 ≤ P := by rw [hP]; exact Int.natCast_nonneg _
            have h5 : ((2 : Int) ^ h) = P := by rw [hP]; simp
            have h6 : wrap64 P = P := by unfold wrap64; omega
            have h7 : wrap64 ((2 : Int) ^ h) = ((2 ^ h : Nat) : Int) := by rw [h5, h6, hP]
            rw [h7]
          obtain ⟨K, hK⟩ : ∃ K : Int, K = N * N := ⟨_, rfl⟩
          have hKn : K = (((n + 1) * (n + 1) : Nat) : Int) := by rw [hK, hN]; simp
          have hsq : (n + 1) * (n + 1) ≤ 301 * 301 := Nat.mul_le_mul (by omega) (by omega)
          have hmul : wrap64 (N * N) = K := by rw [← hK]; unfold wrap64; omega
          have g5 : decide (P < N) = false := by have := HF.out.1; simp only [decide_eq_false_iff_not]; omega
          have g6 : decide (K < P) = false := by simp only [decide_eq_false_iff_not]; omega
          obtain ⟨b, hb⟩ : ∃ b : Bool, b = (N == 1) := ⟨_, rfl⟩
          have g7 : (N == 1) = b := hb.symm
          have g8 : (M == 0) = b := by rw [hb, Bool.eq_iff_iff]; have := HF.out.2.2; simp only [beq_iff_eq]; omega
          clear hN hM hP hK hKn hb hsq hpw hh20 hh17
          go_wp2
          exact ⟨⟨k + 1, by omega, by go_num, ⟨R, HT2.out, by have := HLen.out; have := HNQ.out; omega⟩⟩, by simp [intOf]; omega⟩
        · rw [if_neg h0] at HStep
          have h0b : (o.f0 == 0) = false := by simp [h0]
          clear hwa h0
          go_upto_region 11 with (first
            | (go_at_call 19; rw [← HWA.out]; refine HStep.out.mono ?_; rintro e w2 ⟨⟨r, rfl⟩, hT2⟩
               have HT2 := Aside0.mk hT2
               have HG2 := Aside0.mk (show Good R R.list.length by obtain ⟨S, h, _⟩ := hT2; exact h.2)
               obtain ⟨n, hn⟩ : ∃ n, n = R.list.length := ⟨_, rfl⟩
               obtain ⟨h, hh⟩ : ∃ h, h = R.ht := ⟨_, rfl⟩
               have HN := Aside0.mk hn
               have HH := Aside0.mk hh
               have hn300 : n ≤ 300 := by have := HLen.out; have := HNQ.out; omega
               have h1 := ht_upper R
               have h2 := ht_lower R HG2.out.bal
               have h3 := ht_zero R
               rw [← hn, ← hh] at h1 h2 h3
               have HF := Aside0.mk (And.intro h1 (And.intro h2 h3))
               clear hT2 hn hh h1 h2 h3 HStep)
            | (go_at_call 20; refine (blen w _ t R HT2.out).mono ?_; rintro e _ ⟨rfl, rfl⟩; rw [← HN.out])
            | (go_at_call 21; refine (bheight w _ t R HT2.out).mono ?_; rintro e _ ⟨rfl, rfl⟩; rw [← HH.out]))
          obtain ⟨N, hN⟩ : ∃ N : Int, N = (n : Int) + 1 := ⟨_, rfl⟩
          obtain ⟨M, hM⟩ : ∃ M : Int, M = (h : Int) := ⟨_, rfl⟩
          rw [← hN, ← hM]
          have g1 : decide (N < 1) = false := by simp only [decide_eq_false_iff_not]; omega
          have g2 : decide (301 < N) = false := by simp only [decide_eq_false_iff_not]; omega
          have g3 : decide (M < 0) = false := by simp only [decide_eq_false_iff_not]; omega
          have hh17 := HF.out.2.1
          have hh20 : h ≤ 20 := by
            rcases Nat.lt_or_ge 20 h with h21 | h21
            · have e1 : 2 ^ 21 ≤ 2 ^ h := Nat.pow_le_pow_right (by decide) h21
              have e2 : (n + 1) * (n + 1) ≤ 301 * 301 := Nat.mul_le_mul (by omega) (by omega)
              have e3 : (2 : Nat) ^ 21 = 2097152 := by decide
              omega
            · exact h21
          have g4 : decide (20 < M) = false := by simp only [decide_eq_false_iff_not]; omega
          obtain ⟨P, hP⟩ : ∃ P : Int, P = ((2 ^ h : Nat) : Int) := ⟨_, rfl⟩
          have hpw : 2 ^ h ≤ 1048576 := Nat.le_trans (Nat.pow_le_pow_right (by decide) hh20) (by decide)
          have hsh : Op.shift .shl .i64 1 .i64 M = pure (.int .i64 P) := by
            rw [shift_shl_any _ _ _ _ (by omega), hM, Int.toNat_natCast, show min h IntKind.i64.bits = h by have : IntKind.i64.bits = 64 := rfl; omega, Int.one_mul, i64_w, hP]
            have hP1 : P ≤ 1048576 := by rw [hP]; exact Int.ofNat_le.2 hpw
            have hP0 : 0 ≤ P := by rw [hP]; exact Int.natCast_nonneg _
            have h5 : ((2 : Int) ^ h) = P := by rw [hP]; simp
            have h6 : wrap64 P = P := by unfold wrap64; omega
            have h7 : wrap64 ((2 : Int) ^ h) = ((2 ^ h : Nat) : Int) := by rw [h5, h6, hP]
            rw [h7]
          obtain ⟨K, hK⟩ : ∃ K : Int, K = N * N := ⟨_, rfl⟩
          have hKn : K = (((n + 1) * (n + 1) : Nat) : Int) := by rw [hK, hN]; simp
          have hsq : (n + 1) * (n + 1) ≤ 301 * 301 := Nat.mul_le_mul (by omega) (by omega)
          have hmul : wrap64 (N * N) = K := by rw [← hK]; unfold wrap64; omega
          have g5 : decide (P < N) = false := by have := HF.out.1; simp only [decide_eq_false_iff_not]; omega
          have g6 : decide (K < P) = false := by simp only [decide_eq_false_iff_not]; omega
          obtain ⟨b, hb⟩ : ∃ b : Bool, b = (N == 1) := ⟨_, rfl⟩
          have g7 : (N == 1) = b := hb.symm
          have g8 : (M == 0) = b := by rw [hb, Bool.eq_iff_iff]; have := HF.out.2.2; simp only [beq_iff_eq]; omega
          clear hN hM hP hK hKn hb hsq hpw hh20 hh17
          go_wp2
          exact ⟨⟨k + 1, by omega, by go_num, ⟨R, HT2.out, by have := HLen.out; have := HNQ.out; omega⟩⟩, by simp [intOf]; omega⟩
      · go_wp2_with (first
          | (go_at_call 9; refine (works_calls w wr HPB.out).mono ?_; rintro e w2 ⟨rfl, hB⟩; have HB2 := Aside0.mk (below_then HPB.out HPB.out.size hB); clear hB))
        go_ret
        exact ⟨rfl, HB2.out⟩
end Go.Proofs.Ytdjfjmcnghfdkaa.My
