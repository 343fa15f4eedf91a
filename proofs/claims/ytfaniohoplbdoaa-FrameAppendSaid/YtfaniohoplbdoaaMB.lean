/- The checksum's functions: what frame.update, frame.Sum, frame.sum, step and the reference's Sum compute. -/
import Derived.Test.YtfaniohoplbdoaaMA
import Derived.Test.YtfaniohoplbdoaaPFrameAppendx1
set_option linter.unusedVariables false
set_option linter.unusedSimpArgs false
namespace Go.Proofs.Ytfaniohoplbdoaa.My
open Go Go.RowKit Go.Proofs.YtfaniohoplbdoaaW.PrintWords Go.Proofs.YtfaniohoplbdoaaW.PrintLast Go.Proofs.YtfaniohoplbdoaaW.PrintMore
open Go.Proofs.Ytfaniohoplbdoaa.PFrameAppend (frame_update.l0 frame_update.l1 frame_update.f frame_update.calls bitemporalref10_step.l0 bitemporalref10_step.f bitemporalref10_step.calls)

theorem wrap_succ {i : Nat} (h : i < 9223372036854775807) : wrap64 ((i : Int) + 1) = ((i + 1 : Nat) : Int) := by
  unfold wrap64
  omega
theorem upd_l1 (l : List Int) (n i : Int) (d : Nat) : ∀ (k j r : Nat), j + d = 8 → r < 4294967296 → frame_update.l1 (k + d + 1) (r : Int) l n i (j : Int) = frame_update.l0 k (lstN d r : Nat) l n (wrap64 (i + 1)) := by
  induction d with
  | zero =>
    intro k j r hj hr
    obtain rfl : j = 8 := by omega
    rw [frame_update.l1]
    rfl
  | succ d ih =>
    intro k j r hj hr
    rw [show k + (d + 1) + 1 = (k + d + 1) + 1 from by omega, frame_update.l1, if_pos (by omega)]
    have hand : Go.bits .and .u32 (r : Int) 1 = ((r % 2 : Nat) : Int) := by
      have := u32_and_nat r 1 hr (by omega)
      rw [Nat.and_one_is_mod] at this
      exact this
    have hw : wrap64 ((j : Int) + 1) = ((j + 1 : Nat) : Int) := wrap_succ (by omega)
    have hx : Go.bits .xor .u32 ((r : Int) / 2) 2197175160 = (((r / 2) ^^^ 2197175160 : Nat) : Int) := by
      have := u32_xor_nat (r / 2) 2197175160 (by omega) (by omega)
      simpa using this
    rw [hand, hw, hx]
    by_cases h1 : r % 2 = 1
    · rw [if_pos (by omega), ih k (j + 1) _ (by omega) (by have := lst_lt hr; rwa [lst, if_pos h1] at this)]
      rw [lstN, lst, if_pos h1]
    · rw [if_neg (by omega), show ((r : Int) / 2) = ((r / 2 : Nat) : Int) from by omega, ih k (j + 1) _ (by omega) (by omega)]
      rw [lstN, lst, if_neg h1]
theorem upd_l0 (l : List Int) (hl : l.length ≤ 9223372036854775807) (hb : Byt l) (d : Nat) : ∀ (i r : Nat), i + d = l.length → r < 4294967296 → frame_update.l0 (10 * d + 1) (r : Int) l (l.length : Int) (i : Int) = some ((crcL r (l.drop i) : Nat) : Int) := by
  induction d with
  | zero =>
    intro i r hi hr
    rw [frame_update.l0, if_neg (by omega), List.drop_of_length_le (by omega)]
    rfl
  | succ d ih =>
    intro i r hi hr
    have hlt : i < l.length := by omega
    have hx := hb.at_ i hlt
    have hrd : rd l (i : Int) = l[i] := by simp [rd, List.getD_eq_getElem?_getD, List.getElem?_eq_getElem hlt]
    rw [show 10 * (d + 1) + 1 = (10 * d + 1 + 8 + 1) + 1 from by omega, frame_update.l0, if_pos (by omega), if_pos (by omega), if_pos (by omega), hrd]
    obtain ⟨c, hc⟩ := Int.eq_ofNat_of_zero_le hx.1
    have hx1 : Go.bits .xor .u32 (r : Int) (l[i] % 4294967296) = ((r ^^^ c : Nat) : Int) := by
      rw [hc, show ((c : Int) % 4294967296) = (c : Int) from by omega]
      exact u32_xor_nat r c hr (by omega)
    rw [hx1]
    have h1 := upd_l1 l (l.length : Int) (i : Int) 8 (10 * d + 1) 0 (r ^^^ c) (by omega) (xor_lt32 hr (by omega))
    rw [show ((0 : Nat) : Int) = 0 from rfl] at h1
    rw [h1, wrap_succ (by omega), ih (i + 1) _ (by omega) (lstN_lt 8 (xor_lt32 hr (by omega)))]
    rw [← List.getElem_cons_drop (h := hlt), crcL_cons, hc, Int.toNat_natCast]
    rfl
theorem step_l0 (d : Nat) : ∀ (j r : Nat), j + d = 8 → r < 4294967296 → bitemporalref10_step.l0 (d + 1) (r : Int) (j : Int) = some ((lstN d r : Nat) : Int) := by
  induction d with
  | zero =>
    intro j r hj hr
    obtain rfl : j = 8 := by omega
    rw [bitemporalref10_step.l0]
    rfl
  | succ d ih =>
    intro j r hj hr
    rw [bitemporalref10_step.l0, if_pos (by omega)]
    have hm : Int.tmod (r : Int) 2 = ((r % 2 : Nat) : Int) := by rw [Int.tmod_eq_emod_of_nonneg (by omega)]; omega
    have hd : (Int.tdiv (r : Int) 2) % 4294967296 = ((r / 2 : Nat) : Int) := by rw [Int.tdiv_eq_ediv_of_nonneg (by omega)]; omega
    have hw : wrap64 ((j : Int) + 1) = ((j + 1 : Nat) : Int) := wrap_succ (by omega)
    have hx : Go.bits .xor .u32 ((r / 2 : Nat) : Int) 2197175160 = (((r / 2) ^^^ 2197175160 : Nat) : Int) := u32_xor_nat (r / 2) 2197175160 (by omega) (by omega)
    rw [hm, hd, hw, hx]
    by_cases h1 : r % 2 = 1
    · rw [if_pos (by omega), ih (j + 1) _ (by omega) (by have := lst_lt hr; rwa [lst, if_pos h1] at this)]
      rw [lstN, lst, if_pos h1]
    · rw [if_neg (by omega), ih (j + 1) _ (by omega) (by omega)]
      rw [lstN, lst, if_neg h1]

/-! ### the contracts -/
abbrev CB (w : World) (A : Option Addr) (l : List Int) : Prop := Kd.C (Kd.int .u8) w A l.length l
theorem upd_calls (r : Nat) (hr : r < 4294967296) (A : Option Addr) (c : Nat) (l : List Int) (w : World) (hC : CB w A l) (hc : l.length ≤ c) (hb : Byt l) :
    Calls Try.prog 68 #[.int .u32 (r : Int), .slice A l.length c] w fun e w' => e = .returned (.int .u32 (crcL r l : Nat)) ∧ Drawn0 w w' := by
  refine frame_update.calls (10 * l.length + 1) (r : Int) A c l _ w hC hc ?_
  have := upd_l0 l (Kd.C_max hC) hb l.length 0 r (by omega) hr
  simpa [frame_update.f] using this
theorem step_calls (r : Nat) (hr : r < 4294967296) (c : Int) (h0 : 0 ≤ c) (h1 : c ≤ 255) (w : World) :
    Calls Try.prog 69 #[.int .u32 (r : Int), .int .u8 c] w fun e w' => e = .returned (.int .u32 (crcB r c.toNat : Nat)) ∧ Drawn0 w w' := by
  refine bitemporalref10_step.calls 9 (r : Int) c _ w ?_
  obtain ⟨n, rfl⟩ := Int.eq_ofNat_of_zero_le h0
  have hx1 : Go.bits .xor .u32 (r : Int) ((n : Int) % 4294967296) = ((r ^^^ n : Nat) : Int) := by
    rw [show ((n : Int) % 4294967296) = (n : Int) from by omega]
    exact u32_xor_nat r n hr (by omega)
  unfold bitemporalref10_step.f
  rw [hx1]
  exact step_l0 8 0 (r ^^^ n) (by omega) (xor_lt32 hr (by omega))
theorem not32 (r : Nat) (hr : r < 4294967296) : Go.bits .xor .u32 IntKind.u32.max (r : Int) = ((4294967295 - r : Nat) : Int) := by
  rw [show IntKind.u32.max = ((4294967295 : Nat) : Int) from rfl]
  have h := u32_xor_nat 4294967295 r (by omega) hr
  have hx : (4294967295 ^^^ r : Nat) = 4294967295 - r := by
    apply Nat.eq_of_testBit_eq
    intro i
    rw [show (4294967295 : Nat) = 2 ^ 32 - 1 from rfl, Nat.testBit_xor, Nat.testBit_two_pow_sub_one, Nat.sub_sub, Nat.add_comm 1 r, Nat.testBit_two_pow_sub_succ (by simpa using hr)]
    by_cases hi : i < 32
    · simp [hi]
    · simp only [hi, decide_false, Bool.false_bne, Bool.false_and]
      exact Nat.testBit_lt_two_pow (Nat.lt_of_lt_of_le (show r < 2 ^ 32 from hr) (Nat.pow_le_pow_right (n := 2) (by decide) (Nat.le_of_not_lt hi)))
  rw [hx] at h
  exact h
set_option maxHeartbeats 400000 in
theorem fSum_calls (A : Option Addr) (c : Nat) (l : List Int) (w : World) (hC : CB w A l) (hc : l.length ≤ c) (hb : Byt l) :
    Calls Try.prog 18 #[.slice A l.length c] w fun e w' => e = .returned (.int .u32 (sumL l : Nat)) ∧ Drawn0 w w' := by
  have HN := Aside0.mk (not32 _ (crcL_lt (r := 4294967295) (by omega) hb))
  have HU := Aside0.mk (upd_calls 4294967295 (by omega) A c l w hC hc hb)
  clear hC hc hb
  go_enter Try.func18, Try.ntmps18
  go_wp2_with fail
  refine HU.out.mono ?_
  rintro e w' ⟨rfl, hw⟩
  obtain ⟨n, rfl⟩ := hw
  go_wp2
  go_ret
  exact ⟨by rw [HN.out]; rfl, ⟨_, rfl⟩⟩
set_option maxHeartbeats 400000 in
theorem fsum_calls (A : Option Addr) (c : Nat) (l : List Int) (A' : Option Addr) (c' : Nat) (l' : List Int) (w : World) (hC : CB w A l) (hc : l.length ≤ c) (hb : Byt l) (hC' : CB w A' l') (hc' : l'.length ≤ c') (hb' : Byt l') :
    Calls Try.prog 71 #[.slice A l.length c, .slice A' l'.length c'] w fun e w' => e = .returned (.int .u32 (sumL (l ++ l') : Nat)) ∧ Drawn0 w w' := by
  have hl := crcL_lt (r := 4294967295) (by omega) hb
  have HN := Aside0.mk (not32 _ (crcL_lt hl hb'))
  have HU := Aside0.mk (upd_calls 4294967295 (by omega) A c l w hC hc hb)
  have HU' := Aside0.mk (fun n => upd_calls (crcL 4294967295 l) hl A' c' l' (w.drewN n) (Kd.C_drewN hC' n) hc' hb')
  clear hC hc hb hC' hc' hb' hl
  go_enter Try.func71, Try.ntmps71
  go_wp2_with fail
  refine HU.out.mono ?_
  rintro e w' ⟨rfl, hw⟩
  obtain ⟨n, rfl⟩ := hw
  go_wp2_with fail
  refine (HU'.out n).mono ?_
  rintro e w' ⟨rfl, hw⟩
  obtain ⟨m, rfl⟩ := hw
  go_wp2
  go_ret
  exact ⟨by rw [HN.out, sumL, crcL_append]; rfl, ⟨_, rfl⟩⟩
set_option maxHeartbeats 400000 in
theorem rSum_calls (A : Option Addr) (c : Nat) (l : List Int) (w : World) (hC : CB w A l) (hc : l.length ≤ c) (hb : Byt l) :
    Calls Try.prog 19 #[.slice A l.length c] w fun e w' => e = .returned (.int .u32 (sumL l : Nat)) ∧ Drawn0 w w' := by
  have hm := Kd.C_max hC
  have HR := Aside0.mk hC
  have HB := Aside0.mk hb
  have HN := Aside0.mk (not32 _ (crcL_lt (r := 4294967295) (by omega) hb))
  clear hC hc hb
  go_enter Try.func19, Try.ntmps19
  go_wp2
  go_loopw [3, 8] (fun v i wr => ∃ k : Nat, k ≤ l.length ∧ i = .int .i64 k ∧ v = .int .u32 (crcL 4294967295 (l.take k) : Nat) ∧ Drawn0 w wr) (fun _ i _ => l.length - (intOf i).toNat)
  case atStart => exact ⟨0, by omega, rfl, rfl, Drawn0.refl w⟩
  case round =>
    obtain ⟨k, hk, rfl, rfl, hw⟩ := hrel
    obtain ⟨n, rfl⟩ := hw
    by_cases hlt : k < l.length
    · obtain ⟨ad, rfl, hcell⟩ := Kd.at_int HR.out (k : Int) (by omega) (by omega)
      have hx := HB.out.at_ k hlt
      have hrd : rd l (k : Int) = l[k] := by simp [rd, List.getD_eq_getElem?_getD, List.getElem?_eq_getElem hlt]
      rw [Int.toNat_natCast, hrd] at hcell
      have hr := crcL_lt (r := 4294967295) (by omega) (HB.out.take k)
      have HS := Aside0.mk (fun m => step_calls (crcL 4294967295 (l.take k)) hr l[k] hx.1 hx.2 (w.drewN m))
      have HT := Aside0.mk (show crcL 4294967295 (l.take (k + 1)) = crcB (crcL 4294967295 (l.take k)) l[k].toNat by
        rw [List.take_succ_eq_append_getElem hlt, crcL_append]; rfl)
      clear hx hrd hr
      go_wp2_with (go_at_call 69; refine (HS.out _).mono ?_; rintro e w' ⟨rfl, ⟨m, rfl⟩⟩)
      go_roundw
      case rel => exact ⟨k + 1, by omega, by go_num, by rw [HT.out], ⟨_, rfl⟩⟩
      case measure => simp [intOf]; omega
    · obtain rfl : k = l.length := by omega
      go_wp2
      go_ret
      exact ⟨by rw [HN.out]; rfl, ⟨_, rfl⟩⟩
end Go.Proofs.Ytfaniohoplbdoaa.My
