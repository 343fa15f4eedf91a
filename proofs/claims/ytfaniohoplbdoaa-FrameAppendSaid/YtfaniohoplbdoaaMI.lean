/- The reference of layer 10: Scan; 'lists'. -/
import Derived.Test.YtfaniohoplbdoaaMH
namespace Go.Proofs.Ytfaniohoplbdoaa.My
open Go Go.RowKit Go.Proofs.YtfaniohoplbdoaaW.PrintWords Go.Proofs.YtfaniohoplbdoaaW.PrintLast Go.Proofs.YtfaniohoplbdoaaW.PrintMore
set_option linter.unusedVariables false
set_option linter.unusedSimpArgs false
theorem rNext_calls (A : Option Addr) (c : Nat) (l : List Int) (at_ : Int) (w : World) (hC : CB w A l) (hc : l.length ≤ c) (hb : Byt l) :
    Calls Try.prog 27 #[.slice A l.length c, .int .i64 at_] w (NextPost w l at_) := by
  by_cases h : at_ < 0 ∨ (l.length : Int) < at_
  · exact rNext_range A c l at_ w (Kd.C_max hC) h
  · obtain ⟨k, rfl⟩ := Int.eq_ofNat_of_zero_le (show 0 ≤ at_ by omega)
    exact rNext_in A c l k w hC hc hb (by omega)
theorem calls_rnext {w : World} {A : Option Addr} {c : Nat} {l : List Int} {k : Int} {y : List Int} {n e0 : Int} (h : Calls Try.prog 27 #[.slice A l.length c, .int .i64 k] w (NextPost w l k)) (hn : nextL l k = (y, n, e0)) :
    Calls Try.prog 27 #[.slice A l.length c, .int .i64 k] w fun e w' => ∃ v, e = .returned (.tuple #[v, .int .i64 n, .int .i64 e0]) ∧ RB w' w.heap.size v y ∧ Below w.heap.size w w' := by
  unfold NextPost at h
  rw [hn] at h
  exact h
set_option maxHeartbeats 1000000 in
set_option maxRecDepth 100000 in
theorem rScan_calls (A : Option Addr) (c : Nat) (l : List Int) (w : World) (hC : CB w A l) (hc : l.length ≤ c) (hb : Byt l) (hl : l.length ≤ 1099511627776) :
    Calls Try.prog 29 #[.slice A l.length c] w (ScanPost w l) := by
  have HC := Aside0.mk hC
  have HB := Aside0.mk hb
  clear hC hb
  go_enter Try.func29, Try.ntmps29
  go_wp2
  go_loopw [4, 5] (fun v i wr => ∃ (k : Nat) (acc : List (List Int)), i = .int .i64 k ∧ Aside0 (At l k acc) ∧ Aside0 (RL wr w.heap.size v acc) ∧ Aside0 (Below w.heap.size w wr)) (fun _ i _ => l.length + 1 - (intOf i).toNat)
  case atStart => exact ⟨0, [], rfl, ⟨At.zero l⟩, ⟨Kd.R_nil _ _ _ _ _⟩, ⟨Below.refl _ _⟩⟩
  case round =>
    obtain ⟨k, acc, rfl, HA, HR, HW⟩ := hrel
    have hN := rNext_calls A c l (k : Int) wr (Kd.C_below HC.out HW.out) hc HB.out
    have HSz := Aside0.mk HW.out.size
    rcases HA.out.next with ⟨k2, y, hlt, ha2, hn⟩ | ⟨e0, he0, hn, hs⟩
    · have HN := Aside0.mk (calls_rnext hN hn)
      have HA2 := Aside0.mk ha2
      clear hn hN ha2
      go_wp2_with (first | (go_at_call 27; refine HN.out.mono ?_; rintro e w2 ⟨v2, rfl, hr2, hw2⟩; obtain ⟨A2, c2, rfl⟩ := Kd.R_slice hr2) | ((with_reducible refine gate_dst (N := 23) rfl ?_); refine Kd.R_append kB (w0 := w) w.heap.size rfl (.tmp 20) (.tmp 22) 38 22 (.slice none 0 0) 24 rfl Try.underlying38 info22 rfl (by decide) (by decide) _ acc y [.slice A2 y.length c2] (fun _ => True) (fun k => some k ≠ u4.ownBlock) rfl rfl ?hp (fun _ h => ⟨trivial, h⟩) (fun _ _ => trivial) ?hO ?hB ?hbase ?hl ?_))
      case hp => exact Kd.M_row (Kd.R_lower (Kd.R_mono (Kd.R_newR hr2 HR.out) (fun _ h => h.2)) HSz.out)
      case hO => exact Kd.R_below HR.out hw2
      case hB => exact below_then HW.out HSz.out hw2
      case hbase => exact Nat.le_trans HSz.out hw2.size
      case hl => have := HA.out.2; omega
      intro v3 w3 hr3 hw3 _ _
      have HR3 := Aside0.mk hr3
      have HW3 := Aside0.mk hw3
      clear hr3 hw3 hr2 hw2
      go_wp2
      go_roundw
      case rel => exact ⟨k2, _, rfl, HA2, HR3, HW3⟩
      case measure => simp [intOf]; have := HA2.out.2.1; omega
    · have HN := Aside0.mk (calls_rnext hN hn)
      have HS := Aside0.mk hs
      have hb0 : (e0 != 0) = true := by simpa using he0
      clear hn hN hs he0
      go_wp2_with (go_at_call 27; refine HN.out.mono ?_; rintro e w2 ⟨v2, rfl, hr2, hw2⟩)
      go_ret2
      refine ⟨_, by rw [HS.out]; rfl, ?_, ?_⟩
      · rw [HS.out]
        exact Kd.R_below HR.out hw2
      · exact below_then HW.out HSz.out hw2
end Go.Proofs.Ytfaniohoplbdoaa.My
