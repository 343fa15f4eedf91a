/- frame.Scan. -/
import Derived.Test.YtfaniohoplbdoaaME
namespace Go.Proofs.Ytfaniohoplbdoaa.My
open Go Go.RowKit Go.Proofs.YtfaniohoplbdoaaW.PrintWords Go.Proofs.YtfaniohoplbdoaaW.PrintLast Go.Proofs.YtfaniohoplbdoaaW.PrintMore
set_option linter.unusedVariables false
set_option linter.unusedSimpArgs false
theorem info22 : (Try.prog.info? 22).map (fun i => (i.zero, i.size, i.bytes)) = some (some (.slice none 0 0), 1, 24) := by kernel_rfl
theorem fNext_calls (A : Option Addr) (c : Nat) (l : List Int) (at_ : Int) (w : World) (hC : CB w A l) (hc : l.length ≤ c) (hb : Byt l) :
    Calls Try.prog 26 #[.slice A l.length c, .int .i64 at_] w (NextPost w l at_) := by
  by_cases h : at_ < 0 ∨ (l.length : Int) < at_
  · exact fNext_range A c l at_ w (Kd.C_max hC) h
  · obtain ⟨k, rfl⟩ := Int.eq_ofNat_of_zero_le (show 0 ≤ at_ by omega)
    exact fNext_in A c l k w hC hc hb (by omega)
abbrev kB : Kd (List Int) := Kd.slice 5 (Kd.int .u8)
/-- A list of byte strings of the call's own. -/
abbrev RL (w : World) (base : Nat) (v : Value) (l : List (List Int)) : Prop := Kd.R kB 22 w base (fun _ => True) v l
abbrev ScanPost (w : World) (l : List Int) : Ending → World → Prop := fun e w' => ∃ v, e = .returned (.tuple #[v, .int .i64 ((scanL l).2 : Nat)]) ∧ RL w' w.heap.size v (scanL l).1 ∧ Below w.heap.size w w'
/-- What Next tells of a place in l, in Scan's words. -/
theorem next_scan {l : List Int} {k : Nat} (hk : k ≤ l.length) :
    (nextL l (k : Int) = ((peek (l.drop k)).2, ((k + (num4 (l.drop k) + 8) : Nat) : Int), 0) ∧ k + (num4 (l.drop k) + 8) ≤ l.length ∧ scanL (l.drop k) = ((peek (l.drop k)).2 :: (scanL (l.drop (k + (num4 (l.drop k) + 8)))).1, num4 (l.drop k) + 8 + (scanL (l.drop (k + (num4 (l.drop k) + 8)))).2)) ∨
    (∃ c, c ≠ 0 ∧ nextL l (k : Int) = ([], 0, c) ∧ scanL (l.drop k) = ([], 0)) := by
  have hn : nextL l (k : Int) = if (peek (l.drop k)).1 = 0 then ((peek (l.drop k)).2, (k : Int) + 8 + (num4 (l.drop k) : Int), 0) else ([], 0, (peek (l.drop k)).1) := by
    unfold nextL
    rw [if_neg (by omega), Int.toNat_natCast]
  by_cases h : (peek (l.drop k)).1 = 0
  · left
    have hs := scanL_step h
    have hl := (peek_ok h).2.2.1
    rw [List.drop_drop] at hs
    rw [List.length_drop] at hl
    refine ⟨?_, ?_, hs⟩
    · rw [hn, if_pos h]
      congr 2
      generalize num4 (l.drop k) = m
      omega
    · generalize num4 (l.drop k) = m at hl
      omega
  · right
    exact ⟨_, h, by rw [hn, if_neg h], scanL_stop h⟩
/-- Scan has come to the place k and has found acc. -/
def At (l : List Int) (k : Nat) (acc : List (List Int)) : Prop := scanL l = (acc ++ (scanL (l.drop k)).1, k + (scanL (l.drop k)).2) ∧ k ≤ l.length ∧ acc.length * 8 ≤ k
theorem At.zero (l : List Int) : At l 0 [] := ⟨by simp, by omega, by simp⟩
theorem At.next {l : List Int} {k : Nat} {acc : List (List Int)} (h : At l k acc) : (∃ k2 y, k < k2 ∧ At l k2 (acc ++ [y]) ∧ nextL l (k : Int) = (y, (k2 : Int), 0)) ∨ (∃ c, c ≠ 0 ∧ nextL l (k : Int) = ([], 0, c) ∧ scanL l = (acc, k)) := by
  obtain ⟨h1, h2, h3⟩ := h
  rcases next_scan h2 with ⟨hn, hk2, hs⟩ | ⟨c, hc, hn, hs⟩
  · refine .inl ⟨_, _, ?_, ⟨?_, hk2, ?_⟩, hn⟩
    · omega
    · rw [h1, hs]
      simp only [List.append_assoc, List.singleton_append, Prod.mk.injEq, true_and]
      omega
    · simp
      omega
  · exact .inr ⟨c, hc, hn, by rw [h1, hs]; simp⟩
/-- What is found has no more bytes than were read. -/
theorem calls_next {w : World} {A : Option Addr} {c : Nat} {l : List Int} {k : Int} {y : List Int} {n e0 : Int} (h : Calls Try.prog 26 #[.slice A l.length c, .int .i64 k] w (NextPost w l k)) (hn : nextL l k = (y, n, e0)) :
    Calls Try.prog 26 #[.slice A l.length c, .int .i64 k] w fun e w' => ∃ v, e = .returned (.tuple #[v, .int .i64 n, .int .i64 e0]) ∧ RB w' w.heap.size v y ∧ Below w.heap.size w w' := by
  unfold NextPost at h
  rw [hn] at h
  exact h
set_option maxHeartbeats 1000000 in
set_option maxRecDepth 100000 in
theorem fScan_calls (A : Option Addr) (c : Nat) (l : List Int) (w : World) (hC : CB w A l) (hc : l.length ≤ c) (hb : Byt l) (hl : l.length ≤ 1099511627776) :
    Calls Try.prog 28 #[.slice A l.length c] w (ScanPost w l) := by
  have HC := Aside0.mk hC
  have HB := Aside0.mk hb
  clear hC hb
  go_enter Try.func28, Try.ntmps28
  go_wp2
  go_loopw [4, 5] (fun v i wr => ∃ (k : Nat) (acc : List (List Int)), i = .int .i64 k ∧ Aside0 (At l k acc) ∧ Aside0 (RL wr w.heap.size v acc) ∧ Aside0 (Below w.heap.size w wr)) (fun _ i _ => l.length + 1 - (intOf i).toNat)
  case atStart => exact ⟨0, [], rfl, ⟨At.zero l⟩, ⟨Kd.R_nil _ _ _ _ _⟩, ⟨Below.refl _ _⟩⟩
  case round =>
    obtain ⟨k, acc, rfl, HA, HR, HW⟩ := hrel
    have hN := fNext_calls A c l (k : Int) wr (Kd.C_below HC.out HW.out) hc HB.out
    have HSz := Aside0.mk HW.out.size
    rcases HA.out.next with ⟨k2, y, hlt, ha2, hn⟩ | ⟨e0, he0, hn, hs⟩
    · have HN := Aside0.mk (calls_next hN hn)
      have HA2 := Aside0.mk ha2
      clear hn hN ha2
      go_wp2_with (first | (go_at_call 26; refine HN.out.mono ?_; rintro e w2 ⟨v2, rfl, hr2, hw2⟩; obtain ⟨A2, c2, rfl⟩ := Kd.R_slice hr2) | ((with_reducible refine gate_dst (N := 23) rfl ?_); refine Kd.R_append kB (w0 := w) w.heap.size rfl (.tmp 20) (.tmp 22) 38 22 (.slice none 0 0) 24 rfl Try.underlying38 info22 rfl (by decide) (by decide) _ acc y [.slice A2 y.length c2] (fun _ => True) (fun k => some k ≠ u4.ownBlock) rfl rfl ?hp (fun _ h => ⟨trivial, h⟩) (fun _ _ => trivial) ?hO ?hB ?hbase ?hl ?_))
      case hp => exact Kd.M_row (Kd.R_lower (Kd.R_mono (Kd.R_newR hr2 HR.out) (fun _ h => h.2)) HSz.out)
      case hO => exact Kd.R_below HR.out hw2
      case hB => exact below_then HW.out HSz.out hw2
      case hbase => exact Nat.le_trans HSz.out hw2.size
      case hl => have := HA.out.2; omega
      intro v3 w3 hr3 hw3 _ _
      have HR3 := Aside0.mk hr3
      have HW3 := Aside0.mk hw3
      clear hr3 hw3 hr2 hw2
      go_wp2
      go_roundw
      case rel => exact ⟨k2, _, rfl, HA2, HR3, HW3⟩
      case measure => simp [intOf]; have := HA2.out.2.1; omega
    · have HN := Aside0.mk (calls_next hN hn)
      have HS := Aside0.mk hs
      have hb0 : (e0 != 0) = true := by simpa using he0
      clear hn hN hs he0
      go_wp2_with (go_at_call 26; refine HN.out.mono ?_; rintro e w2 ⟨v2, rfl, hr2, hw2⟩)
      go_ret2
      refine ⟨_, by rw [HS.out]; rfl, ?_, ?_⟩
      · rw [HS.out]
        exact Kd.R_below HR.out hw2
      · exact below_then HW.out HSz.out hw2
end Go.Proofs.Ytfaniohoplbdoaa.My
