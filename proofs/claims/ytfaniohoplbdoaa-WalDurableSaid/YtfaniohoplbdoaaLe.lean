/- wal: word, counter.count, the Log's small methods; plain facts on intact frames. -/
import Derived.Test.YtfaniohoplbdoaaLd
namespace Go.Proofs.Ytfaniohoplbdoaa.My
open Go Go.RowKit Go.Proofs.YtfaniohoplbdoaaW.PrintWords Go.Proofs.YtfaniohoplbdoaaW.PrintLast Go.Proofs.YtfaniohoplbdoaaW.PrintMore Go.Proofs.Ytfaniohoplbdoaa.PDiskActs
set_option linter.unusedVariables false
set_option linter.unusedSimpArgs false
theorem scan_frames (l : List (List Int)) (h : ∀ b ∈ l, b.length ≤ 1048576) : scanL (framesL l) = (l, (framesL l).length) := by
  have := scanL_frames l [] h
  rw [List.append_nil, scanL_short (f := []) (by simp)] at this
  simpa using this
set_option maxHeartbeats 1000000 in
set_option maxRecDepth 100000 in
theorem wword_calls (s : ByteArray) (w : World) (hm : s.size ≤ 9223372036854775807) : Calls Try.prog 75 #[.string s] w fun e w' => e = .returned (.bool (nameOk s)) ∧ Below w.heap.size w w' := by
  have kc := fun (w : World) => Lib.run_convert_string_bytes (P := Try.prog) w 9 22 5 s Try.underlying9 Try.underlying22 Try.underlying5
  by_cases h0 : s.size = 0
  · have e : s = ⟨#[]⟩ := by
      have : s.data.size = 0 := h0
      cases s with | mk d => simp at this; rw [this]
    subst e
    go_enter Try.func75, Try.ntmps75
    go_wp2
    go_ret
    exact ⟨by rfl, Below.refl _ _⟩
  have hem : s.toList.isEmpty = false := by
    rw [ByteArray.toList_eq]
    cases h : s.data.toList with
    | nil =>
      have : s.data.toList.length = 0 := by rw [h]; rfl
      rw [Array.length_toList] at this
      exact absurd this h0
    | cons => rfl
  by_cases h24 : 24 < s.size
  · have HN := Aside0.mk (show nameOk s = false by unfold nameOk; rw [decide_eq_false (show ¬ s.size ≤ 24 by omega)]; simp)
    go_enter Try.func75, Try.ntmps75
    go_wp2
    go_ret
    exact ⟨by rw [HN.out]; rfl, Below.refl _ _⟩
  · have hbw := bytesWorld_below w s
    have hcell := Lib.bytesWorld_cell w 5 s
    have hkc := kc w
    obtain ⟨W, hW⟩ : ∃ W, W = Lib.bytesWorld w 5 s := ⟨_, rfl⟩
    rw [← hW] at hbw hcell hkc
    have HB := Aside0.mk hbw
    have HC := Aside0.mk hcell
    clear hW hbw hcell kc
    go_enter Try.func75, Try.ntmps75
    go_wp2
    go_loopw [15] (fun i wr => ∃ k : Nat, k ≤ s.size ∧ i = .int .i64 k ∧ Aside0 (Lets s k) ∧ wr = W) (fun i _ => s.size - (intOf i).toNat)
    case atStart => exact ⟨0, by omega, rfl, ⟨fun j hj => by omega⟩, rfl⟩
    case round =>
      obtain ⟨k, hk, rfl, HL, rfl⟩ := hrel
      by_cases hlt : k < s.size
      · have hx : wr.cell? ⟨w.heap.size, k, none⟩ = some (.int .u8 (bt s k)) := by rw [HC.out k hlt, byte_bt s k hlt]
        by_cases h1 : bt s k < 33
        · have HN := Aside0.mk (nameOk_bad (s := s) hlt (by omega))
          go_wp2
          go_ret
          exact ⟨by rw [HN.out]; rfl, HB.out⟩
        · by_cases h2 : 126 < bt s k
          · have HN := Aside0.mk (nameOk_bad (s := s) hlt (by omega))
            go_wp2
            go_ret
            exact ⟨by rw [HN.out]; rfl, HB.out⟩
          · have HN := Aside0.mk (HL.out.succ ⟨by omega, by omega⟩)
            go_wp2
            go_roundw
            case rel => exact ⟨k + 1, by omega, by go_num, HN, trivial⟩
            case measure => simp [intOf]; omega
      · obtain rfl : k = s.size := by omega
        have HN := Aside0.mk (nameOk_lets HL.out)
        go_wp2
        go_ret
        exact ⟨by rw [HN.out]; simp; omega, HB.out⟩
/-- A log's struct. -/
abbrev logC (r b g : Nat) (nm : ByteArray) : Array Value := #[.int .i64 (r : Int), .int .i64 (b : Int), .pointer (some ⟨g, 0, none⟩), .string nm]
set_option maxHeartbeats 1000000 in
set_option maxRecDepth 100000 in
theorem count_calls (w : World) (lg r b g : Nat) (nm : ByteArray) (n : Nat) (hb : w.heap[lg]? = some (.cells (logC r b g nm) 105 (0, 0))) (hn : n ≤ 1048576) (hr : r ≤ 1099511627776) (hbb : b ≤ 1099511627776) :
    Calls Try.prog 77 #[.pointer (some ⟨lg, 0, none⟩), .int .i64 (n : Int)] w fun e w' => e = .returned (.tuple #[]) ∧ w'.heap[lg]? = some (.cells (logC (r + 1) (b + (n + 8)) g nm) 105 (0, 0)) ∧ Wr w w' (fun k => k = lg) := by
  have hz0 : w.cell? ⟨lg, 0, none⟩ = some (.int .i64 (r : Int)) := (blk_cell hb 0).trans rfl
  have hf0 := blk_frozen hb 0
  have HB := Aside0.mk hb
  have hu103 := Try.underlying103
  have hlen : lenL (n : Int) = (n : Int) + 8 := by unfold lenL; rw [if_neg (by omega)]
  have HLen := Aside0.mk hlen
  clear hb hlen
  go_enter Try.func77, Try.ntmps77
  go_wp2
  have HF1 := Aside0.mk (show (w.setCell ⟨lg, 0, none⟩ (.int .i64 ((r : Int) + 1))).heap[lg]? = some (.cells #[.int .i64 ((r : Int) + 1), .int .i64 (b : Int), .pointer (some ⟨g, 0, none⟩), .string nm] 105 (0, 0)) from blk_put (cs := logC r b g nm) HB.out 0 _ rfl)
  obtain ⟨w1, hw1⟩ : ∃ w1, w1 = w.setCell ⟨lg, 0, none⟩ (.int .i64 ((r : Int) + 1)) := ⟨_, rfl⟩
  rw [← hw1] at HF1
  have HW1 := Aside0.mk (show Wr w w1 (fun k => k = lg) by rw [hw1]; exact ⟨rfl, rfl, rfl, by simp [World.setCell], fun k hk hn => Below.heap_setCell _ ⟨lg, 0, none⟩ _ k hn⟩)
  have hw1' : wrap64 ((r : Int) + 1) = (r : Int) + 1 := by unfold wrap64; omega
  (try rw [hw1'])
  rw [← hw1]
  clear hw1 hw1' hz0 hf0
  refine start_ (n := 10) (S := fun W => W.heap[lg]? = some (.cells #[.int .i64 ((r : Int) + 1), .int .i64 (b : Int), .pointer (some ⟨g, 0, none⟩), .string nm] 105 (0, 0)) ∧ W.cell? ⟨lg, 1, none⟩ = some (.int .i64 (b : Int))) (ds := [9]) #[false, false, false, false, false, false, false, false, false, false] (by kernel_rfl) rfl rfl ?_ (fun hHeld => ?_)
  · exact ⟨HF1.out, (blk_cell HF1.out 1).trans rfl⟩
  refine pure_ (i := 0) (N := some 11) (v := ?_) (a' := ?_) #[true, false, false, false, false, false, false, false, false, false] rfl rfl (by kernel_rfl) (fun _ _ _ h => h) (Or.inl ⟨by rfl, ?_⟩) ?_ ?_
  rotate_left
  · intro w'
    go_simp
    with_reducible rfl
  rotate_left
  · simp only [Act.put, List.setIfInBounds_toArray, List.set_cons_zero, List.set_cons_succ, i64_w, i32_w]
    rfl
  refine pure_ (i := 1) (N := some 12) (v := ?_) (a' := ?_) #[true, true, false, false, false, false, false, false, false, false] rfl rfl (by kernel_rfl) (fun _ _ _ h => h) (Or.inl ⟨by rfl, ?_⟩) ?_ ?_
  rotate_left
  · intro w'
    go_simp
    with_reducible rfl
  rotate_left
  · simp only [Act.put, List.setIfInBounds_toArray, List.set_cons_zero, List.set_cons_succ, i64_w, i32_w]
    rfl
  refine pure_ (i := 2) (N := some 13) (v := ?_) (a' := ?_) #[true, true, true, false, false, false, false, false, false, false] rfl rfl (by kernel_rfl) (fun _ _ _ h => h) (Or.inl ⟨by rfl, ?_⟩) ?_ ?_
  rotate_left
  · intro w'
    go_simp
    with_reducible rfl
  rotate_left
  · simp only [Act.put, List.setIfInBounds_toArray, List.set_cons_zero, List.set_cons_succ, i64_w, i32_w]
    rfl
  refine take_ (i := 3) (N := some 14) (v := ?_) (a' := ?_) #[true, true, true, true, false, false, false, false, false, false] rfl rfl (by kernel_rfl) (fun _ _ _ h => h) (Or.inl ⟨by rfl, ?_⟩) hHeld ?_ ?_
  rotate_left
  · rintro w' ⟨_, s1⟩
    go_simp
    with_reducible rfl
  rotate_left
  · simp only [Act.put, List.setIfInBounds_toArray, List.set_cons_zero, List.set_cons_succ, i64_w, i32_w]
    rfl
  refine pure_ (i := 4) (N := some 15) (v := ?_) (a' := ?_) #[true, true, true, true, true, false, false, false, false, false] rfl rfl (by kernel_rfl) (fun _ _ _ h => h) (Or.inl ⟨by rfl, ?_⟩) ?_ ?_
  rotate_left
  · intro w'
    go_simp
    with_reducible rfl
  rotate_left
  · simp only [Act.put, List.setIfInBounds_toArray, List.set_cons_zero, List.set_cons_succ, i64_w, i32_w]
    rfl
  refine one_ (i := 5) (N := some 16) #[true, true, true, true, true, true, false, false, false, false] rfl rfl (by kernel_rfl) (by decide) (fun K hK => ?_)
  refine goes_ Try.func24 (by kernel_rfl) rfl #[.int .i64 (n : Int)] (by rfl) rfl rfl (by (try simp only [List.map_toArray, List.map_cons, List.map_nil]); first | done | rfl) ?_
  refine (len_calls (n : Int) _).mono ?_
  rw [HLen.out]
  rintro e w2 ⟨rfl, m, rfl⟩
  refine ⟨_, rfl, hK.out _ _ ⟨HF1.out, (blk_cell HF1.out 1).trans rfl⟩ (fun hHeld => ?_)⟩
  clear hK K
  refine norm_ (a' := ?_) ?_ ?_
  rotate_left
  · show Act.put _ (some 16) _ = _
    simp only [Act.put, List.setIfInBounds_toArray, List.set_cons_zero, List.set_cons_succ, i64_w, i32_w]
    rfl
  refine pure_ (i := 6) (N := some 17) (v := ?_) (a' := ?_) #[true, true, true, true, true, true, true, false, false, false] rfl rfl (by kernel_rfl) (fun _ _ _ h => h) (Or.inl ⟨by rfl, ?_⟩) ?_ ?_
  rotate_left
  · intro w'
    go_simp
    with_reducible rfl
  rotate_left
  · simp only [Act.put, List.setIfInBounds_toArray, List.set_cons_zero, List.set_cons_succ, i64_w, i32_w]
    rfl
  refine pure_ (i := 7) (N := some 18) (v := ?_) (a' := ?_) #[true, true, true, true, true, true, true, true, false, false] rfl rfl (by kernel_rfl) (fun _ _ _ h => h) (Or.inl ⟨by rfl, ?_⟩) ?_ ?_
  rotate_left
  · intro w'
    go_simp
    with_reducible rfl
  rotate_left
  · simp only [Act.put, List.setIfInBounds_toArray, List.set_cons_zero, List.set_cons_succ, i64_w, i32_w]
    rfl
  refine pure_ (i := 8) (N := some 19) (v := ?_) (a' := ?_) #[true, true, true, true, true, true, true, true, true, false] rfl rfl (by kernel_rfl) (fun _ _ _ h => h) (Or.inl ⟨by rfl, ?_⟩) ?_ ?_
  rotate_left
  · intro w'
    go_simp
    with_reducible rfl
  rotate_left
  · simp only [Act.put, List.setIfInBounds_toArray, List.set_cons_zero, List.set_cons_succ, i64_w, i32_w]
    rfl
  refine last_ (i := 9) (N := none) #[true, true, true, true, true, true, true, true, true, true] rfl rfl (by kernel_rfl) (by decide) (fun K hK => ?_)
  have hb2 : (w1.drew.drewN m).heap[lg]? = some (.cells #[.int .i64 ((r : Int) + 1), .int .i64 (b : Int), .pointer (some ⟨g, 0, none⟩), .string nm] 105 (0, 0)) := HF1.out
  have HB2 := Aside0.mk hb2
  have hz1 : (w1.drew.drewN m).cell? ⟨lg, 1, none⟩ = some (.int .i64 (b : Int)) := (blk_cell hb2 1).trans rfl
  have hf1 := blk_frozen hb2 1
  have HW2 := Aside0.mk (show Wr w (w1.drew.drewN m) (fun k => k = lg) from HW1.out.trans (Wr.of_below _ (pw_below_drewN (below_drew (Below.refl w1.heap.size w1)) m)) (fun k h => .inl h))
  obtain ⟨w2, hw2⟩ : ∃ w2, w2 = w1.drew.drewN m := ⟨_, rfl⟩
  rw [← hw2] at hz1 hf1 HB2 HW2 ⊢
  clear hw2 hb2 hHeld
  have hww : wrap64 ((b : Int) + ((n : Int) + 8)) = (b : Int) + ((n : Int) + 8) := by unfold wrap64; omega
  refine skip_ (w1 := ?_) (by rfl) rfl ?_ ?_
  rotate_left
  · go_simp
    rfl
  refine hK.out _ _ ?_
  clear hK K
  refine done_ (by kernel_rfl) ?_
  go_wp2
  go_end0
  refine ⟨rfl, ?_, HW2.out.trans ⟨rfl, rfl, rfl, by simp [World.setCell], fun k hk hn => Below.heap_setCell _ ⟨lg, 1, none⟩ _ k hn⟩ (fun k h => .inl h)⟩
  exact blk_put (cs := #[.int .i64 ((r : Int) + 1), .int .i64 (b : Int), .pointer (some ⟨g, 0, none⟩), .string nm]) HB2.out 1 _ (by simp [logC])
end Go.Proofs.Ytfaniohoplbdoaa.My
/- wal: the Log's small methods, repair. -/
namespace Go.Proofs.Ytfaniohoplbdoaa.My
open Go Go.RowKit Go.Proofs.YtfaniohoplbdoaaW.PrintWords Go.Proofs.YtfaniohoplbdoaaW.PrintLast Go.Proofs.YtfaniohoplbdoaaW.PrintMore Go.Proofs.Ytfaniohoplbdoaa.PDiskActs
set_option linter.unusedVariables false
set_option linter.unusedSimpArgs false
section
variable (w : World) (lg r b g : Nat) (nm : ByteArray) (hb : w.heap[lg]? = some (.cells (logC r b g nm) 105 (0, 0)))
include hb
set_option maxHeartbeats 1000000 in
set_option maxRecDepth 100000 in
theorem llen_calls : Calls Try.prog 34 #[.pointer (some ⟨lg, 0, none⟩)] w fun e w' => e = .returned (.int .i64 (r : Int)) ∧ w' = w := by
  have hz0 : w.cell? ⟨lg, 0, none⟩ = some (.int .i64 (r : Int)) := (blk_cell hb 0).trans rfl
  have hu105 := Try.underlying105
  have hu103 := Try.underlying103
  clear hb
  go_enter Try.func34, Try.ntmps34
  go_wp2
  go_ret
  exact ⟨rfl, rfl⟩
set_option maxHeartbeats 1000000 in
set_option maxRecDepth 100000 in
theorem lsize_calls : Calls Try.prog 35 #[.pointer (some ⟨lg, 0, none⟩)] w fun e w' => e = .returned (.int .i64 (b : Int)) ∧ w' = w := by
  have hz0 : w.cell? ⟨lg, 1, none⟩ = some (.int .i64 (b : Int)) := (blk_cell hb 1).trans rfl
  have hu105 := Try.underlying105
  have hu103 := Try.underlying103
  clear hb
  go_enter Try.func35, Try.ntmps35
  go_wp2
  go_ret
  exact ⟨rfl, rfl⟩
set_option maxHeartbeats 1000000 in
set_option maxRecDepth 100000 in
theorem lname_calls : Calls Try.prog 36 #[.pointer (some ⟨lg, 0, none⟩)] w fun e w' => e = .returned (.string nm) ∧ w' = w := by
  have hz0 : w.cell? ⟨lg, 3, none⟩ = some (.string nm) := (blk_cell hb 3).trans rfl
  have hu105 := Try.underlying105
  clear hb
  go_enter Try.func36, Try.ntmps36
  go_wp2
  go_ret
  exact ⟨rfl, rfl⟩
set_option maxHeartbeats 1000000 in
set_option maxRecDepth 100000 in
theorem lsync_calls (S : Nat → Prop) (n : Nat) (l : List S109) (ops : List S123) (h : DSt w S g l ops n) (hz : Sz l ops n) : Calls Try.prog 31 #[.pointer (some ⟨lg, 0, none⟩)] w (DPost w S g (viewL l ops) [] (n + ops.length) (.tuple #[])) := by
  have hz0 : w.cell? ⟨lg, 2, none⟩ = some (.pointer (some ⟨g, 0, none⟩)) := (blk_cell hb 2).trans rfl
  have hu105 := Try.underlying105
  have HSy := Aside0.mk (sSync w S g n l ops h hz)
  clear hb h
  go_enter Try.func31, Try.ntmps31
  go_wp2_with fail
  refine HSy.out.mono ?_
  rintro e w2 ⟨rfl, h2, h3⟩
  have H2 := Aside0.mk h2
  have H3 := Aside0.mk h3
  clear h2 h3
  go_wp2_with fail
  go_end0
  exact ⟨rfl, H2.out, H3.out⟩
end
set_option maxHeartbeats 1000000 in
set_option maxRecDepth 100000 in
theorem nil_lsync (w : World) : Calls Try.prog 31 #[.pointer none] w fun e w' => e = .returned (.tuple #[]) ∧ w' = w := by
  go_enter Try.func31, Try.ntmps31
  go_wp2
  (try simp only [Exit.inBlock, Exit.then])
  refine bodyPost_end (a := _) (w := w) (results_none (fn := Try.f31) rfl _ _ _) ?_ ?_
  · rfl
  exact ⟨rfl, rfl⟩
set_option maxHeartbeats 1000000 in
set_option maxRecDepth 100000 in
theorem nil_lappend (w : World) (v : Value) : Calls Try.prog 33 #[.pointer none, v] w fun e w' => e = .returned (.int .i64 0) ∧ w' = w := by
  go_enter Try.func33, Try.ntmps33
  go_wp2
  go_ret
  exact ⟨rfl, rfl⟩
set_option maxHeartbeats 1000000 in
set_option maxRecDepth 100000 in
theorem nil_llen (w : World) : Calls Try.prog 34 #[.pointer none] w fun e w' => e = .returned (.int .i64 0) ∧ w' = w := by
  go_enter Try.func34, Try.ntmps34
  go_wp2
  go_ret
  exact ⟨rfl, rfl⟩
set_option maxHeartbeats 1000000 in
set_option maxRecDepth 100000 in
theorem nil_lsize (w : World) : Calls Try.prog 35 #[.pointer none] w fun e w' => e = .returned (.int .i64 0) ∧ w' = w := by
  go_enter Try.func35, Try.ntmps35
  go_wp2
  go_ret
  exact ⟨rfl, rfl⟩
set_option maxHeartbeats 1000000 in
set_option maxRecDepth 100000 in
theorem nil_lname (w : World) : Calls Try.prog 36 #[.pointer none] w fun e w' => e = .returned (.string ⟨#[]⟩) ∧ w' = w := by
  go_enter Try.func36, Try.ntmps36
  go_wp2
  go_ret
  exact ⟨rfl, rfl⟩
/-! ### repair -/
abbrev nT : ByteArray := ⟨#[84, 79, 82, 78]⟩
def rep1 (l : List S109) (ops : List S123) : List S123 := if (findL (viewL l ops) nT).isSome then (removeL l ops nT).1 else ops
def repairL (l : List S109) (ops : List S123) (nm : ByteArray) (y : List Int) : List S123 := (renameL l (appendL (rep1 l ops) nT y).1 nT nm).1
theorem rep1_len (l : List S109) (ops : List S123) : (rep1 l ops).length ≤ ops.length + 1 ∧ byO (rep1 l ops) = byO ops := by
  unfold rep1 removeL
  split <;> simp [byO]
theorem app_len (ops : List S123) (nm : ByteArray) (y : List Int) : (appendL ops nm y).1.length ≤ ops.length + 1 ∧ byO (appendL ops nm y).1 ≤ byO ops + y.length := by
  unfold appendL
  split <;> simp [byO]
theorem ren_len (l : List S109) (ops : List S123) (nm tn : ByteArray) : (renameL l ops nm tn).1.length ≤ ops.length + 1 ∧ byO (renameL l ops nm tn).1 = byO ops := by
  unfold renameL
  split
  · split <;> simp [byO]
  · simp
theorem rem_len (l : List S109) (ops : List S123) (nm : ByteArray) : (removeL l ops nm).1.length ≤ ops.length + 1 ∧ byO (removeL l ops nm).1 = byO ops := by
  unfold removeL
  split <;> simp [byO]
/-- After steps from w, in S: where the disk lives, what was written. -/
structure Chn (w w' : World) (S S' : Nat → Prop) : Prop where
  wr : Wr w w' S
  ex : ∀ k, S' k → S k ∨ w.heap.size ≤ k
theorem Chn.refl (w : World) (S : Nat → Prop) : Chn w w S S := ⟨Wr.refl w S, fun k h => .inl h⟩
theorem Chn.below {w w1 w2 : World} {S S1 : Nat → Prop} (h : Chn w w1 S S1) (hB : Below w1.heap.size w1 w2) : Chn w w2 S S1 := ⟨h.wr.trans (Wr.of_below S hB) (fun k h => .inl h), h.ex⟩
theorem Chn.next {w w1 w2 : World} {S S1 : Nat → Prop} (h : Chn w w1 S S1) (hW : Wr w1 w2 S1) : Chn w w2 S (ext S1 w1 w2) := ⟨h.wr.trans hW h.ex, fun k hk => by
  rcases hk.1 with h' | h'
  · exact h.ex k h'
  · exact .inr (Nat.le_trans h.wr.size h')⟩
/-- What lies outside S stays. -/
theorem Chn.foot {w w' : World} {S S' : Nat → Prop} {ok : Nat → Prop} {A : Option Addr} {y : List Int} (h : Chn w w' S S') (hF : Kd.F (Kd.int .u8) w ok A y.length y) (hok : ∀ k, ok k → ¬ S k) : Kd.F (Kd.int .u8) w' ok A y.length y :=
  Kd.F_step hF (fun k hk hl => h.wr.2.2.2.2 k hl (hok k hk))
abbrev SPostD (w : World) (S : Nat → Prop) (g : Nat) (l : List S109) (ops : List S123) (n : Nat) (r : Value) : Ending → World → Prop := fun e w' => ∃ S', e = .returned r ∧ DSt w' S' g l ops n ∧ Chn w w' S S'
set_option maxHeartbeats 2000000 in
set_option maxRecDepth 100000 in
theorem repair_calls (w : World) (S : Nat → Prop) (g n : Nat) (l : List S109) (ops : List S123) (nm : ByteArray) (B : Option Addr) (d : Nat) (y : List Int) (okb : Nat → Prop) (h : DSt w S g l ops n) (hz : n + ops.length + 3 ≤ 1000000 ∧ l.length + ops.length + 3 ≤ 1000000 ∧ byF l + byO ops + y.length ≤ 1000000000)
    (hF : Kd.F (Kd.int .u8) w okb B y.length y) (hok : ∀ k, okb k → ¬ S k) (hm : nm.size ≤ maxLen) :
    Calls Try.prog 76 #[.pointer (some ⟨g, 0, none⟩), .string nm, .slice B y.length d] w (SPostD w S g (viewL l (repairL l ops nm y)) [] (n + (repairL l ops nm y).length) (.tuple #[])) := by
  have HF := Aside0.mk hF
  have HOK := Aside0.mk hok
  have HD := Aside0.mk h
  have hT : nT.size ≤ maxLen := by decide
  have HZ0 := Aside0.mk (show Sz l ops n from ⟨by omega, by omega, by omega⟩)
  have e1 := rep1_len l ops
  have e2 := app_len (rep1 l ops) nT y
  have e3 := ren_len l (appendL (rep1 l ops) nT y).1 nT nm
  have HZ1 := Aside0.mk (show Sz l (rep1 l ops) n from ⟨by omega, by omega, by omega⟩)
  have HZ2 := Aside0.mk (show Sz l (appendL (rep1 l ops) nT y).1 n from ⟨by omega, by omega, by omega⟩)
  have HZ3 := Aside0.mk (show Sz l (repairL l ops nm y) n by unfold repairL; exact ⟨by omega, by omega, by omega⟩)
  have HY := Aside0.mk (show y.length ≤ 140737488351232 by omega)
  clear e1 e2 e3 hF hok h hz
  have hR := sRead w S g n l ops nT HD.out HZ0.out hT
  obtain ⟨q, hq⟩ : ∃ q, q = findL (viewL l ops) nT := ⟨_, rfl⟩
  rw [← hq] at hR
  have HR := Aside0.mk hR
  have HRe := Aside0.mk (show repairL l ops nm y = (renameL l (appendL (rep1 l ops) nT y).1 nT nm).1 from rfl)
  have HR1 := Aside0.mk (show rep1 l ops = if q.isSome then (removeL l ops nT).1 else ops by rw [hq]; rfl)
  clear hR hq
  go_enter Try.func76, Try.ntmps76
  go_wp2_with fail
  refine HR.out.mono ?_
  rintro e w1 ⟨⟨v1, rfl, _⟩, hB1⟩
  have HC1 := Aside0.mk ((Chn.refl w S).below hB1)
  have HD1 := Aside0.mk (HD.out.move hB1)
  clear hB1 HR
  cases hqs : q.isSome with
  | true =>
    rw [hqs] at HR1
    clear hqs
    go_wp2_with fail
    refine (sRemove w1 S g n l ops nT HD1.out HZ0.out hT).mono ?_
    rintro e w2 ⟨rfl, hD2, hW2⟩
    have hC2 := HC1.out.next hW2
    have e1 : (removeL l ops nT).1 = rep1 l ops := by rw [HR1.out]; rfl
    rw [e1] at hD2
    have HD2 := Aside0.mk hD2
    have HC2 := Aside0.mk hC2
    clear hD2 hC2 hW2 e1
    go_wp2_with fail
    refine (sAppend w2 _ g n l (rep1 l ops) nT B d y HD2.out HZ1.out (Kd.F_now (HC2.out.foot HF.out HOK.out)) HY.out hT).mono ?_
    rintro e w3 ⟨rfl, hD3, hW3⟩
    have HC3 := Aside0.mk (HC2.out.next hW3)
    have HD3 := Aside0.mk hD3
    clear hD3 hW3
    go_wp2_with fail
    refine (sRename w3 _ g n l (appendL (rep1 l ops) nT y).1 nT nm HD3.out HZ2.out hT hm).mono ?_
    rintro e w4 ⟨rfl, hD4, hW4⟩
    have HC4 := Aside0.mk (HC3.out.next hW4)
    rw [← HRe.out] at hD4
    have HD4 := Aside0.mk hD4
    clear hD4 hW4
    go_wp2_with fail
    refine (sSync w4 _ g n l (repairL l ops nm y) HD4.out HZ3.out).mono ?_
    rintro e w5 ⟨rfl, hD5, hW5⟩
    have HC5 := Aside0.mk (HC4.out.next hW5)
    have HD5 := Aside0.mk hD5
    clear hD5 hW5
    go_wp2_with fail
    go_end0
    exact ⟨_, rfl, HD5.out, HC5.out⟩
  | false =>
    rw [hqs] at HR1
    clear hqs
    have e1 : ops = rep1 l ops := by rw [HR1.out]; rfl
    have hD2 := HD1.out
    rw [e1] at hD2
    rw [← e1] at HRe HZ1 HZ2 hD2
    have HD2 := Aside0.mk hD2
    clear hD2 e1
    go_wp2_with fail
    refine (sAppend w1 _ g n l ops nT B d y HD2.out HZ1.out (Kd.F_now (HC1.out.foot HF.out HOK.out)) HY.out hT).mono ?_
    rintro e w3 ⟨rfl, hD3, hW3⟩
    have HC3 := Aside0.mk (HC1.out.next hW3)
    have HD3 := Aside0.mk hD3
    clear hD3 hW3
    go_wp2_with fail
    refine (sRename w3 _ g n l (appendL ops nT y).1 nT nm HD3.out HZ2.out hT hm).mono ?_
    rintro e w4 ⟨rfl, hD4, hW4⟩
    have HC4 := Aside0.mk (HC3.out.next hW4)
    rw [← HRe.out] at hD4
    have HD4 := Aside0.mk hD4
    clear hD4 hW4
    go_wp2_with fail
    refine (sSync w4 _ g n l (repairL l ops nm y) HD4.out HZ3.out).mono ?_
    rintro e w5 ⟨rfl, hD5, hW5⟩
    have HC5 := Aside0.mk (HC4.out.next hW5)
    have HD5 := Aside0.mk hD5
    clear hD5 hW5
    go_wp2_with fail
    go_end0
    exact ⟨_, rfl, HD5.out, HC5.out⟩
end Go.Proofs.Ytfaniohoplbdoaa.My
/- wal.Open. -/
namespace Go.Proofs.Ytfaniohoplbdoaa.My
open Go Go.RowKit Go.Proofs.YtfaniohoplbdoaaW.PrintWords Go.Proofs.YtfaniohoplbdoaaW.PrintLast Go.Proofs.YtfaniohoplbdoaaW.PrintMore Go.Proofs.Ytfaniohoplbdoaa.PDiskActs
set_option linter.unusedVariables false
set_option linter.unusedSimpArgs false
/-- A file's bytes, none if it is not there. -/
def contL (l : List S109) (ops : List S123) (nm : ByteArray) : List Int := (findL (viewL l ops) nm).getD []
/-- What opening makes of the files. -/
def openL (l : List S109) (ops : List S123) (n : Nat) (nm : ByteArray) : List S109 × List S123 × Nat :=
  if (scanL (contL l ops nm)).2 < (contL l ops nm).length then (viewL l (repairL l ops nm ((contL l ops nm).take (scanL (contL l ops nm)).2)), [], n + (repairL l ops nm ((contL l ops nm).take (scanL (contL l ops nm)).2)).length)
  else (l, ops, n)
def recsL (l : List S109) (ops : List S123) (nm : ByteArray) : List (List Int) := (scanL (contL l ops nm)).1
theorem cont_le (l : List S109) (ops : List S123) (nm : ByteArray) : (contL l ops nm).length ≤ byF l + byO ops := Nat.le_trans findL_le (byF_viewL ops l)
/-- A log is open: its struct lies at lg, in none of the disk's blocks. -/
abbrev OpenPost (w : World) (S : Nat → Prop) (g : Nat) (r : List S109 × List S123 × Nat) (R : List (List Int)) (nm : ByteArray) : Ending → World → Prop := fun e w' => ∃ (S' : Nat → Prop) (lg : Nat) (A : Option Addr) (c : Nat), e = .returned (.tuple #[.pointer (some ⟨lg, 0, none⟩), .slice A R.length c, .int .i64 0]) ∧ DSt w' S' g r.1 r.2.1 r.2.2 ∧ Chn w w' S S' ∧
  (w'.heap[lg]? = some (.cells (logC R.length (framesL R).length g nm) 105 (0, 0)) ∧ w.heap.size ≤ lg ∧ ¬ S' lg) ∧ R.length ≤ c ∧ Kd.F kB w' (fun k => w.heap.size ≤ k ∧ ¬ S' k ∧ k ≠ lg) A R.length R
theorem FR_of {w : World} {base : Nat} {v : Value} {l : List (List Int)} (h : RL w base v l) : ∃ A c, v = .slice A l.length c ∧ l.length ≤ c ∧ Kd.F kB w (fun k => base ≤ k ∧ k < w.heap.size) A l.length l := by
  obtain ⟨A, c, rfl⟩ := Kd.R_slice h
  obtain ⟨h1, h2, h3⟩ := Kd.R_reads' h
  exact ⟨A, c, rfl, h2, Kd.F_mono (Kd.F_bound (Kd.R_F (Kd.R_bound h))) (fun k hk => ⟨hk.1.2.1, hk.2⟩)⟩
set_option maxHeartbeats 2000000 in
set_option maxRecDepth 100000 in
theorem wopen_bad (w : World) (g : Nat) (nm : ByteArray) (hm : nm.size ≤ maxLen) (h : nameOk nm = false) :
    Calls Try.prog 32 #[.pointer (some ⟨g, 0, none⟩), .string nm] w fun e w' => e = .returned (.tuple #[.pointer none, .slice none 0 0, .int .i64 8]) ∧ Below w.heap.size w w' := by
  have HWo := Aside0.mk (wword_calls nm w (by unfold maxLen at hm; omega))
  rw [h] at HWo
  clear h
  go_enter Try.func32, Try.ntmps32
  go_wp2_with fail
  refine HWo.out.mono ?_
  rintro e w1 ⟨rfl, hB1⟩
  have HB1 := Aside0.mk hB1
  clear hB1
  go_wp2_with fail
  go_ret3
  exact ⟨rfl, HB1.out⟩
set_option maxHeartbeats 2000000 in
set_option maxRecDepth 100000 in
theorem wopen_nil (w : World) (nm : ByteArray) : Calls Try.prog 32 #[.pointer none, .string nm] w fun e w' => e = .returned (.tuple #[.pointer none, .slice none 0 0, .int .i64 8]) ∧ w' = w := by
  go_enter Try.func32, Try.ntmps32
  go_wp2_with fail
  go_ret3
  exact ⟨rfl, rfl⟩
set_option maxHeartbeats 4000000 in
set_option maxRecDepth 100000 in
theorem wopen_calls (w : World) (S : Nat → Prop) (g n : Nat) (l : List S109) (ops : List S123) (nm : ByteArray) (h : DSt w S g l ops n) (hz : n + ops.length + 3 ≤ 1000000 ∧ l.length + ops.length + 3 ≤ 1000000 ∧ 2 * (byF l + byO ops) ≤ 1000000000) (hm : nm.size ≤ maxLen) (hno : nameOk nm = true) (hby : Byt (contL l ops nm)) :
    Calls Try.prog 32 #[.pointer (some ⟨g, 0, none⟩), .string nm] w (OpenPost w S g (openL l ops n nm) (recsL l ops nm) nm) := by
  have HWo := Aside0.mk (wword_calls nm w (by unfold maxLen at hm; omega))
  rw [hno] at HWo
  clear hno
  have hlt := h.lt
  have HD := Aside0.mk h
  have hz0 : Sz l ops n := ⟨by omega, by omega, by omega⟩
  have HRd := Aside0.mk (fun (W : World) (hB : Below w.heap.size w W) => sRead W S g n l ops nm (h.move hB) hz0 hm)
  have hcl := cont_le l ops nm
  have hsl := (scanL_le _ (contL l ops nm) (Nat.le_refl _)).1
  have hsi := scanL_is _ (contL l ops nm) (Nat.le_refl _) hby
  obtain ⟨b, hb⟩ : ∃ b, b = contL l ops nm := ⟨_, rfl⟩
  have HRq : Aside0 (recsL l ops nm = (scanL b).1) := ⟨by rw [hb]; rfl⟩
  have HOp : Aside0 (openL l ops n nm = if (scanL b).2 < b.length then (viewL l (repairL l ops nm (b.take (scanL b).2)), [], n + (repairL l ops nm (b.take (scanL b).2)).length) else (l, ops, n)) := ⟨by rw [hb]; rfl⟩
  have HB : Aside0 (b = (findL (viewL l ops) nm).getD []) := ⟨hb⟩
  rw [← hb] at hcl hsl hsi hby
  rw [HRq.out, HOp.out]
  clear hb HRq HOp
  obtain ⟨R, hR⟩ : ∃ R, R = (scanL b).1 := ⟨_, rfl⟩
  obtain ⟨en, hen⟩ : ∃ en, en = (scanL b).2 := ⟨_, rfl⟩
  have HSc := Aside0.mk (show scanL b = (R, en) by rw [hR, hen])
  rw [← hR] at hsi ⊢
  rw [← hen] at hsi hsl ⊢
  have HBy := Aside0.mk hby
  have HR1 := Aside0.mk hsi.1
  have HRT := Aside0.mk (show (framesL R).length ≤ byF l + byO ops by rw [← hsi.1, List.length_take]; omega)
  have HR2 := Aside0.mk hsi.2
  have HRn := Aside0.mk (show R.length ≤ byF l + byO ops by have h1 := (scanL_le _ b (Nat.le_refl _)).2; rw [HSc.out] at h1; have h2 : R.length * 8 ≤ b.length := h1; omega)
  have HZ := Aside0.mk hz
  have HLt := Aside0.mk hlt
  have hu105 := Try.underlying105
  have hu103 := Try.underlying103
  obtain ⟨r, hr⟩ : ∃ r, r = if en < b.length then (viewL l (repairL l ops nm (b.take en)), ([] : List S123), n + (repairL l ops nm (b.take en)).length) else (l, ops, n) := ⟨_, rfl⟩
  rw [← hr]
  have HRR := Aside0.mk hr
  clear hR hen hsi hby hz hz0 hlt h hr
  go_enter Try.func32, Try.ntmps32
  go_wp2_with fail
  refine HWo.out.mono ?_
  rintro e w1 ⟨rfl, hB1⟩
  have HB1 := Aside0.mk hB1
  clear hB1 HWo
  go_wp2_with fail
  refine (HRd.out w1 HB1.out).mono ?_
  rintro e w2 ⟨⟨v2, rfl, hr2⟩, hB2⟩
  rw [← HB.out] at hr2
  obtain ⟨B2, d2, rfl⟩ := Kd.R_slice hr2
  have hC2 := (Kd.R_reads' hr2).2.2
  have hd2 := (Kd.R_reads' hr2).2.1
  have hF2 := (RB.foot (ok := fun k => w1.heap.size ≤ k) hr2 (fun k hk => hk)).2.2
  have HF2 := Aside0.mk (Kd.F_bound hF2)
  have HC2 := Aside0.mk hC2
  have HB2 := Aside0.mk (below_then HB1.out HB1.out.size hB2)
  have HS12 := Aside0.mk (show w.heap.size ≤ w1.heap.size ∧ w1.heap.size ≤ w2.heap.size from ⟨HB1.out.size, hB2.size⟩)
  clear hr2 hB2 hF2 hC2 HB1 HRd
  go_wp2_with fail
  refine (calls_scan (fScan_calls B2 d2 b w2 HC2.out hd2 HBy.out (by have := HZ.out; omega)) HSc.out).mono ?_
  rintro e w3 ⟨v3, rfl, hr3, hB3⟩
  obtain ⟨A, c, rfl, hc, hF3⟩ := FR_of hr3
  have HF3 := Aside0.mk hF3
  have HFb := Aside0.mk (Kd.F_below HF2.out hB3)
  have HS23 := Aside0.mk hB3.size
  have HC3 := Aside0.mk ((Chn.refl w S).below (below_then HB2.out HB2.out.size hB3))
  have HD3 := Aside0.mk (HD.out.move (below_then HB2.out HB2.out.size hB3))
  have hRm := Kd.C_max (Kd.F_now HF3.out)
  clear hr3 hB3 hF3 HF2 HC2 HB2 HD HSc
  by_cases hlen : en < b.length
  · obtain ⟨hcut, _⟩ := cutB_to B2 d2 b en (en : Int) rfl hd2 hsl
    have hre := HRR.out
    rw [if_pos hlen] at hre
    have hcl2 : (b.take en).length = en := by rw [List.length_take]; omega
    obtain ⟨y, hy⟩ : ∃ y, y = b.take en := ⟨_, rfl⟩
    have hFy := Kd.F_take HFb.out hsl
    rw [← hy] at hcut hre hcl2 hFy
    have HRe := Aside0.mk hre
    have HFy := Aside0.mk hFy
    have hyl : y.length ≤ b.length := by omega
    have HZr := Aside0.mk (show n + ops.length + 3 ≤ 1000000 ∧ l.length + ops.length + 3 ≤ 1000000 ∧ byF l + byO ops + y.length ≤ 1000000000 by have := HZ.out; omega)
    clear hre hcl2 hy hFy HRR HFb HR1
    go_wp2_with fail
    refine (repair_calls w3 S g n l ops nm B2 d2 y _ HD3.out HZr.out HFy.out (fun k hk hs => by have h1 : w1.heap.size ≤ k := hk.1; have h2 := HLt.out k hs; have h3 := HS12.out; omega) hm).mono ?_
    rintro e w5 ⟨S5, rfl, hD5, hC5⟩
    have hD5' : DSt w5 S5 g r.1 r.2.1 r.2.2 := by rw [HRe.out]; exact hD5
    have HD5 := Aside0.mk hD5'
    have HEx := Aside0.mk hC5.ex
    have HC5 := Aside0.mk (show Chn w w5 S S5 from ⟨HC3.out.wr.trans hC5.wr (fun k h => .inl h), fun k hk => (hC5.ex k hk).elim .inl (fun h => .inr (Nat.le_trans HC3.out.wr.size h))⟩)
    have HF5 := Aside0.mk (Kd.F_step HF3.out (fun k hk hl => hC5.wr.2.2.2.2 k hl (fun h => by have h1 : w2.heap.size ≤ k := hk.1; have := HLt.out k h; have := HS12.out; omega)))
    have HS35 := Aside0.mk hC5.wr.size
    clear hD5 hD5' hC5 HD3 HC3 HF3 hcut
    have hrs : ∀ k, k < R.length → R[k]?.isSome := fun k hk => by simp [hk]
    obtain ⟨lg, hlg⟩ : ∃ lg, lg = w5.heap.size := ⟨_, rfl⟩
    go_wp2_with fail
    rw [← hlg]
    go_loopw [48] (fun i wr => ∃ k : Nat, k ≤ R.length ∧ i = .int .i64 k ∧ Aside0 (wr.heap[lg]? = some (.cells (logC k (framesL (R.take k)).length g nm) 105 (0, 0))) ∧ Aside0 (DSt wr S5 g r.1 r.2.1 r.2.2) ∧ Aside0 (Chn w wr S S5) ∧ Aside0 (Kd.F kB wr (fun k => w2.heap.size ≤ k ∧ k < w3.heap.size) A R.length R)) (fun i _ => R.length - (intOf i).toNat)
    case atStart =>
      refine ⟨0, by omega, rfl, ⟨?_⟩, ⟨HD5.out.move (below_alloc (Below.refl _ _) _)⟩, ⟨HC5.out.below (below_alloc (Below.refl _ _) _)⟩, ⟨Kd.F_alloc HF5.out _⟩⟩
      rw [hlg]
      exact blk_new w5 (.cells (logC 0 0 g nm) 105)
    case round =>
      obtain ⟨k, hk, rfl, HLg, HDr, HCr, HFr⟩ := hrel
      have HNL := Aside0.mk (show ¬ S5 lg ∧ w3.heap.size ≤ lg by rw [hlg]; exact ⟨fun h => by have := HD5.out.lt _ h; omega, HS35.out⟩)
      by_cases hlt : k < R.length
      · obtain ⟨ad, B6, d6, rfl, hc0, hd6, hC6⟩ := CL.at_ (Kd.F_now HFr.out) k hlt
        have hln := HR2.out R[k] (List.getElem_mem hlt)
        have HFs := Aside0.mk (framesL_take_succ hlt)
        have HTt := Aside0.mk (show (framesL (R.take k)).length ≤ (framesL R).length from by
          conv => rhs; rw [← List.take_append_drop k R, framesL_append, List.length_append]
          omega)
        have HRl := Aside0.mk (show (framesL R).length ≤ 1000000000 by have := HRT.out; have := HZ.out; omega)
        obtain ⟨x, hx⟩ : ∃ x, x = R[k] := ⟨_, rfl⟩
        rw [← hx] at hc0 hd6 hln HFs
        clear hx hC6 hlg
        have hk40 : R.length ≤ 1000000000 := by have := HRn.out; have := HZ.out; omega
        have HCt := Aside0.mk (count_calls wr lg k (framesL (R.take k)).length g nm x.length HLg.out hln (by omega) (by have := HTt.out; have := HRl.out; omega))
        go_wp2_with fail
        refine HCt.out.mono ?_
        rintro e w7 ⟨rfl, hb7, hW7⟩
        have HB7 := Aside0.mk hb7
        have HD7 := Aside0.mk (HDr.out.off hW7 (fun k hk e => HNL.out.1 (e ▸ hk)))
        have HC7 := Aside0.mk (⟨HCr.out.wr.trans hW7 (fun k hk => .inr (by have h1 : k = lg := hk; have := HNL.out.2; have := HS12.out; have := HS23.out; omega)), HCr.out.ex⟩ : Chn w w7 S S5)
        have HF7 := Aside0.mk (Kd.F_step HFr.out (fun k hk hl => hW7.2.2.2.2 k hl (fun h => by have h1 : k = lg := h; have h2 : k < w3.heap.size := hk.2; have := HNL.out.2; omega)))
        clear hb7 hW7 HCt
        go_wp2_with fail
        go_roundw
        case rel =>
          refine ⟨k + 1, by omega, by go_num, ⟨?_⟩, HD7, HC7, HF7⟩
          have := HB7.out
          rw [HFs.out, List.length_append, frameL_length]
          exact this
        case measure => simp [intOf]; omega
      · obtain rfl : k = R.length := by omega
        clear hlg hrs
        rw [List.take_length] at HLg
        go_wp2_with fail
        go_ret3
        refine ⟨S5, lg, A, c, rfl, HDr.out, HCr.out, ⟨HLg.out, by have := HNL.out.2; have := HS12.out; have := HS23.out; omega, HNL.out.1⟩, hc, Kd.F_mono HFr.out (fun k hk => ?_)⟩
        have h1 : w2.heap.size ≤ k := hk.1
        have h2 : k < w3.heap.size := hk.2
        exact ⟨by have := HS12.out; omega, fun h => by have := HEx.out k h; rcases this with h | h; have := HLt.out k h; have := HS12.out; omega; omega, by have := HNL.out.2; omega⟩
  · have hre := HRR.out
    rw [if_neg hlen] at hre
    obtain ⟨w5, hw5⟩ : ∃ w5, w5 = w3 := ⟨_, rfl⟩
    obtain ⟨S5, hS5⟩ : ∃ S5, S5 = S := ⟨_, rfl⟩
    have HD5 := Aside0.mk (show DSt w5 S5 g r.1 r.2.1 r.2.2 by rw [hre, hw5, hS5]; exact HD3.out)
    have HC5 := Aside0.mk (show Chn w w5 S S5 by rw [hw5, hS5]; exact HC3.out)
    have HF5 := Aside0.mk (show Kd.F kB w5 (fun k => w2.heap.size ≤ k ∧ k < w3.heap.size) A R.length R by rw [hw5]; exact HF3.out)
    have HS35 := Aside0.mk (show w3.heap.size ≤ w5.heap.size by rw [hw5]; exact Nat.le_refl _)
    have HEx := Aside0.mk (show ∀ k, S5 k → S k ∨ w3.heap.size ≤ k by rw [hS5]; exact fun k h => .inl h)
    rw [← hw5]
    clear hre HRR HD3 HC3 HF3 hw5 hS5
    have hrs : ∀ k, k < R.length → R[k]?.isSome := fun k hk => by simp [hk]
    obtain ⟨lg, hlg⟩ : ∃ lg, lg = w5.heap.size := ⟨_, rfl⟩
    go_wp2_with fail
    rw [← hlg]
    go_loopw [48] (fun i wr => ∃ k : Nat, k ≤ R.length ∧ i = .int .i64 k ∧ Aside0 (wr.heap[lg]? = some (.cells (logC k (framesL (R.take k)).length g nm) 105 (0, 0))) ∧ Aside0 (DSt wr S5 g r.1 r.2.1 r.2.2) ∧ Aside0 (Chn w wr S S5) ∧ Aside0 (Kd.F kB wr (fun k => w2.heap.size ≤ k ∧ k < w3.heap.size) A R.length R)) (fun i _ => R.length - (intOf i).toNat)
    case atStart =>
      refine ⟨0, by omega, rfl, ⟨?_⟩, ⟨HD5.out.move (below_alloc (Below.refl _ _) _)⟩, ⟨HC5.out.below (below_alloc (Below.refl _ _) _)⟩, ⟨Kd.F_alloc HF5.out _⟩⟩
      rw [hlg]
      exact blk_new w5 (.cells (logC 0 0 g nm) 105)
    case round =>
      obtain ⟨k, hk, rfl, HLg, HDr, HCr, HFr⟩ := hrel
      have HNL := Aside0.mk (show ¬ S5 lg ∧ w3.heap.size ≤ lg by rw [hlg]; exact ⟨fun h => by have := HD5.out.lt _ h; omega, HS35.out⟩)
      by_cases hlt : k < R.length
      · obtain ⟨ad, B6, d6, rfl, hc0, hd6, hC6⟩ := CL.at_ (Kd.F_now HFr.out) k hlt
        have hln := HR2.out R[k] (List.getElem_mem hlt)
        have HFs := Aside0.mk (framesL_take_succ hlt)
        have HTt := Aside0.mk (show (framesL (R.take k)).length ≤ (framesL R).length from by
          conv => rhs; rw [← List.take_append_drop k R, framesL_append, List.length_append]
          omega)
        have HRl := Aside0.mk (show (framesL R).length ≤ 1000000000 by have := HRT.out; have := HZ.out; omega)
        obtain ⟨x, hx⟩ : ∃ x, x = R[k] := ⟨_, rfl⟩
        rw [← hx] at hc0 hd6 hln HFs
        clear hx hC6 hlg
        have hk40 : R.length ≤ 1000000000 := by have := HRn.out; have := HZ.out; omega
        have HCt := Aside0.mk (count_calls wr lg k (framesL (R.take k)).length g nm x.length HLg.out hln (by omega) (by have := HTt.out; have := HRl.out; omega))
        go_wp2_with fail
        refine HCt.out.mono ?_
        rintro e w7 ⟨rfl, hb7, hW7⟩
        have HB7 := Aside0.mk hb7
        have HD7 := Aside0.mk (HDr.out.off hW7 (fun k hk e => HNL.out.1 (e ▸ hk)))
        have HC7 := Aside0.mk (⟨HCr.out.wr.trans hW7 (fun k hk => .inr (by have h1 : k = lg := hk; have := HNL.out.2; have := HS12.out; have := HS23.out; omega)), HCr.out.ex⟩ : Chn w w7 S S5)
        have HF7 := Aside0.mk (Kd.F_step HFr.out (fun k hk hl => hW7.2.2.2.2 k hl (fun h => by have h1 : k = lg := h; have h2 : k < w3.heap.size := hk.2; have := HNL.out.2; omega)))
        clear hb7 hW7 HCt
        go_wp2_with fail
        go_roundw
        case rel =>
          refine ⟨k + 1, by omega, by go_num, ⟨?_⟩, HD7, HC7, HF7⟩
          have := HB7.out
          rw [HFs.out, List.length_append, frameL_length]
          exact this
        case measure => simp [intOf]; omega
      · obtain rfl : k = R.length := by omega
        clear hlg hrs
        rw [List.take_length] at HLg
        go_wp2_with fail
        go_ret3
        refine ⟨S5, lg, A, c, rfl, HDr.out, HCr.out, ⟨HLg.out, by have := HNL.out.2; have := HS12.out; have := HS23.out; omega, HNL.out.1⟩, hc, Kd.F_mono HFr.out (fun k hk => ?_)⟩
        have h1 : w2.heap.size ≤ k := hk.1
        have h2 : k < w3.heap.size := hk.2
        exact ⟨by have := HS12.out; omega, fun h => by have := HEx.out k h; rcases this with h | h; have := HLt.out k h; have := HS12.out; omega; omega, by have := HNL.out.2; omega⟩
end Go.Proofs.Ytfaniohoplbdoaa.My
/- wal: a Log's Append. -/
namespace Go.Proofs.Ytfaniohoplbdoaa.My
open Go Go.RowKit Go.Proofs.YtfaniohoplbdoaaW.PrintWords Go.Proofs.YtfaniohoplbdoaaW.PrintLast Go.Proofs.YtfaniohoplbdoaaW.PrintMore Go.Proofs.Ytfaniohoplbdoaa.PDiskActs
set_option linter.unusedVariables false
set_option linter.unusedSimpArgs false
/-- A log's state behind an operation. -/
abbrev LogPost (w : World) (S : Nat → Prop) (lg g : Nat) (l : List S109) (ops : List S123) (n r b : Nat) (nm : ByteArray) : Ending → World → Prop := fun e w' => ∃ S', e = .returned (.int .i64 0) ∧ DSt w' S' g l ops n ∧ w'.heap[lg]? = some (.cells (logC r b g nm) 105 (0, 0)) ∧ (∀ k, S' k → S k ∨ w.heap.size ≤ k) ∧ Wr w w' (fun k => S k ∨ k = lg) ∧ ¬ S' lg
set_option maxHeartbeats 4000000 in
set_option maxRecDepth 100000 in
theorem wappend_calls (w : World) (S : Nat → Prop) (lg r b g n : Nat) (nm : ByteArray) (l : List S109) (ops : List S123) (B : Option Addr) (d : Nat) (y : List Int) (h : DSt w S g l ops n) (hz : Sz l ops n) (hb : w.heap[lg]? = some (.cells (logC r b g nm) 105 (0, 0))) (hlS : ¬ S lg)
    (hC : CB w B y) (hd : y.length ≤ d) (hy : Byt y) (hyl : y.length ≤ 1048576) (hm : nm.size ≤ maxLen) (hr : r ≤ 1099511627776) (hbb : b ≤ 1099511627776) :
    Calls Try.prog 33 #[.pointer (some ⟨lg, 0, none⟩), .slice B y.length d] w (LogPost w S lg g l (appendL ops nm (frameL y)).1 n (r + 1) (b + (y.length + 8)) nm) := by
  have HA := Aside0.mk (fAppend_ok none 0 [] B d y w (Kd.C_nil _ _) (by simp) hC hd hy hyl (by simp))
  have HD := Aside0.mk h
  have HB := Aside0.mk hb
  have HZ := Aside0.mk hz
  have hlt := blk_lt hb
  have HSlt := Aside0.mk h.lt
  have hu105 := Try.underlying105
  clear h hb hz hC hy
  go_enter Try.func33, Try.ntmps33
  go_wp2_with fail
  refine HA.out.mono ?_
  rintro e w1 ⟨v1, rfl, hr1, hB1⟩
  rw [List.nil_append] at hr1
  obtain ⟨A1, c1, rfl⟩ := Kd.R_slice hr1
  have HC1 := Aside0.mk (Kd.R_reads' hr1).2.2
  have HD1 := Aside0.mk (HD.out.move hB1)
  have hbk := (hB1.block _ hlt).trans HB.out
  have HBK := Aside0.mk hbk
  have HB1 := Aside0.mk hB1
  have hfl := frameL_length y
  have HFL := Aside0.mk hfl
  have hlt1 := blk_lt hbk
  clear hr1 hB1 HA HD hbk hfl
  go_wp2_with fail
  refine start_ (n := 10) (S := fun W => W.cell? ⟨lg, 2, none⟩ = some (.pointer (some ⟨g, 0, none⟩)) ∧ W.cell? ⟨lg, 3, none⟩ = some (.string nm)) (ds := []) #[false, false, false, false, false, false, false, false, false, false] (by kernel_rfl) rfl rfl ?_ (fun hHeld => ?_)
  · exact ⟨(blk_cell HBK.out 2).trans rfl, (blk_cell HBK.out 3).trans rfl⟩
  refine pure_ (i := 0) (N := some 17) (v := ?_) (a' := ?_) #[true, false, false, false, false, false, false, false, false, false] rfl rfl (by kernel_rfl) (fun _ _ _ h => h) (Or.inl ⟨by rfl, ?_⟩) ?_ ?_
  rotate_left
  · intro w'
    go_simp
    with_reducible rfl
  rotate_left
  · simp only [Act.put, List.setIfInBounds_toArray, List.set_cons_zero, List.set_cons_succ, i64_w, i32_w]
    rfl
  refine pure_ (i := 1) (N := some 18) (v := ?_) (a' := ?_) #[true, true, false, false, false, false, false, false, false, false] rfl rfl (by kernel_rfl) (fun _ _ _ h => h) (Or.inl ⟨by rfl, ?_⟩) ?_ ?_
  rotate_left
  · intro w'
    go_simp
    with_reducible rfl
  rotate_left
  · simp only [Act.put, List.setIfInBounds_toArray, List.set_cons_zero, List.set_cons_succ, i64_w, i32_w]
    rfl
  refine pure_ (i := 2) (N := some 19) (v := ?_) (a' := ?_) #[true, true, true, false, false, false, false, false, false, false] rfl rfl (by kernel_rfl) (fun _ _ _ h => h) (Or.inl ⟨by rfl, ?_⟩) ?_ ?_
  rotate_left
  · intro w'
    go_simp
    with_reducible rfl
  rotate_left
  · simp only [Act.put, List.setIfInBounds_toArray, List.set_cons_zero, List.set_cons_succ, i64_w, i32_w]
    rfl
  refine take_ (i := 3) (N := some 20) (v := ?_) (a' := ?_) #[true, true, true, true, false, false, false, false, false, false] rfl rfl (by kernel_rfl) (fun _ _ _ h => h) (Or.inl ⟨by rfl, ?_⟩) hHeld ?_ ?_
  rotate_left
  · rintro w' ⟨s0, s1⟩
    go_simp
    with_reducible rfl
  rotate_left
  · simp only [Act.put, List.setIfInBounds_toArray, List.set_cons_zero, List.set_cons_succ, i64_w, i32_w]
    rfl
  refine pure_ (i := 4) (N := some 21) (v := ?_) (a' := ?_) #[true, true, true, true, true, false, false, false, false, false] rfl rfl (by kernel_rfl) (fun _ _ _ h => h) (Or.inl ⟨by rfl, ?_⟩) ?_ ?_
  rotate_left
  · intro w'
    go_simp
    with_reducible rfl
  rotate_left
  · simp only [Act.put, List.setIfInBounds_toArray, List.set_cons_zero, List.set_cons_succ, i64_w, i32_w]
    rfl
  refine pure_ (i := 5) (N := some 22) (v := ?_) (a' := ?_) #[true, true, true, true, true, true, false, false, false, false] rfl rfl (by kernel_rfl) (fun _ _ _ h => h) (Or.inl ⟨by rfl, ?_⟩) ?_ ?_
  rotate_left
  · intro w'
    go_simp
    with_reducible rfl
  rotate_left
  · simp only [Act.put, List.setIfInBounds_toArray, List.set_cons_zero, List.set_cons_succ, i64_w, i32_w]
    rfl
  refine pure_ (i := 6) (N := some 23) (v := ?_) (a' := ?_) #[true, true, true, true, true, true, true, false, false, false] rfl rfl (by kernel_rfl) (fun _ _ _ h => h) (Or.inl ⟨by rfl, ?_⟩) ?_ ?_
  rotate_left
  · intro w'
    go_simp
    with_reducible rfl
  rotate_left
  · simp only [Act.put, List.setIfInBounds_toArray, List.set_cons_zero, List.set_cons_succ, i64_w, i32_w]
    rfl
  refine take_ (i := 7) (N := some 24) (v := ?_) (a' := ?_) #[true, true, true, true, true, true, true, true, false, false] rfl rfl (by kernel_rfl) (fun _ _ _ h => h) (Or.inl ⟨by rfl, ?_⟩) hHeld ?_ ?_
  rotate_left
  · rintro w' ⟨s0, s1⟩
    go_simp
    with_reducible rfl
  rotate_left
  · simp only [Act.put, List.setIfInBounds_toArray, List.set_cons_zero, List.set_cons_succ, i64_w, i32_w]
    rfl
  refine pure_ (i := 8) (N := some 25) (v := ?_) (a' := ?_) #[true, true, true, true, true, true, true, true, true, false] rfl rfl (by kernel_rfl) (fun _ _ _ h => h) (Or.inl ⟨by rfl, ?_⟩) ?_ ?_
  rotate_left
  · intro w'
    go_simp
    with_reducible rfl
  rotate_left
  · simp only [Act.put, List.setIfInBounds_toArray, List.set_cons_zero, List.set_cons_succ, i64_w, i32_w]
    rfl
  refine one_ (i := 9) (N := some 26) #[true, true, true, true, true, true, true, true, true, true] rfl rfl (by kernel_rfl) (by decide) (fun K hK => ?_)
  refine goes_ Try.func57 (by kernel_rfl) rfl #[.pointer (some ⟨g, 0, none⟩), .string nm, .slice A1 (frameL y).length c1] (by rfl) rfl rfl (by (try simp only [List.map_toArray, List.map_cons, List.map_nil]); first | done | rfl) ?_
  refine (sAppend w1.drew S g n l ops nm A1 c1 (frameL y) (HD1.out.move (below_drew (Below.refl _ _))) HZ.out (Kd.C_drew HC1.out) (by have := HFL.out; omega) hm).mono ?_
  rintro e w2 ⟨rfl, hD2, hW2⟩
  have HW2 := Aside0.mk ((Wr.of_below S (below_drew (Below.refl w1.heap.size w1))).trans hW2 (fun k h => .inl h))
  have hb2 := (HW2.out.2.2.2.2 _ hlt1 hlS).trans HBK.out
  have HB2 := Aside0.mk hb2
  have HD2 := Aside0.mk hD2
  refine ⟨_, rfl, hK.out _ _ ⟨(blk_cell hb2 2).trans rfl, (blk_cell hb2 3).trans rfl⟩ (fun hHeld => ?_)⟩
  clear hK K hD2 hW2 hb2
  refine norm_ (a' := ?_) ?_ ?_
  rotate_left
  · show Act.put _ (some 26) _ = _
    simp only [Act.put, List.setIfInBounds_toArray, List.set_cons_zero, List.set_cons_succ, i64_w, i32_w]
    rfl
  refine done_ (by kernel_rfl) ?_
  have HCt := Aside0.mk (count_calls w2 lg r b g nm y.length HB2.out hyl hr hbb)
  go_wp2_with fail
  refine HCt.out.mono ?_
  rintro e w3 ⟨rfl, hb3, hW3⟩
  have HB3 := Aside0.mk hb3
  have HNl := Aside0.mk (show ¬ ext S w1.drew w2 lg from fun hk => hk.1.elim hlS (fun h => by have h2 : w1.heap.size ≤ lg := h; omega))
  have HD3 := Aside0.mk (HD2.out.off hW3 (fun k hk e => HNl.out (e ▸ hk)))
  have HW3 := Aside0.mk hW3
  clear hb3 hW3 HCt
  go_wp2_with fail
  go_ret
  refine ⟨_, rfl, HD3.out, HB3.out, fun k hk => hk.1.elim .inl (fun h => .inr (Nat.le_trans HB1.out.size h)), ?_, HNl.out⟩
  have h1 : Wr w w2 S := (Wr.of_below S HB1.out).trans HW2.out (fun k h => .inl h)
  exact Wr.trans ⟨h1.1, h1.2.1, h1.2.2.1, h1.2.2.2.1, fun k hk hn => h1.2.2.2.2 k hk (fun h => hn (.inl h))⟩ HW3.out (fun k hk => .inl (.inr hk))
end Go.Proofs.Ytfaniohoplbdoaa.My
/- The reference's log: Open. -/
namespace Go.Proofs.Ytfaniohoplbdoaa.My
open Go Go.RowKit Go.Proofs.YtfaniohoplbdoaaW.PrintWords Go.Proofs.YtfaniohoplbdoaaW.PrintLast Go.Proofs.YtfaniohoplbdoaaW.PrintMore Go.Proofs.Ytfaniohoplbdoaa.PDiskActs
set_option linter.unusedVariables false
set_option linter.unusedSimpArgs false
theorem results_cctt {P : Program} {fn : Func} {p p' x y : Tmp} {ty ty' : TypeId} (h : fn.results = #[.cell p ty, .cell p' ty', .tmp x, .tmp y]) (tmps : Array Value) (w : World) (g g' : Nat) (t t' : TypeId) (cs cs' : Array Value) (fr fr' : Nat × Nat) (d d' : TypeDesc)
    (hp : tmps.getD p undef = .pointer (some ⟨g, 0, none⟩)) (hg : w.heap[g]? = some (.cells cs t fr)) (hu : P.underlying ty = some d) (hd : (match d with | .struct _ | .array _ _ => true | _ => false) = true) (hi : (P.info? ty).map (·.size) = some cs.size)
    (hp' : tmps.getD p' undef = .pointer (some ⟨g', 0, none⟩)) (hg' : w.heap[g']? = some (.cells cs' t' fr')) (hu' : P.underlying ty' = some d') (hd' : (match d' with | .struct _ | .array _ _ => true | _ => false) = true) (hi' : (P.info? ty').map (·.size) = some cs'.size) :
    (results fn tmps).run P w = .ok (.tuple #[.agg cs, .agg cs', tmps.getD x undef, tmps.getD y undef]) w := by
  have e1 : tmps[p]?.getD undef = .pointer (some ⟨g, 0, none⟩) := by simpa using hp
  have e2 : tmps[p']?.getD undef = .pointer (some ⟨g', 0, none⟩) := by simpa using hp'
  simp [results, h, e1, e2, asAddr, run_loadVar_row w g t ty cs fr d hg hu hd hi, run_loadVar_row w g' t' ty' cs' fr' d' hg' hu' hd' hi']
abbrev lg58 : Obj := .cells #[.string ⟨#[]⟩] 58
/-- The reference's disk lies in the box bx; beside it the results' variables. -/
structure XB (w wb W : World) (bx : Nat) (T0 T : Nat → Prop) (u v : Value) (l : List S109) (ops : List S123) : Prop where
  xst : XSt W T u v l ops
  sub : ∀ k, T k → T0 k ∨ wb.heap.size ≤ k
  box : W.heap[bx]? = some (.cells #[u, v] 53 (0, 0))
  r1 : W.heap[bx + 1]? = some dk2
  r2 : W.heap[bx + 1 + 1]? = some lg58
  bel : Below w.heap.size w W
  sz : wb.heap.size ≤ W.heap.size
theorem XB.move {w wb W W' : World} {bx : Nat} {T0 T : Nat → Prop} {u v : Value} {l : List S109} {ops : List S123} (h : XB w wb W bx T0 T u v l ops) (hB : Below W.heap.size W W') : XB w wb W' bx T0 T u v l ops :=
  ⟨h.xst.move hB, h.sub, (hB.block _ (blk_lt h.box)).trans h.box, (hB.block _ (blk_lt h.r1)).trans h.r1, (hB.block _ (blk_lt h.r2)).trans h.r2, below_then h.bel h.bel.size hB, Nat.le_trans h.sz hB.size⟩
theorem XB.store {w wb W W' : World} {bx : Nat} {T0 T : Nat → Prop} {u v u' v' : Value} {l l' : List S109} {ops ops' : List S123} (h : XB w wb W bx T0 T u v l ops) (hX : XSt W' (ext T W W') u' v' l' ops') (hB : Below W.heap.size W W') (hw : bx = w.heap.size) (hwb : bx < wb.heap.size) (hT : ∀ k, T0 k → k < bx) :
    XB w wb ((W'.setCell ⟨bx, 0, none⟩ u').setCell ⟨bx, 1, none⟩ v') bx T0 (ext T W W') u' v' l' ops' := by
  have hm := h.move hB
  have hs := wr_set2 W' bx u' v'
  refine ⟨hX.off hs (fun k hk e => ?_), fun k hk => ?_, blk_put2 hm.box _ _, ?_, ?_, below_set (below_set hm.bel (by omega)) (by omega), by have := hm.sz; simpa [World.setCell] using this⟩
  · have e' : k = bx := e
    rcases hk.1 with h1 | h1
    · rcases h.sub k h1 with h2 | h2
      · have := hT k h2; omega
      · omega
    · have := h.sz; omega
  · rcases hk.1 with h1 | h1
    · exact h.sub k h1
    · exact .inr (Nat.le_trans h.sz h1)
  · exact blk_far (blk_far hm.r1 (p := ⟨bx, 0, none⟩) (by show ¬ bx + 1 = bx; omega) _) (p := ⟨bx, 1, none⟩) (by show ¬ bx + 1 = bx; omega) _
  · exact blk_far (blk_far hm.r2 (p := ⟨bx, 0, none⟩) (by show ¬ bx + 1 + 1 = bx; omega) _) (p := ⟨bx, 1, none⟩) (by show ¬ bx + 1 + 1 = bx; omega) _
abbrev XOpenPost (w : World) (T : Nat → Prop) (r : List S109 × List S123 × Nat) (R : List (List Int)) (nm : ByteArray) : Ending → World → Prop := fun e w' => ∃ (T' : Nat → Prop) (u v : Value) (A : Option Addr) (c : Nat), e = .returned (.tuple #[.agg #[u, v], .agg #[.string nm], .slice A R.length c, .int .i64 0]) ∧ XSt w' T' u v r.1 r.2.1 ∧ (∀ k, T' k → T k ∨ w.heap.size ≤ k) ∧ Below w.heap.size w w' ∧ R.length ≤ c ∧ CL w' A R
abbrev XOpenPostF (w : World) (T : Nat → Prop) (r : List S109 × List S123 × Nat) (R : List (List Int)) (nm : ByteArray) : Ending → World → Prop := fun e w' => ∃ (T' : Nat → Prop) (u v : Value) (A : Option Addr) (c : Nat), e = .returned (.tuple #[.agg #[u, v], .agg #[.string nm], .slice A R.length c, .int .i64 0]) ∧ XSt w' T' u v r.1 r.2.1 ∧ (∀ k, T' k → T k ∨ w.heap.size ≤ k) ∧ Below w.heap.size w w' ∧ R.length ≤ c ∧ Kd.F kB w' (fun k => w.heap.size ≤ k) A R.length R
theorem XB.done {w wb W : World} {bx : Nat} {T0 T : Nat → Prop} {u v : Value} {l : List S109} {ops : List S123} (nm : ByteArray) (h : XB w wb W bx T0 T u v l ops) (hw : bx = w.heap.size) (hwb : bx + 1 + 1 < wb.heap.size) (hT : ∀ k, T0 k → k < bx) :
    (((W.setCell ⟨bx + 1, 0, none⟩ u).setCell ⟨bx + 1, 1, none⟩ v).setCell ⟨bx + 1 + 1, 0, none⟩ (.string nm)).heap[bx + 1]? = some (.cells #[u, v] 53 (0, 0)) ∧ (((W.setCell ⟨bx + 1, 0, none⟩ u).setCell ⟨bx + 1, 1, none⟩ v).setCell ⟨bx + 1 + 1, 0, none⟩ (.string nm)).heap[bx + 1 + 1]? = some (.cells #[.string nm] 58 (0, 0)) ∧
    XSt (((W.setCell ⟨bx + 1, 0, none⟩ u).setCell ⟨bx + 1, 1, none⟩ v).setCell ⟨bx + 1 + 1, 0, none⟩ (.string nm)) T u v l ops ∧ Below w.heap.size w (((W.setCell ⟨bx + 1, 0, none⟩ u).setCell ⟨bx + 1, 1, none⟩ v).setCell ⟨bx + 1 + 1, 0, none⟩ (.string nm)) ∧ Wr W (((W.setCell ⟨bx + 1, 0, none⟩ u).setCell ⟨bx + 1, 1, none⟩ v).setCell ⟨bx + 1 + 1, 0, none⟩ (.string nm)) (fun k => k = bx + 1 ∨ k = bx + 1 + 1) := by
  have h1 := wr_set2 W (bx + 1) u v
  have h2 : Wr ((W.setCell ⟨bx + 1, 0, none⟩ u).setCell ⟨bx + 1, 1, none⟩ v) (((W.setCell ⟨bx + 1, 0, none⟩ u).setCell ⟨bx + 1, 1, none⟩ v).setCell ⟨bx + 1 + 1, 0, none⟩ (.string nm)) (fun k => k = bx + 1 + 1) := ⟨rfl, rfl, rfl, by simp [World.setCell], fun k hk hn => Below.heap_setCell _ ⟨bx + 1 + 1, 0, none⟩ _ k hn⟩
  have hW : Wr W (((W.setCell ⟨bx + 1, 0, none⟩ u).setCell ⟨bx + 1, 1, none⟩ v).setCell ⟨bx + 1 + 1, 0, none⟩ (.string nm)) (fun k => k = bx + 1 ∨ k = bx + 1 + 1) := Wr.trans ⟨h1.1, h1.2.1, h1.2.2.1, h1.2.2.2.1, fun k hk hn => h1.2.2.2.2 k hk (fun e => hn (.inl e))⟩ h2 (fun k e => .inl (.inr e))
  have hlt := h.xst.lt
  refine ⟨?_, ?_, h.xst.off hW (fun k hk e => ?_), below_set (below_set (below_set h.bel (by omega)) (by omega)) (by omega), hW⟩
  · exact blk_far (blk_put2 h.r1 _ _) (p := ⟨bx + 1 + 1, 0, none⟩) (by show ¬ bx + 1 = bx + 1 + 1; omega) _
  · exact blk_put (cs := #[.string ⟨#[]⟩]) (blk_far (blk_far h.r2 (p := ⟨bx + 1, 0, none⟩) (by show ¬ bx + 1 + 1 = bx + 1; omega) _) (p := ⟨bx + 1, 1, none⟩) (by show ¬ bx + 1 + 1 = bx + 1; omega) _) 0 _ rfl
  · rcases h.sub k hk with h1 | h1
    · have := hT k h1
      rcases e with e | e <;> omega
    · rcases e with e | e <;> omega
set_option maxHeartbeats 4000000 in
set_option maxRecDepth 100000 in
theorem xopen_bad (w : World) (T : Nat → Prop) (A : Option Addr) (c : Nat) (A' : Option Addr) (c' n : Nat) (l : List S109) (ops : List S123) (nm : ByteArray) (h : XSt w T (.slice A l.length c) (.slice A' ops.length c') l ops) (hm : nm.size ≤ maxLen) (hno : nameOk nm = false) :
    Calls Try.prog 41 #[dkV A l.length c A' ops.length c', .string nm] w (fun e w' => e = .returned (.tuple #[.agg #[.slice A l.length c, .slice A' ops.length c'], .agg #[.string ⟨#[]⟩], .slice none 0 0, .int .i64 8]) ∧ Below w.heap.size w w') := by
  obtain ⟨wb, hwb⟩ : ∃ wb, wb = ((w.alloc (.cells #[.slice A l.length c, .slice A' ops.length c'] 53)).alloc dk2).alloc lg58 := ⟨_, rfl⟩
  have hW : Below w.heap.size w wb := by rw [hwb]; exact below_alloc (below_alloc (below_alloc (Below.refl _ _) _) _) _
  have hsz : wb.heap.size = w.heap.size + 1 + 1 + 1 := by rw [hwb, alloc_size, alloc_size, alloc_size]
  obtain ⟨bx, hbx⟩ : ∃ bx, bx = w.heap.size := ⟨_, rfl⟩
  have hb2 : wb.heap[w.heap.size + 1 + 1]? = some lg58 := by
    have := blk_new ((w.alloc (.cells #[.slice A l.length c, .slice A' ops.length c'] 53)).alloc dk2) lg58
    rw [alloc_size, alloc_size] at this
    rw [hwb]; exact this
  have hb1 : wb.heap[w.heap.size + 1]? = some dk2 := by
    have := blk_new (w.alloc (.cells #[.slice A l.length c, .slice A' ops.length c'] 53)) dk2
    rw [alloc_size] at this
    rw [hwb]
    exact (Below.heap_alloc _ _ _ (by rw [alloc_size, alloc_size]; omega)).trans this
  have hb0 : wb.heap[w.heap.size]? = some (.cells #[.slice A l.length c, .slice A' ops.length c'] 53 (0, 0)) := by
    have := blk_new w (.cells #[.slice A l.length c, .slice A' ops.length c'] 53)
    rw [hwb]
    exact (Below.heap_alloc _ _ _ (by rw [alloc_size, alloc_size]; omega)).trans ((Below.heap_alloc _ _ _ (by rw [alloc_size]; omega)).trans this)
  have hT := h.lt
  have HX := Aside0.mk (show XB w wb wb w.heap.size T T (.slice A l.length c) (.slice A' ops.length c') l ops from ⟨h.move hW, fun k hk => .inl hk, hb0, hb1, hb2, hW, Nat.le_refl _⟩)
  have HT := Aside0.mk hT
  have HWB := Aside0.mk hwb
  have HSZ := Aside0.mk hsz
  have hlt0 := blk_lt hb0
  have hlt1 := blk_lt hb1
  have hlt2 := blk_lt hb2
  have hu53 := Try.underlying53
  have hu58 := Try.underlying58
  clear hbx bx hwb hW hsz hb0 hb1 hb2 h hT
  have HNa := Aside0.mk (fun W => name_calls nm W (by unfold maxLen at hm; omega))
  rw [hno] at HNa
  clear hno
  go_enter Try.func41, Try.ntmps41
  go_wp2_with fail
  rw [← HWB.out]
  refine (HNa.out wb).mono ?_
  rintro e w1 ⟨rfl, hd1⟩
  have HX1 := Aside0.mk (HX.out.move (Drawn0.to_below hd1))
  have hz0 : w1.cell? ⟨w.heap.size, 0, none⟩ = some (.slice A l.length c) := (blk_cell HX1.out.box 0).trans rfl
  have hz1 : w1.cell? ⟨w.heap.size, 1, none⟩ = some (.slice A' ops.length c') := (blk_cell HX1.out.box 1).trans rfl
  have hzf0 := blk_frozen HX1.out.box 0
  have hzf1 := blk_frozen HX1.out.box 1
  have hy0 : w1.cell? ⟨w.heap.size + 1, 0, none⟩ = some (.slice none 0 0) := (blk_cell HX1.out.r1 0).trans rfl
  have hy1 : w1.cell? ⟨w.heap.size + 1, 1, none⟩ = some (.slice none 0 0) := (blk_cell HX1.out.r1 1).trans rfl
  have hyf0 := blk_frozen HX1.out.r1 0
  have hyf1 := blk_frozen HX1.out.r1 1
  have hx0 : w1.cell? ⟨w.heap.size + 1 + 1, 0, none⟩ = some (.string ⟨#[]⟩) := (blk_cell HX1.out.r2 0).trans rfl
  have hxf0 := blk_frozen HX1.out.r2 0
  have hn1 : ¬ (w.heap.size + 1 = w.heap.size) := by omega
  have hn2 : ¬ (w.heap.size = w.heap.size + 1) := by omega
  have hn3 : ¬ (w.heap.size + 1 + 1 = w.heap.size + 1) := by omega
  have hn4 : ¬ (w.heap.size + 1 = w.heap.size + 1 + 1) := by omega
  have hn5 : ¬ (w.heap.size + 1 + 1 = w.heap.size) := by omega
  have hn6 : ¬ (w.heap.size = w.heap.size + 1 + 1) := by omega
  clear hd1 HNa
  go_wp2_with fail
  have hdn := HX1.out.done ⟨#[]⟩ rfl (by have := HSZ.out; omega) HT.out
  refine bodyPost_ret (results_cctt rfl _ _ (w.heap.size + 1) (w.heap.size + 1 + 1) 53 58 #[.slice A l.length c, .slice A' ops.length c'] #[.string ⟨#[]⟩] (0, 0) (0, 0) _ _ rfl hdn.1 Try.underlying53 rfl (by kernel_rfl) rfl hdn.2.1 Try.underlying58 rfl (by kernel_rfl)) rfl ?_
  exact ⟨rfl, hdn.2.2.2.1⟩
set_option maxHeartbeats 4000000 in
set_option maxRecDepth 100000 in
theorem xopen_callsF (w : World) (T : Nat → Prop) (A : Option Addr) (c : Nat) (A' : Option Addr) (c' n : Nat) (l : List S109) (ops : List S123) (nm : ByteArray) (h : XSt w T (.slice A l.length c) (.slice A' ops.length c') l ops) (hm : nm.size ≤ maxLen) (hz : n + ops.length + 3 ≤ 1000000 ∧ l.length + ops.length + 3 ≤ 1000000 ∧ 2 * (byF l + byO ops) ≤ 1000000000) (hno : nameOk nm = true) (hby : Byt (contL l ops nm)) :
    Calls Try.prog 41 #[dkV A l.length c A' ops.length c', .string nm] w (XOpenPostF w T (openL l ops n nm) (recsL l ops nm) nm) := by
  obtain ⟨wb, hwb⟩ : ∃ wb, wb = ((w.alloc (.cells #[.slice A l.length c, .slice A' ops.length c'] 53)).alloc dk2).alloc lg58 := ⟨_, rfl⟩
  have hW : Below w.heap.size w wb := by rw [hwb]; exact below_alloc (below_alloc (below_alloc (Below.refl _ _) _) _) _
  have hsz : wb.heap.size = w.heap.size + 1 + 1 + 1 := by rw [hwb, alloc_size, alloc_size, alloc_size]
  obtain ⟨bx, hbx⟩ : ∃ bx, bx = w.heap.size := ⟨_, rfl⟩
  have hb2 : wb.heap[w.heap.size + 1 + 1]? = some lg58 := by
    have := blk_new ((w.alloc (.cells #[.slice A l.length c, .slice A' ops.length c'] 53)).alloc dk2) lg58
    rw [alloc_size, alloc_size] at this
    rw [hwb]; exact this
  have hb1 : wb.heap[w.heap.size + 1]? = some dk2 := by
    have := blk_new (w.alloc (.cells #[.slice A l.length c, .slice A' ops.length c'] 53)) dk2
    rw [alloc_size] at this
    rw [hwb]
    exact (Below.heap_alloc _ _ _ (by rw [alloc_size, alloc_size]; omega)).trans this
  have hb0 : wb.heap[w.heap.size]? = some (.cells #[.slice A l.length c, .slice A' ops.length c'] 53 (0, 0)) := by
    have := blk_new w (.cells #[.slice A l.length c, .slice A' ops.length c'] 53)
    rw [hwb]
    exact (Below.heap_alloc _ _ _ (by rw [alloc_size, alloc_size]; omega)).trans ((Below.heap_alloc _ _ _ (by rw [alloc_size]; omega)).trans this)
  have hT := h.lt
  have HX := Aside0.mk (show XB w wb wb w.heap.size T T (.slice A l.length c) (.slice A' ops.length c') l ops from ⟨h.move hW, fun k hk => .inl hk, hb0, hb1, hb2, hW, Nat.le_refl _⟩)
  have HT := Aside0.mk hT
  have HWB := Aside0.mk hwb
  have HSZ := Aside0.mk hsz
  have hlt0 := blk_lt hb0
  have hlt1 := blk_lt hb1
  have hlt2 := blk_lt hb2
  have hu53 := Try.underlying53
  have hu58 := Try.underlying58
  clear hbx bx hwb hW hsz hb0 hb1 hb2 h hT
  have HNa := Aside0.mk (fun W => name_calls nm W (by unfold maxLen at hm; omega))
  rw [hno] at HNa
  have hcl := cont_le l ops nm
  have hsl := (scanL_le _ (contL l ops nm) (Nat.le_refl _)).1
  obtain ⟨b, hb⟩ : ∃ b, b = contL l ops nm := ⟨_, rfl⟩
  have HRq : Aside0 (recsL l ops nm = (scanL b).1) := ⟨by rw [hb]; rfl⟩
  have HOp : Aside0 (openL l ops n nm = if (scanL b).2 < b.length then (viewL l (repairL l ops nm (b.take (scanL b).2)), [], n + (repairL l ops nm (b.take (scanL b).2)).length) else (l, ops, n)) := ⟨by rw [hb]; rfl⟩
  have HB : Aside0 (b = (findL (viewL l ops) nm).getD []) := ⟨hb⟩
  rw [← hb] at hcl hsl hby
  rw [HRq.out, HOp.out]
  clear hb HRq HOp
  obtain ⟨R, hR⟩ : ∃ R, R = (scanL b).1 := ⟨_, rfl⟩
  obtain ⟨en, hen⟩ : ∃ en, en = (scanL b).2 := ⟨_, rfl⟩
  have HSc := Aside0.mk (show scanL b = (R, en) by rw [hR, hen])
  rw [← hR]
  rw [← hen] at hsl ⊢
  have HBy := Aside0.mk hby
  obtain ⟨r, hr⟩ : ∃ r, r = if en < b.length then (viewL l (repairL l ops nm (b.take en)), ([] : List S123), n + (repairL l ops nm (b.take en)).length) else (l, ops, n) := ⟨_, rfl⟩
  rw [← hr]
  have HRR := Aside0.mk hr
  have HZ := Aside0.mk hz
  have hZ0 : Sz l ops 0 := ⟨by omega, by omega, by omega⟩
  have HZ0 := Aside0.mk hZ0
  clear hR hen hby hr hno hZ0
  go_enter Try.func41, Try.ntmps41
  go_wp2_with fail
  rw [← HWB.out]
  refine (HNa.out wb).mono ?_
  rintro e w1 ⟨rfl, hd1⟩
  have HX1 := Aside0.mk (HX.out.move (Drawn0.to_below hd1))
  have hz0 : w1.cell? ⟨w.heap.size, 0, none⟩ = some (.slice A l.length c) := (blk_cell HX1.out.box 0).trans rfl
  have hz1 : w1.cell? ⟨w.heap.size, 1, none⟩ = some (.slice A' ops.length c') := (blk_cell HX1.out.box 1).trans rfl
  have hzf0 := blk_frozen HX1.out.box 0
  have hzf1 := blk_frozen HX1.out.box 1
  clear hd1 HNa HX
  go_wp2_with fail
  refine (xRead w1 T A c A' c' 0 l ops HX1.out.xst HZ0.out nm).mono ?_
  rintro e w2 ⟨⟨v2, rfl, hr2⟩, hB2⟩
  rw [← HB.out] at hr2
  obtain ⟨B2, d2, rfl⟩ := Kd.R_slice hr2
  have HC2 := Aside0.mk (Kd.R_reads' hr2).2.2
  have HFb := Aside0.mk (show Kd.F (Kd.int .u8) w2 (fun k => wb.heap.size ≤ k) B2 b.length b from Kd.F_mono (RB.foot (ok := fun k => w1.heap.size ≤ k) hr2 (fun k hk => hk)).2.2 (fun k hk => Nat.le_trans HX1.out.sz hk))
  have hd2 := (Kd.R_reads' hr2).2.1
  have HX2 := Aside0.mk (HX1.out.move hB2)
  clear hr2 hB2 HX1 hz0 hz1 hzf0 hzf1
  go_wp2_with fail
  refine (calls_scan (rScan_calls B2 d2 b w2 HC2.out hd2 HBy.out (by have := HZ.out; omega)) HSc.out).mono ?_
  rintro e w3 ⟨v3, rfl, hr3, hB3⟩
  obtain ⟨A3, c3, rfl⟩ := Kd.R_slice hr3
  have HC3 := Aside0.mk (show CL w3 A3 R from (Kd.R_reads' hr3).2.2)
  have HF3 := Aside0.mk (show Kd.F kB w3 (fun k => w2.heap.size ≤ k ∧ k < w3.heap.size) A3 R.length R from by
    obtain ⟨A9, c9, he, _, hF⟩ := FR_of hr3
    injection he with he _ _
    subst he
    exact hF)
  have hc3 := (Kd.R_reads' hr3).2.1
  have HX3 := Aside0.mk (HX2.out.move hB3)
  have HFb3 := Aside0.mk (Kd.F_below HFb.out hB3)
  have HS2 := Aside0.mk HX2.out.sz
  have hz0 : w3.cell? ⟨w.heap.size, 0, none⟩ = some (.slice A l.length c) := (blk_cell HX3.out.box 0).trans rfl
  have hz1 : w3.cell? ⟨w.heap.size, 1, none⟩ = some (.slice A' ops.length c') := (blk_cell HX3.out.box 1).trans rfl
  have hzf0 := blk_frozen HX3.out.box 0
  have hzf1 := blk_frozen HX3.out.box 1
  clear hr3 hB3 HX2 HC2 HSc HFb
  by_cases hlen : en < b.length
  · obtain ⟨hcut, hcutC⟩ := cutB_to B2 d2 b en (en : Int) rfl hd2 hsl
    have hre := HRR.out
    rw [if_pos hlen] at hre
    have hcl2 : (b.take en).length = en := by rw [List.length_take]; omega
    obtain ⟨y, hy⟩ : ∃ y, y = b.take en := ⟨_, rfl⟩
    have hCy := Kd.F_take HFb3.out hsl
    rw [← hy] at hcut hre hcl2 hCy
    have HRe := Aside0.mk hre
    have HCy := Aside0.mk hCy
    have hyl : y.length ≤ b.length := by omega
    have hyd : y.length ≤ d2 := by omega
    have hy47 : y.length ≤ 140737488351232 := by have := HZ.out; omega
    have e1 := rep1_len l ops
    have e2 := app_len (rep1 l ops) nT y
    have e3 := ren_len l (appendL (rep1 l ops) nT y).1 nT nm
    have HZ1 := Aside0.mk (show Sz l (rep1 l ops) 0 from by have := HZ.out; exact ⟨by omega, by omega, by omega⟩)
    have HZ2 := Aside0.mk (show Sz l (appendL (rep1 l ops) nT y).1 0 from by have := HZ.out; exact ⟨by omega, by omega, by omega⟩)
    have HZ3 := Aside0.mk (show Sz l (repairL l ops nm y) 0 by have := HZ.out; unfold repairL; exact ⟨by omega, by omega, by omega⟩)
    have HRp := Aside0.mk (show repairL l ops nm y = (renameL l (appendL (rep1 l ops) nT y).1 nT nm).1 from rfl)
    have hT : nT.size ≤ maxLen := by decide
    clear hre hcl2 hy hCy HRR e1 e2 e3
    obtain ⟨q, hq⟩ : ∃ q, q = findL (viewL l ops) nT := ⟨_, rfl⟩
    have HR1 := Aside0.mk (show rep1 l ops = if q.isSome then (removeL l ops nT).1 else ops by rw [hq]; rfl)
    have HQ := Aside0.mk hq
    clear hq
    go_wp2_with fail
    refine (xRead w3 T A c A' c' 0 l ops HX3.out.xst HZ0.out nT).mono ?_
    rw [← HQ.out]
    rintro e w4 ⟨⟨v4, rfl, _⟩, hB4⟩
    have HX4 := Aside0.mk (HX3.out.move hB4)
    have HB4 := Aside0.mk hB4
    have HCy4 := Aside0.mk (Kd.F_below HCy.out hB4)
    have HF4 := Aside0.mk (Kd.F_below HF3.out hB4)
    have HS4 := Aside0.mk hB4.size
    clear hB4 HX3 hz0 hz1 hzf0 hzf1 HC3 HFb3 HCy HF3
    cases hqs : q.isSome with
    | true =>
      rw [hqs] at HR1
      clear hqs
      have hz0 : w4.cell? ⟨w.heap.size, 0, none⟩ = some (.slice A l.length c) := (blk_cell HX4.out.box 0).trans rfl
      have hz1 : w4.cell? ⟨w.heap.size, 1, none⟩ = some (.slice A' ops.length c') := (blk_cell HX4.out.box 1).trans rfl
      have hzf0 := blk_frozen HX4.out.box 0
      have hzf1 := blk_frozen HX4.out.box 1
      go_wp2_with fail
      refine (xRemove w4 T A c A' c' 0 l ops HX4.out.xst HZ0.out nT).mono ?_
      rintro e w5 ⟨u5, v5, rfl, hx5, hB5⟩
      rw [show (removeL l ops nT).1 = rep1 l ops by rw [HR1.out]; rfl] at hx5
      obtain ⟨A5, c5, A6, c6, rfl, rfl⟩ := hx5.slices
      have HX5 := Aside0.mk (HX4.out.store hx5 hB5 rfl (by have := HSZ.out; omega) HT.out)
      have hbx5 := (hB5.block _ (blk_lt HX4.out.box)).trans HX4.out.box
      have hz0 : w5.cell? ⟨w.heap.size, 0, none⟩ = some (.slice A l.length c) := (blk_cell hbx5 0).trans rfl
      have hz1 : w5.cell? ⟨w.heap.size, 1, none⟩ = some (.slice A' ops.length c') := (blk_cell hbx5 1).trans rfl
      have hzf0 := blk_frozen hbx5 0
      have hzf1 := blk_frozen hbx5 1
      have HCy5 := Aside0.mk (Kd.F_below HCy4.out hB5)
      have HF5 := Aside0.mk (Kd.F_below HF4.out hB5)
      have hlt5 := blk_lt hbx5
      clear hx5 hB5 hbx5 HX4 HCy4 HF4
      go_wp2_with fail
      obtain ⟨w6, hw6⟩ : ∃ w6, w6 = (w5.setCell ⟨w.heap.size, 0, none⟩ (.slice A5 l.length c5)).setCell ⟨w.heap.size, 1, none⟩ (.slice A6 (rep1 l ops).length c6) := ⟨_, rfl⟩
      have HCy6 := Aside0.mk (Kd.F_step HCy5.out (fun k hk hl => (wr_set2 w5 w.heap.size (.slice A5 l.length c5) (.slice A6 (rep1 l ops).length c6)).2.2.2.2 k hl (fun e => by have e' : k = w.heap.size := e; have h1 : wb.heap.size ≤ k := hk; omega)))
      have HF6 := Aside0.mk (Kd.F_step HF5.out (fun k hk hl => (wr_set2 w5 w.heap.size (.slice A5 l.length c5) (.slice A6 (rep1 l ops).length c6)).2.2.2.2 k hl (fun e => by have e' : k = w.heap.size := e; have h1 : w2.heap.size ≤ k := hk.1; have := HS2.out; omega)))
      obtain ⟨T6, hT6⟩ : ∃ T6, T6 = ext T w4 w5 := ⟨_, rfl⟩
      rw [← hT6] at HX5
      rw [← hw6] at HX5 HCy6 HF6 ⊢
      have HX6 := Aside0.mk HX5.out
      clear hw6 hT6 HX5 HCy5 HF5 hz0 hz1 hzf0 hzf1 hlt5
      refine start_ (n := 9) (S := fun W => W.cell? ⟨w.heap.size, 0, none⟩ = some (.slice A5 l.length c5) ∧ W.cell? ⟨w.heap.size, 1, none⟩ = some (.slice A6 (rep1 l ops).length c6)) (ds := [8]) #[false, false, false, false, false, false, false, false, false] (by kernel_rfl) rfl rfl ?_ (fun hHeld => ?_)
      · exact ⟨(blk_cell HX6.out.box 0).trans rfl, (blk_cell HX6.out.box 1).trans rfl⟩
      refine take_ (i := 0) (N := some 46) (v := ?_) (a' := ?_) #[true, false, false, false, false, false, false, false, false] rfl rfl (by kernel_rfl) (fun _ _ _ h => h) (Or.inl ⟨by rfl, ?_⟩) hHeld ?_ ?_
      rotate_left
      · rintro w' ⟨s0, s1⟩
        go_simp
        with_reducible rfl
      rotate_left
      · simp only [Act.put, List.setIfInBounds_toArray, List.set_cons_zero, List.set_cons_succ, i64_w, i32_w]
        rfl
      refine pure_ (i := 1) (N := some 47) (v := ?_) (a' := ?_) #[true, true, false, false, false, false, false, false, false] rfl rfl (by kernel_rfl) (fun _ _ _ h => h) (Or.inl ⟨by rfl, ?_⟩) ?_ ?_
      rotate_left
      · intro w'
        go_simp
        with_reducible rfl
      rotate_left
      · simp only [Act.put, List.setIfInBounds_toArray, List.set_cons_zero, List.set_cons_succ, i64_w, i32_w]
        rfl
      refine pure_ (i := 2) (N := some 48) (v := ?_) (a' := ?_) #[true, true, true, false, false, false, false, false, false] rfl rfl (by kernel_rfl) (fun _ _ _ h => h) (Or.inl ⟨by rfl, ?_⟩) ?_ ?_
      rotate_left
      · intro w'
        go_simp
        with_reducible rfl
      rotate_left
      · simp only [Act.put, List.setIfInBounds_toArray, List.set_cons_zero, List.set_cons_succ, i64_w, i32_w]
        rfl
      refine pure_ (i := 3) (N := some 49) (v := ?_) (a' := ?_) #[true, true, true, true, false, false, false, false, false] rfl rfl (by kernel_rfl) (fun _ _ _ h => h) (Or.inl ⟨by rfl, ?_⟩) ?_ ?_
      rotate_left
      · intro w'
        go_simp
        with_reducible rfl
      rotate_left
      · simp only [Act.put, List.setIfInBounds_toArray, List.set_cons_zero, List.set_cons_succ, i64_w, i32_w]
        rfl
      have HX6d := Aside0.mk (HX6.out.move (below_drew (Below.refl _ _)))
      refine one_ (i := 4) (N := some 50) #[true, true, true, true, true, false, false, false, false] rfl rfl (by kernel_rfl) (by decide) (fun K hK => ?_)
      refine goes_ Try.func82 (by kernel_rfl) rfl #[dkV A5 l.length c5 A6 (rep1 l ops).length c6, .string nT, .slice B2 y.length d2] (by rfl) rfl rfl (by (try simp only [List.map_toArray, List.map_cons, List.map_nil]); first | done | rfl) ?_
      refine (xAppend w6.drew T6 A5 c5 A6 c6 0 l (rep1 l ops) HX6d.out.xst HZ1.out nT B2 d2 y hT hyd (Kd.F_now (Kd.F_drew HCy6.out)) hy47).mono ?_
      rintro e w7 ⟨u7, v7, rfl, hx7, hB7⟩
      obtain ⟨A7, c7, A8, c8, rfl, rfl⟩ := hx7.slices
      have HX8 := Aside0.mk (HX6d.out.store hx7 hB7 rfl (by have := HSZ.out; omega) HT.out)
      have hbx7 := (hB7.block _ (blk_lt HX6d.out.box)).trans HX6d.out.box
      have HBx7 := Aside0.mk hbx7
      have HF7 := Aside0.mk (Kd.F_below (Kd.F_drew HF6.out) hB7)
      refine ⟨_, rfl, hK.out _ _ ⟨(blk_cell hbx7 0).trans rfl, (blk_cell hbx7 1).trans rfl⟩ (fun hHeld => ?_)⟩
      clear hK K hx7 hB7 hbx7 HX6d HCy6
      refine norm_ (a' := ?_) ?_ ?_
      rotate_left
      · show Act.put _ (some 50) _ = _
        simp only [Act.put, List.setIfInBounds_toArray, List.set_cons_zero, List.set_cons_succ, i64_w, i32_w]
        rfl
      refine pure_ (i := 5) (N := some 45) (v := ?_) (a' := ?_) #[true, true, true, true, true, true, false, false, false] rfl rfl (by kernel_rfl) (fun _ _ _ h => h) (Or.inl ⟨by rfl, ?_⟩) ?_ ?_
      rotate_left
      · intro w'
        go_simp
        with_reducible rfl
      rotate_left
      · simp only [Act.put, List.setIfInBounds_toArray, List.set_cons_zero, List.set_cons_succ, i64_w, i32_w]
        rfl
      refine pure_ (i := 6) (N := some 51) (v := ?_) (a' := ?_) #[true, true, true, true, true, true, true, false, false] rfl rfl (by kernel_rfl) (fun _ _ _ h => h) (Or.inl ⟨by rfl, ?_⟩) ?_ ?_
      rotate_left
      · intro w'
        go_simp
        with_reducible rfl
      rotate_left
      · simp only [Act.put, List.setIfInBounds_toArray, List.set_cons_zero, List.set_cons_succ, i64_w, i32_w]
        rfl
      refine pure_ (i := 7) (N := some 52) (v := ?_) (a' := ?_) #[true, true, true, true, true, true, true, true, false] rfl rfl (by kernel_rfl) (fun _ _ _ h => h) (Or.inl ⟨by rfl, ?_⟩) ?_ ?_
      rotate_left
      · intro w'
        go_simp
        with_reducible rfl
      rotate_left
      · simp only [Act.put, List.setIfInBounds_toArray, List.set_cons_zero, List.set_cons_succ, i64_w, i32_w]
        rfl
      refine last_ (i := 8) (N := none) #[true, true, true, true, true, true, true, true, true] rfl rfl (by kernel_rfl) (by decide) (fun K hK => ?_)
      have hz0 : w7.cell? ⟨w.heap.size, 0, none⟩ = some (.slice A5 l.length c5) := (blk_cell HBx7.out 0).trans rfl
      have hz1 : w7.cell? ⟨w.heap.size, 1, none⟩ = some (.slice A6 (rep1 l ops).length c6) := (blk_cell HBx7.out 1).trans rfl
      have hzf0 := blk_frozen HBx7.out 0
      have hzf1 := blk_frozen HBx7.out 1
      refine skip_ (w1 := ?_) (by rfl) rfl ?_ ?_
      rotate_left
      · go_simp
        rfl
      refine hK.out _ _ ?_
      clear hK K hHeld hz0 hz1 hzf0 hzf1
      refine done_ (by kernel_rfl) ?_
      have HF8 := Aside0.mk (Kd.F_step HF7.out (fun k hk hl => (wr_set2 w7 w.heap.size (.slice A7 l.length c7) (.slice A8 (appendL (rep1 l ops) nT y).1.length c8)).2.2.2.2 k hl (fun e => by have e' : k = w.heap.size := e; have h1 : w2.heap.size ≤ k := hk.1; have := HS2.out; omega)))
      obtain ⟨w8, hw8⟩ : ∃ w8, w8 = (w7.setCell ⟨w.heap.size, 0, none⟩ (.slice A7 l.length c7)).setCell ⟨w.heap.size, 1, none⟩ (.slice A8 (appendL (rep1 l ops) nT y).1.length c8) := ⟨_, rfl⟩
      rw [← hw8] at HX8 HF8 ⊢
      clear hw8 HF7 HBx7
      obtain ⟨T8, hT8⟩ : ∃ T8, T8 = ext T6 w6.drew w7 := ⟨_, rfl⟩
      rw [← hT8] at HX8
      clear hT8
      have hz0 : w8.cell? ⟨w.heap.size, 0, none⟩ = some (.slice A7 l.length c7) := (blk_cell HX8.out.box 0).trans rfl
      have hz1 : w8.cell? ⟨w.heap.size, 1, none⟩ = some (.slice A8 (appendL (rep1 l ops) nT y).1.length c8) := (blk_cell HX8.out.box 1).trans rfl
      have hzf0 := blk_frozen HX8.out.box 0
      have hzf1 := blk_frozen HX8.out.box 1
      go_wp2_with fail
      refine (xRename w8 T8 A7 c7 A8 c8 0 l (appendL (rep1 l ops) nT y).1 HX8.out.xst HZ2.out nT nm hm).mono ?_
      rintro e w9 ⟨u9, v9, rfl, hx9, hB9⟩
      rw [← HRp.out] at hx9
      obtain ⟨A9, c9, A10, c10, rfl, rfl⟩ := hx9.slices
      have HX10 := Aside0.mk (HX8.out.store hx9 hB9 rfl (by have := HSZ.out; omega) HT.out)
      have HX9 := Aside0.mk (HX8.out.move hB9)
      have HF10 := Aside0.mk (Kd.F_step (Kd.F_below HF8.out hB9) (fun k hk hl => (wr_set2 w9 w.heap.size (.slice A9 l.length c9) (.slice A10 (repairL l ops nm y).length c10)).2.2.2.2 k hl (fun e => by have e' : k = w.heap.size := e; have h1 : w2.heap.size ≤ k := hk.1; have := HS2.out; omega)))
      clear hx9 hB9 hz0 hz1 hzf0 hzf1 HX8 HF8
      have hz0 : w9.cell? ⟨w.heap.size, 0, none⟩ = some (.slice A7 l.length c7) := (blk_cell HX9.out.box 0).trans rfl
      have hz1 : w9.cell? ⟨w.heap.size, 1, none⟩ = some (.slice A8 (appendL (rep1 l ops) nT y).1.length c8) := (blk_cell HX9.out.box 1).trans rfl
      have hzf0 := blk_frozen HX9.out.box 0
      have hzf1 := blk_frozen HX9.out.box 1
      go_wp2_with fail
      obtain ⟨w10, hw10⟩ : ∃ w10, w10 = (w9.setCell ⟨w.heap.size, 0, none⟩ (.slice A9 l.length c9)).setCell ⟨w.heap.size, 1, none⟩ (.slice A10 (repairL l ops nm y).length c10) := ⟨_, rfl⟩
      rw [← hw10] at HX10 HF10 ⊢
      clear hw10 hz0 hz1 hzf0 hzf1
      obtain ⟨T10, hT10⟩ : ∃ T10, T10 = ext T8 w8 w9 := ⟨_, rfl⟩
      rw [← hT10] at HX10
      clear hT10 HX9
      refine (xSync w10 T10 A9 c9 A10 c10 0 l (repairL l ops nm y) HX10.out.xst HZ3.out).mono ?_
      rintro e w11 ⟨u11, v11, rfl, hx11, hB11⟩
      obtain ⟨A11, c11, A12, c12, rfl, rfl⟩ := hx11.slices
      have HX12 := Aside0.mk (HX10.out.store hx11 hB11 rfl (by have := HSZ.out; omega) HT.out)
      have HX11 := Aside0.mk (HX10.out.move hB11)
      have HF12 := Aside0.mk (Kd.F_step (Kd.F_below HF10.out hB11) (fun k hk hl => (wr_set2 w11 w.heap.size (.slice A11 (viewL l (repairL l ops nm y)).length c11) (.slice A12 ([] : List S123).length c12)).2.2.2.2 k hl (fun e => by have e' : k = w.heap.size := e; have h1 : w2.heap.size ≤ k := hk.1; have := HS2.out; omega)))
      clear hx11 hB11 HX10 HF10
      have hz0 : w11.cell? ⟨w.heap.size, 0, none⟩ = some (.slice A9 l.length c9) := (blk_cell HX11.out.box 0).trans rfl
      have hz1 : w11.cell? ⟨w.heap.size, 1, none⟩ = some (.slice A10 (repairL l ops nm y).length c10) := (blk_cell HX11.out.box 1).trans rfl
      have hzf0 := blk_frozen HX11.out.box 0
      have hzf1 := blk_frozen HX11.out.box 1
      have hy0 : w11.cell? ⟨w.heap.size + 1, 0, none⟩ = some (.slice none 0 0) := (blk_cell HX11.out.r1 0).trans rfl
      have hy1 : w11.cell? ⟨w.heap.size + 1, 1, none⟩ = some (.slice none 0 0) := (blk_cell HX11.out.r1 1).trans rfl
      have hyf0 := blk_frozen HX11.out.r1 0
      have hyf1 := blk_frozen HX11.out.r1 1
      have hx0 : w11.cell? ⟨w.heap.size + 1 + 1, 0, none⟩ = some (.string ⟨#[]⟩) := (blk_cell HX11.out.r2 0).trans rfl
      have hxf0 := blk_frozen HX11.out.r2 0
      have hn1 : ¬ (w.heap.size + 1 = w.heap.size) := by omega
      have hn2 : ¬ (w.heap.size = w.heap.size + 1) := by omega
      have hn3 : ¬ (w.heap.size + 1 + 1 = w.heap.size + 1) := by omega
      have hn4 : ¬ (w.heap.size + 1 = w.heap.size + 1 + 1) := by omega
      have hn5 : ¬ (w.heap.size + 1 + 1 = w.heap.size) := by omega
      have hn6 : ¬ (w.heap.size = w.heap.size + 1 + 1) := by omega
      go_wp2_with fail
      have hdn := HX12.out.done nm rfl (by have := HSZ.out; omega) HT.out
      refine bodyPost_ret (results_cctt rfl _ _ (w.heap.size + 1) (w.heap.size + 1 + 1) 53 58 #[.slice A11 (viewL l (repairL l ops nm y)).length c11, .slice A12 ([] : List S123).length c12] #[.string nm] (0, 0) (0, 0) _ _ rfl hdn.1 Try.underlying53 rfl (by kernel_rfl) rfl hdn.2.1 Try.underlying58 rfl (by kernel_rfl)) rfl ?_
      have hFe := Kd.F_step HF12.out (fun k hk hl => hdn.2.2.2.2.2.2.2.2 k hl (fun e => by have h1 : w2.heap.size ≤ k := hk.1; have := HS2.out; have := HSZ.out; rcases e with e | e <;> omega))
      exact ⟨_, _, _, A3, c3, rfl, by rw [HRe.out]; exact hdn.2.2.1, fun k hk => (HX12.out.sub k hk).elim .inl (fun h => .inr (by have := HSZ.out; omega)), hdn.2.2.2.1, hc3, Kd.F_mono hFe (fun k hk => by have h1 : w2.heap.size ≤ k := hk.1; have := HS2.out; have := HSZ.out; omega)⟩
    | false =>
      rw [hqs] at HR1
      clear hqs
      have e1 : rep1 l ops = ops := by rw [HR1.out]; rfl
      rw [e1] at HZ1 HZ2 HRp
      clear e1
      have hz0 : w4.cell? ⟨w.heap.size, 0, none⟩ = some (.slice A l.length c) := (blk_cell HX4.out.box 0).trans rfl
      have hz1 : w4.cell? ⟨w.heap.size, 1, none⟩ = some (.slice A' ops.length c') := (blk_cell HX4.out.box 1).trans rfl
      have hzf0 := blk_frozen HX4.out.box 0
      have hzf1 := blk_frozen HX4.out.box 1
      go_wp2_with fail
      obtain ⟨w6, hw6⟩ : ∃ w6, w6 = w4 := ⟨_, rfl⟩
      obtain ⟨A5, hA5⟩ : ∃ A5, A5 = A := ⟨_, rfl⟩
      obtain ⟨c5, hc5⟩ : ∃ c5, c5 = c := ⟨_, rfl⟩
      obtain ⟨A6, hA6⟩ : ∃ A6, A6 = A' := ⟨_, rfl⟩
      obtain ⟨c6, hc6⟩ : ∃ c6, c6 = c' := ⟨_, rfl⟩
      obtain ⟨T6, hT6⟩ : ∃ T6, T6 = T := ⟨_, rfl⟩
      have HX6 := Aside0.mk (show XB w wb w6 w.heap.size T T6 (.slice A5 l.length c5) (.slice A6 ops.length c6) l ops by rw [hw6, hA5, hc5, hA6, hc6, hT6]; exact HX4.out)
      have HCy6 := Aside0.mk (show Kd.F (Kd.int .u8) w6 (fun k => wb.heap.size ≤ k) B2 y.length y by rw [hw6]; exact HCy4.out)
      have HF6 := Aside0.mk (show Kd.F kB w6 (fun k => w2.heap.size ≤ k ∧ k < w3.heap.size) A3 R.length R by rw [hw6]; exact HF4.out)
      rw [← hw6]
      clear HX4 HCy4 HF4 HS4 HB4 hz0 hz1 hzf0 hzf1 hw6 hA5 hc5 hA6 hc6 hT6
      refine start_ (n := 9) (S := fun W => W.cell? ⟨w.heap.size, 0, none⟩ = some (.slice A5 l.length c5) ∧ W.cell? ⟨w.heap.size, 1, none⟩ = some (.slice A6 (ops).length c6)) (ds := [8]) #[false, false, false, false, false, false, false, false, false] (by kernel_rfl) rfl rfl ?_ (fun hHeld => ?_)
      · exact ⟨(blk_cell HX6.out.box 0).trans rfl, (blk_cell HX6.out.box 1).trans rfl⟩
      refine take_ (i := 0) (N := some 46) (v := ?_) (a' := ?_) #[true, false, false, false, false, false, false, false, false] rfl rfl (by kernel_rfl) (fun _ _ _ h => h) (Or.inl ⟨by rfl, ?_⟩) hHeld ?_ ?_
      rotate_left
      · rintro w' ⟨s0, s1⟩
        go_simp
        with_reducible rfl
      rotate_left
      · simp only [Act.put, List.setIfInBounds_toArray, List.set_cons_zero, List.set_cons_succ, i64_w, i32_w]
        rfl
      refine pure_ (i := 1) (N := some 47) (v := ?_) (a' := ?_) #[true, true, false, false, false, false, false, false, false] rfl rfl (by kernel_rfl) (fun _ _ _ h => h) (Or.inl ⟨by rfl, ?_⟩) ?_ ?_
      rotate_left
      · intro w'
        go_simp
        with_reducible rfl
      rotate_left
      · simp only [Act.put, List.setIfInBounds_toArray, List.set_cons_zero, List.set_cons_succ, i64_w, i32_w]
        rfl
      refine pure_ (i := 2) (N := some 48) (v := ?_) (a' := ?_) #[true, true, true, false, false, false, false, false, false] rfl rfl (by kernel_rfl) (fun _ _ _ h => h) (Or.inl ⟨by rfl, ?_⟩) ?_ ?_
      rotate_left
      · intro w'
        go_simp
        with_reducible rfl
      rotate_left
      · simp only [Act.put, List.setIfInBounds_toArray, List.set_cons_zero, List.set_cons_succ, i64_w, i32_w]
        rfl
      refine pure_ (i := 3) (N := some 49) (v := ?_) (a' := ?_) #[true, true, true, true, false, false, false, false, false] rfl rfl (by kernel_rfl) (fun _ _ _ h => h) (Or.inl ⟨by rfl, ?_⟩) ?_ ?_
      rotate_left
      · intro w'
        go_simp
        with_reducible rfl
      rotate_left
      · simp only [Act.put, List.setIfInBounds_toArray, List.set_cons_zero, List.set_cons_succ, i64_w, i32_w]
        rfl
      have HX6d := Aside0.mk (HX6.out.move (below_drew (Below.refl _ _)))
      refine one_ (i := 4) (N := some 50) #[true, true, true, true, true, false, false, false, false] rfl rfl (by kernel_rfl) (by decide) (fun K hK => ?_)
      refine goes_ Try.func82 (by kernel_rfl) rfl #[dkV A5 l.length c5 A6 (ops).length c6, .string nT, .slice B2 y.length d2] (by rfl) rfl rfl (by (try simp only [List.map_toArray, List.map_cons, List.map_nil]); first | done | rfl) ?_
      refine (xAppend w6.drew T6 A5 c5 A6 c6 0 l (ops) HX6d.out.xst HZ1.out nT B2 d2 y hT hyd (Kd.F_now (Kd.F_drew HCy6.out)) hy47).mono ?_
      rintro e w7 ⟨u7, v7, rfl, hx7, hB7⟩
      obtain ⟨A7, c7, A8, c8, rfl, rfl⟩ := hx7.slices
      have HX8 := Aside0.mk (HX6d.out.store hx7 hB7 rfl (by have := HSZ.out; omega) HT.out)
      have hbx7 := (hB7.block _ (blk_lt HX6d.out.box)).trans HX6d.out.box
      have HBx7 := Aside0.mk hbx7
      have HF7 := Aside0.mk (Kd.F_below (Kd.F_drew HF6.out) hB7)
      refine ⟨_, rfl, hK.out _ _ ⟨(blk_cell hbx7 0).trans rfl, (blk_cell hbx7 1).trans rfl⟩ (fun hHeld => ?_)⟩
      clear hK K hx7 hB7 hbx7 HX6d HCy6
      refine norm_ (a' := ?_) ?_ ?_
      rotate_left
      · show Act.put _ (some 50) _ = _
        simp only [Act.put, List.setIfInBounds_toArray, List.set_cons_zero, List.set_cons_succ, i64_w, i32_w]
        rfl
      refine pure_ (i := 5) (N := some 45) (v := ?_) (a' := ?_) #[true, true, true, true, true, true, false, false, false] rfl rfl (by kernel_rfl) (fun _ _ _ h => h) (Or.inl ⟨by rfl, ?_⟩) ?_ ?_
      rotate_left
      · intro w'
        go_simp
        with_reducible rfl
      rotate_left
      · simp only [Act.put, List.setIfInBounds_toArray, List.set_cons_zero, List.set_cons_succ, i64_w, i32_w]
        rfl
      refine pure_ (i := 6) (N := some 51) (v := ?_) (a' := ?_) #[true, true, true, true, true, true, true, false, false] rfl rfl (by kernel_rfl) (fun _ _ _ h => h) (Or.inl ⟨by rfl, ?_⟩) ?_ ?_
      rotate_left
      · intro w'
        go_simp
        with_reducible rfl
      rotate_left
      · simp only [Act.put, List.setIfInBounds_toArray, List.set_cons_zero, List.set_cons_succ, i64_w, i32_w]
        rfl
      refine pure_ (i := 7) (N := some 52) (v := ?_) (a' := ?_) #[true, true, true, true, true, true, true, true, false] rfl rfl (by kernel_rfl) (fun _ _ _ h => h) (Or.inl ⟨by rfl, ?_⟩) ?_ ?_
      rotate_left
      · intro w'
        go_simp
        with_reducible rfl
      rotate_left
      · simp only [Act.put, List.setIfInBounds_toArray, List.set_cons_zero, List.set_cons_succ, i64_w, i32_w]
        rfl
      refine last_ (i := 8) (N := none) #[true, true, true, true, true, true, true, true, true] rfl rfl (by kernel_rfl) (by decide) (fun K hK => ?_)
      have hz0 : w7.cell? ⟨w.heap.size, 0, none⟩ = some (.slice A5 l.length c5) := (blk_cell HBx7.out 0).trans rfl
      have hz1 : w7.cell? ⟨w.heap.size, 1, none⟩ = some (.slice A6 (ops).length c6) := (blk_cell HBx7.out 1).trans rfl
      have hzf0 := blk_frozen HBx7.out 0
      have hzf1 := blk_frozen HBx7.out 1
      refine skip_ (w1 := ?_) (by rfl) rfl ?_ ?_
      rotate_left
      · go_simp
        rfl
      refine hK.out _ _ ?_
      clear hK K hHeld hz0 hz1 hzf0 hzf1
      refine done_ (by kernel_rfl) ?_
      have HF8 := Aside0.mk (Kd.F_step HF7.out (fun k hk hl => (wr_set2 w7 w.heap.size (.slice A7 l.length c7) (.slice A8 (appendL (ops) nT y).1.length c8)).2.2.2.2 k hl (fun e => by have e' : k = w.heap.size := e; have h1 : w2.heap.size ≤ k := hk.1; have := HS2.out; omega)))
      obtain ⟨w8, hw8⟩ : ∃ w8, w8 = (w7.setCell ⟨w.heap.size, 0, none⟩ (.slice A7 l.length c7)).setCell ⟨w.heap.size, 1, none⟩ (.slice A8 (appendL (ops) nT y).1.length c8) := ⟨_, rfl⟩
      rw [← hw8] at HX8 HF8 ⊢
      clear hw8 HF7 HBx7
      obtain ⟨T8, hT8⟩ : ∃ T8, T8 = ext T6 w6.drew w7 := ⟨_, rfl⟩
      rw [← hT8] at HX8
      clear hT8
      have hz0 : w8.cell? ⟨w.heap.size, 0, none⟩ = some (.slice A7 l.length c7) := (blk_cell HX8.out.box 0).trans rfl
      have hz1 : w8.cell? ⟨w.heap.size, 1, none⟩ = some (.slice A8 (appendL (ops) nT y).1.length c8) := (blk_cell HX8.out.box 1).trans rfl
      have hzf0 := blk_frozen HX8.out.box 0
      have hzf1 := blk_frozen HX8.out.box 1
      go_wp2_with fail
      refine (xRename w8 T8 A7 c7 A8 c8 0 l (appendL (ops) nT y).1 HX8.out.xst HZ2.out nT nm hm).mono ?_
      rintro e w9 ⟨u9, v9, rfl, hx9, hB9⟩
      rw [← HRp.out] at hx9
      obtain ⟨A9, c9, A10, c10, rfl, rfl⟩ := hx9.slices
      have HX10 := Aside0.mk (HX8.out.store hx9 hB9 rfl (by have := HSZ.out; omega) HT.out)
      have HX9 := Aside0.mk (HX8.out.move hB9)
      have HF10 := Aside0.mk (Kd.F_step (Kd.F_below HF8.out hB9) (fun k hk hl => (wr_set2 w9 w.heap.size (.slice A9 l.length c9) (.slice A10 (repairL l ops nm y).length c10)).2.2.2.2 k hl (fun e => by have e' : k = w.heap.size := e; have h1 : w2.heap.size ≤ k := hk.1; have := HS2.out; omega)))
      clear hx9 hB9 hz0 hz1 hzf0 hzf1 HX8 HF8
      have hz0 : w9.cell? ⟨w.heap.size, 0, none⟩ = some (.slice A7 l.length c7) := (blk_cell HX9.out.box 0).trans rfl
      have hz1 : w9.cell? ⟨w.heap.size, 1, none⟩ = some (.slice A8 (appendL (ops) nT y).1.length c8) := (blk_cell HX9.out.box 1).trans rfl
      have hzf0 := blk_frozen HX9.out.box 0
      have hzf1 := blk_frozen HX9.out.box 1
      go_wp2_with fail
      obtain ⟨w10, hw10⟩ : ∃ w10, w10 = (w9.setCell ⟨w.heap.size, 0, none⟩ (.slice A9 l.length c9)).setCell ⟨w.heap.size, 1, none⟩ (.slice A10 (repairL l ops nm y).length c10) := ⟨_, rfl⟩
      rw [← hw10] at HX10 HF10 ⊢
      clear hw10 hz0 hz1 hzf0 hzf1
      obtain ⟨T10, hT10⟩ : ∃ T10, T10 = ext T8 w8 w9 := ⟨_, rfl⟩
      rw [← hT10] at HX10
      clear hT10 HX9
      refine (xSync w10 T10 A9 c9 A10 c10 0 l (repairL l ops nm y) HX10.out.xst HZ3.out).mono ?_
      rintro e w11 ⟨u11, v11, rfl, hx11, hB11⟩
      obtain ⟨A11, c11, A12, c12, rfl, rfl⟩ := hx11.slices
      have HX12 := Aside0.mk (HX10.out.store hx11 hB11 rfl (by have := HSZ.out; omega) HT.out)
      have HX11 := Aside0.mk (HX10.out.move hB11)
      have HF12 := Aside0.mk (Kd.F_step (Kd.F_below HF10.out hB11) (fun k hk hl => (wr_set2 w11 w.heap.size (.slice A11 (viewL l (repairL l ops nm y)).length c11) (.slice A12 ([] : List S123).length c12)).2.2.2.2 k hl (fun e => by have e' : k = w.heap.size := e; have h1 : w2.heap.size ≤ k := hk.1; have := HS2.out; omega)))
      clear hx11 hB11 HX10 HF10
      have hz0 : w11.cell? ⟨w.heap.size, 0, none⟩ = some (.slice A9 l.length c9) := (blk_cell HX11.out.box 0).trans rfl
      have hz1 : w11.cell? ⟨w.heap.size, 1, none⟩ = some (.slice A10 (repairL l ops nm y).length c10) := (blk_cell HX11.out.box 1).trans rfl
      have hzf0 := blk_frozen HX11.out.box 0
      have hzf1 := blk_frozen HX11.out.box 1
      have hy0 : w11.cell? ⟨w.heap.size + 1, 0, none⟩ = some (.slice none 0 0) := (blk_cell HX11.out.r1 0).trans rfl
      have hy1 : w11.cell? ⟨w.heap.size + 1, 1, none⟩ = some (.slice none 0 0) := (blk_cell HX11.out.r1 1).trans rfl
      have hyf0 := blk_frozen HX11.out.r1 0
      have hyf1 := blk_frozen HX11.out.r1 1
      have hx0 : w11.cell? ⟨w.heap.size + 1 + 1, 0, none⟩ = some (.string ⟨#[]⟩) := (blk_cell HX11.out.r2 0).trans rfl
      have hxf0 := blk_frozen HX11.out.r2 0
      have hn1 : ¬ (w.heap.size + 1 = w.heap.size) := by omega
      have hn2 : ¬ (w.heap.size = w.heap.size + 1) := by omega
      have hn3 : ¬ (w.heap.size + 1 + 1 = w.heap.size + 1) := by omega
      have hn4 : ¬ (w.heap.size + 1 = w.heap.size + 1 + 1) := by omega
      have hn5 : ¬ (w.heap.size + 1 + 1 = w.heap.size) := by omega
      have hn6 : ¬ (w.heap.size = w.heap.size + 1 + 1) := by omega
      go_wp2_with fail
      have hdn := HX12.out.done nm rfl (by have := HSZ.out; omega) HT.out
      refine bodyPost_ret (results_cctt rfl _ _ (w.heap.size + 1) (w.heap.size + 1 + 1) 53 58 #[.slice A11 (viewL l (repairL l ops nm y)).length c11, .slice A12 ([] : List S123).length c12] #[.string nm] (0, 0) (0, 0) _ _ rfl hdn.1 Try.underlying53 rfl (by kernel_rfl) rfl hdn.2.1 Try.underlying58 rfl (by kernel_rfl)) rfl ?_
      have hFe := Kd.F_step HF12.out (fun k hk hl => hdn.2.2.2.2.2.2.2.2 k hl (fun e => by have h1 : w2.heap.size ≤ k := hk.1; have := HS2.out; have := HSZ.out; rcases e with e | e <;> omega))
      exact ⟨_, _, _, A3, c3, rfl, by rw [HRe.out]; exact hdn.2.2.1, fun k hk => (HX12.out.sub k hk).elim .inl (fun h => .inr (by have := HSZ.out; omega)), hdn.2.2.2.1, hc3, Kd.F_mono hFe (fun k hk => by have h1 : w2.heap.size ≤ k := hk.1; have := HS2.out; have := HSZ.out; omega)⟩
  · have hre := HRR.out
    rw [if_neg hlen] at hre
    have HRe := Aside0.mk hre
    clear hre HRR hz0 hz1 hzf0 hzf1
    have hz0 : w3.cell? ⟨w.heap.size, 0, none⟩ = some (.slice A l.length c) := (blk_cell HX3.out.box 0).trans rfl
    have hz1 : w3.cell? ⟨w.heap.size, 1, none⟩ = some (.slice A' ops.length c') := (blk_cell HX3.out.box 1).trans rfl
    have hzf0 := blk_frozen HX3.out.box 0
    have hzf1 := blk_frozen HX3.out.box 1
    have hy0 : w3.cell? ⟨w.heap.size + 1, 0, none⟩ = some (.slice none 0 0) := (blk_cell HX3.out.r1 0).trans rfl
    have hy1 : w3.cell? ⟨w.heap.size + 1, 1, none⟩ = some (.slice none 0 0) := (blk_cell HX3.out.r1 1).trans rfl
    have hyf0 := blk_frozen HX3.out.r1 0
    have hyf1 := blk_frozen HX3.out.r1 1
    have hx0 : w3.cell? ⟨w.heap.size + 1 + 1, 0, none⟩ = some (.string ⟨#[]⟩) := (blk_cell HX3.out.r2 0).trans rfl
    have hxf0 := blk_frozen HX3.out.r2 0
    have hn1 : ¬ (w.heap.size + 1 = w.heap.size) := by omega
    have hn2 : ¬ (w.heap.size = w.heap.size + 1) := by omega
    have hn3 : ¬ (w.heap.size + 1 + 1 = w.heap.size + 1) := by omega
    have hn4 : ¬ (w.heap.size + 1 = w.heap.size + 1 + 1) := by omega
    have hn5 : ¬ (w.heap.size + 1 + 1 = w.heap.size) := by omega
    have hn6 : ¬ (w.heap.size = w.heap.size + 1 + 1) := by omega
    go_wp2_with fail
    have hdn := HX3.out.done nm rfl (by have := HSZ.out; omega) HT.out
    refine bodyPost_ret (results_cctt rfl _ _ (w.heap.size + 1) (w.heap.size + 1 + 1) 53 58 #[.slice A l.length c, .slice A' ops.length c'] #[.string nm] (0, 0) (0, 0) _ _ rfl hdn.1 Try.underlying53 rfl (by kernel_rfl) rfl hdn.2.1 Try.underlying58 rfl (by kernel_rfl)) rfl ?_
    have hFe := Kd.F_step HF3.out (fun k hk hl => hdn.2.2.2.2.2.2.2.2 k hl (fun e => by have h1 : w2.heap.size ≤ k := hk.1; have := HS2.out; have := HSZ.out; rcases e with e | e <;> omega))
    exact ⟨_, _, _, A3, c3, rfl, by rw [HRe.out]; exact hdn.2.2.1, fun k hk => (HX3.out.sub k hk).elim .inl (fun h => .inr (by have := HSZ.out; omega)), hdn.2.2.2.1, hc3, Kd.F_mono hFe (fun k hk => by have h1 : w2.heap.size ≤ k := hk.1; have := HS2.out; have := HSZ.out; omega)⟩
theorem xopen_calls (w : World) (T : Nat → Prop) (A : Option Addr) (c : Nat) (A' : Option Addr) (c' n : Nat) (l : List S109) (ops : List S123) (nm : ByteArray) (h : XSt w T (.slice A l.length c) (.slice A' ops.length c') l ops) (hm : nm.size ≤ maxLen) (hz : n + ops.length + 3 ≤ 1000000 ∧ l.length + ops.length + 3 ≤ 1000000 ∧ 2 * (byF l + byO ops) ≤ 1000000000) (hno : nameOk nm = true) (hby : Byt (contL l ops nm)) :
    Calls Try.prog 41 #[dkV A l.length c A' ops.length c', .string nm] w (XOpenPost w T (openL l ops n nm) (recsL l ops nm) nm) :=
  (xopen_callsF w T A c A' c' n l ops nm h hm hz hno hby).mono fun e w' ⟨T', u, v, B, d, h1, h2, h3, h4, h5, h6⟩ => ⟨T', u, v, B, d, h1, h2, h3, h4, h5, Kd.F_now h6⟩
end Go.Proofs.Ytfaniohoplbdoaa.My
/- The statements on logs: lists, same, large; the reference's Append, Len, Size. -/
namespace Go.Proofs.Ytfaniohoplbdoaa.My
open Go Go.RowKit Go.Proofs.YtfaniohoplbdoaaW.PrintWords Go.Proofs.YtfaniohoplbdoaaW.PrintLast Go.Proofs.YtfaniohoplbdoaaW.PrintMore Go.Proofs.Ytfaniohoplbdoaa.PDiskActs
set_option linter.unusedVariables false
set_option linter.unusedSimpArgs false
structure S71 where
  f0 : Int
  f1 : List Int
  f2 : Int
  f3 : Int
def k71 : Kd S71 := Kd.iso (Kd.pair (Kd.int .i64) (Kd.pair (Kd.slice 5 (Kd.int .u8)) (Kd.pair (Kd.int .i64) (Kd.int .i64)))) (fun x : S71 => (x.f0, x.f1, x.f2, x.f3))
theorem k71_open {w : World} {x : S71} {cs : List Value} (h : k71.K w x cs) : ∃ A3 c3, cs = [.int .i64 x.f0, .slice A3 x.f1.length c3, .int .i64 x.f2, .int .i64 x.f3] ∧ x.f1.length ≤ c3 ∧ (Kd.int .u8).C w A3 x.f1.length x.f1 := by
  obtain ⟨_, _, rfl, rfl, ⟨_, _, rfl, ⟨A3, c3, rfl, l3, g3⟩, ⟨_, _, rfl, rfl, rfl⟩⟩⟩ := h
  exact ⟨A3, c3, rfl, l3, g3⟩
theorem k71_mk (w : World) (x : S71) {A3 : Option Addr} {c3 : Nat} (l3 : x.f1.length ≤ c3) (g3 : (Kd.int .u8).C w A3 x.f1.length x.f1) : k71.K w x [.int .i64 x.f0, .slice A3 x.f1.length c3, .int .i64 x.f2, .int .i64 x.f3] := ⟨[.int .i64 x.f0], [.slice A3 x.f1.length c3, .int .i64 x.f2, .int .i64 x.f3], rfl, rfl, ⟨[.slice A3 x.f1.length c3], [.int .i64 x.f2, .int .i64 x.f3], rfl, ⟨A3, c3, rfl, l3, g3⟩, ⟨[.int .i64 x.f2], [.int .i64 x.f3], rfl, rfl, rfl⟩⟩⟩
abbrev CQ (w : World) (A : Option Addr) (l : List S71) : Prop := Kd.C k71 w A l.length l
theorem CQ.at_ {w : World} {A : Option Addr} {l : List S71} (h : CQ w A l) (j : Nat) (hj : j < l.length) :
    ∃ ad A3 c3, A = some ad ∧ w.cell? (ad.add (j * 4)) = some (.int .i64 l[j].f0) ∧ w.cell? ⟨(ad.add (j * 4)).block, (ad.add (j * 4)).off + 1, none⟩ = some (.slice A3 l[j].f1.length c3) ∧ w.cell? ⟨(ad.add (j * 4)).block, (ad.add (j * 4)).off + 2, none⟩ = some (.int .i64 l[j].f2) ∧ w.cell? ⟨(ad.add (j * 4)).block, (ad.add (j * 4)).off + 3, none⟩ = some (.int .i64 l[j].f3) ∧ l[j].f1.length ≤ c3 ∧ CB w A3 l[j].f1 := by
  obtain ⟨ad, cs, e, _, hK, hc0⟩ := Kd.C_get h l[j] (j : Int) (by omega) (by omega)
  rw [Int.toNat_natCast] at hK hc0
  rw [show l.getD j l[j] = l[j] from by simp [List.getD_eq_getElem?_getD, hj]] at hK
  have hc : ∀ i u, cs[i]? = some u → w.cell? (ad.add (j * 4 + i)) = some u := hc0
  obtain ⟨A3, c3, rfl, l3, g3⟩ := k71_open hK
  exact ⟨ad, A3, c3, e, hc 0 _ rfl, by rw [← add_field _ _ 1 (by omega)]; exact hc 1 _ rfl, by rw [← add_field _ _ 2 (by omega)]; exact hc 2 _ rfl, by rw [← add_field _ _ 3 (by omega)]; exact hc 3 _ rfl, l3, g3⟩
def byQ (l : List S71) : Nat := (l.map fun f => f.f1.length).sum
def bigW (l : List S109) (ops : List S71) : Bool := decide (20 < l.length) || decide (40 < ops.length) || decide (2000 < byF l + byQ ops)
theorem byQ_bound {l : List S71} {m : Nat} (h : ∀ f ∈ l, f.f1.length ≤ m) : byQ l ≤ l.length * m := by
  induction l with
  | nil => simp [byQ]
  | cons f l ih =>
    have h1 := ih fun x hx => h x (List.mem_cons_of_mem _ hx)
    have h2 := h f List.mem_cons_self
    simp only [byQ, List.map_cons, List.sum_cons, List.length_cons] at h1 ⊢
    rw [Nat.add_mul]
    omega
theorem byQ_take_succ {l : List S71} {k : Nat} (h : k < l.length) : byQ (l.take (k + 1)) = byQ (l.take k) + l[k].f1.length := by
  unfold byQ
  rw [List.take_succ_eq_append_getElem h, List.map_append, List.sum_append]
  simp
theorem byQ_takeN (ops : List S71) (k : Nat) : byQ (ops.take k) ≤ byQ ops := by
  have : byQ ops = byQ (ops.take k) + byQ (ops.drop k) := by
    conv => lhs; rw [← List.take_append_drop k ops]
    unfold byQ
    rw [List.map_append, List.sum_append]
  omega
set_option maxHeartbeats 1000000 in
theorem lists36_true (A : Option Addr) (c : Nat) (A' : Option Addr) (c' : Nat) (l : List (List Int)) (w : World) (hC : CL w A l) (hC' : CL w A' l) :
    Calls Try.prog 42 #[.slice A l.length c, .slice A' l.length c'] w fun e w' => e = .returned (.bool true) ∧ Drawn0 w w' := by
  have hm := Kd.C_max hC
  have HC := Aside0.mk hC
  have HC' := Aside0.mk hC'
  clear hC hC'
  go_enter Try.func42, Try.ntmps42
  go_wp2
  go_loopw [13] (fun i wr => ∃ k : Nat, k ≤ l.length ∧ i = .int .i64 k ∧ Drawn0 w wr) (fun i _ => l.length - (intOf i).toNat)
  case atStart => exact ⟨0, by omega, rfl, Drawn0.refl w⟩
  case round =>
    obtain ⟨k, hk, rfl, n, rfl⟩ := hrel
    by_cases hlt : k < l.length
    · obtain ⟨ad, B, d, rfl, hcell, hd, hCB⟩ := CL.at_ (Kd.C_drewN HC.out (n + 1)) k hlt
      obtain ⟨ad', B', d', rfl, hcell', hd', hCB'⟩ := CL.at_ (Kd.C_drewN HC'.out (n + 1)) k hlt
      obtain ⟨y, hy⟩ : ∃ y, y = l[k] := ⟨_, rfl⟩
      rw [← hy] at hcell hcell' hCB hCB' hd hd'
      clear hy
      have hcv := Kd.C_string (P := Try.prog) (A := B) (c := d) Try.underlying22 Try.underlying5 Try.underlying9 hCB
      have hcv' := Kd.C_string (P := Try.prog) (A := B') (c := d') Try.underlying22 Try.underlying5 Try.underlying9 hCB'
      have hne : ((strOfNums y).toList != (strOfNums y).toList) = false := by simp
      go_wp2
      refine start_ (n := 11) (S := fun w' => w' = w.drewN (n + 1)) (ds := []) #[false, false, false, false, false, false, false, false, false, false, false] (by kernel_rfl) rfl rfl ?_ (fun hHeld => ?_)
      · rfl
      refine pure_ (i := 0) (N := some 16) (v := ?_) (a' := ?_) #[true, false, false, false, false, false, false, false, false, false, false] rfl rfl (by kernel_rfl) (fun _ _ _ h => h) (Or.inl ⟨by rfl, ?_⟩) ?_ ?_
      rotate_left
      · intro w'
        go_simp
        with_reducible rfl
      rotate_left
      · simp only [Act.put, List.setIfInBounds_toArray, List.set_cons_zero, List.set_cons_succ, i64_w, i32_w]
        rfl
      refine pure_ (i := 1) (N := some 17) (v := ?_) (a' := ?_) #[true, true, false, false, false, false, false, false, false, false, false] rfl rfl (by kernel_rfl) (fun _ _ _ h => h) (Or.inl ⟨by rfl, ?_⟩) ?_ ?_
      rotate_left
      · intro w'
        go_simp
        with_reducible rfl
      rotate_left
      · simp only [Act.put, List.setIfInBounds_toArray, List.set_cons_zero, List.set_cons_succ, i64_w, i32_w]
        rfl
      refine pure_ (i := 2) (N := some 18) (v := ?_) (a' := ?_) #[true, true, true, false, false, false, false, false, false, false, false] rfl rfl (by kernel_rfl) (fun _ _ _ h => h) (Or.inl ⟨by rfl, ?_⟩) ?_ ?_
      rotate_left
      · intro w'
        go_simp
        with_reducible rfl
      rotate_left
      · simp only [Act.put, List.setIfInBounds_toArray, List.set_cons_zero, List.set_cons_succ, i64_w, i32_w]
        rfl
      refine take_ (i := 3) (N := some 19) (v := ?_) (a' := ?_) #[true, true, true, true, false, false, false, false, false, false, false] rfl rfl (by kernel_rfl) (fun _ _ _ h => h) (Or.inl ⟨by rfl, ?_⟩) hHeld ?_ ?_
      rotate_left
      · rintro w' rfl
        go_simp
        with_reducible rfl
      rotate_left
      · simp only [Act.put, List.setIfInBounds_toArray, List.set_cons_zero, List.set_cons_succ, i64_w, i32_w]
        rfl
      refine take_ (i := 4) (N := some 20) (v := ?_) (a' := ?_) #[true, true, true, true, true, false, false, false, false, false, false] rfl rfl (by kernel_rfl) (fun _ _ _ h => h) (Or.inl ⟨by rfl, ?_⟩) hHeld ?_ ?_
      rotate_left
      · rintro w' rfl
        go_simp
        with_reducible rfl
      rotate_left
      · simp only [Act.put, List.setIfInBounds_toArray, List.set_cons_zero, List.set_cons_succ, i64_w, i32_w]
        rfl
      refine pure_ (i := 5) (N := some 21) (v := ?_) (a' := ?_) #[true, true, true, true, true, true, false, false, false, false, false] rfl rfl (by kernel_rfl) (fun _ _ _ h => h) (Or.inl ⟨by rfl, ?_⟩) ?_ ?_
      rotate_left
      · intro w'
        go_simp
        with_reducible rfl
      rotate_left
      · simp only [Act.put, List.setIfInBounds_toArray, List.set_cons_zero, List.set_cons_succ, i64_w, i32_w]
        rfl
      refine pure_ (i := 6) (N := some 22) (v := ?_) (a' := ?_) #[true, true, true, true, true, true, true, false, false, false, false] rfl rfl (by kernel_rfl) (fun _ _ _ h => h) (Or.inl ⟨by rfl, ?_⟩) ?_ ?_
      rotate_left
      · intro w'
        go_simp
        with_reducible rfl
      rotate_left
      · simp only [Act.put, List.setIfInBounds_toArray, List.set_cons_zero, List.set_cons_succ, i64_w, i32_w]
        rfl
      refine pure_ (i := 7) (N := some 23) (v := ?_) (a' := ?_) #[true, true, true, true, true, true, true, true, false, false, false] rfl rfl (by kernel_rfl) (fun _ _ _ h => h) (Or.inl ⟨by rfl, ?_⟩) ?_ ?_
      rotate_left
      · intro w'
        go_simp
        with_reducible rfl
      rotate_left
      · simp only [Act.put, List.setIfInBounds_toArray, List.set_cons_zero, List.set_cons_succ, i64_w, i32_w]
        rfl
      refine take_ (i := 8) (N := some 24) (v := ?_) (a' := ?_) #[true, true, true, true, true, true, true, true, true, false, false] rfl rfl (by kernel_rfl) (fun _ _ _ h => h) (Or.inl ⟨by rfl, ?_⟩) hHeld ?_ ?_
      rotate_left
      · rintro w' rfl
        go_simp
        with_reducible rfl
      rotate_left
      · simp only [Act.put, List.setIfInBounds_toArray, List.set_cons_zero, List.set_cons_succ, i64_w, i32_w]
        rfl
      refine take_ (i := 9) (N := some 25) (v := ?_) (a' := ?_) #[true, true, true, true, true, true, true, true, true, true, false] rfl rfl (by kernel_rfl) (fun _ _ _ h => h) (Or.inl ⟨by rfl, ?_⟩) hHeld ?_ ?_
      rotate_left
      · rintro w' rfl
        go_simp
        with_reducible rfl
      rotate_left
      · simp only [Act.put, List.setIfInBounds_toArray, List.set_cons_zero, List.set_cons_succ, i64_w, i32_w]
        rfl
      refine pure_ (i := 10) (N := some 26) (v := ?_) (a' := ?_) #[true, true, true, true, true, true, true, true, true, true, true] rfl rfl (by kernel_rfl) (fun _ _ _ h => h) (Or.inl ⟨by rfl, ?_⟩) ?_ ?_
      rotate_left
      · intro w'
        go_simp
        with_reducible rfl
      rotate_left
      · simp only [Act.put, List.setIfInBounds_toArray, List.set_cons_zero, List.set_cons_succ, i64_w, i32_w]
        rfl
      refine done_ (by kernel_rfl) ?_
      clear hcv hcv' hcell hcell'
      go_wp2
      go_roundw
      case rel => exact ⟨k + 1, by omega, by go_num, ⟨n + 1, hHeld⟩⟩
      case measure => simp [intOf]; omega
    · obtain rfl : k = l.length := by omega
      go_wp2
      go_ret
      exact ⟨rfl, ⟨_, rfl⟩⟩
set_option maxHeartbeats 4000000 in
set_option maxRecDepth 100000 in
theorem same36_calls (w : World) (S T : Nat → Prop) (g n : Nat) (l : List S109) (ops : List S123) (A : Option Addr) (c : Nat) (A' : Option Addr) (c' : Nat) (hD : DSt w S g l ops n) (hX : XSt w T (.slice A l.length c) (.slice A' ops.length c') l ops) (hz : Sz l ops n) :
    Calls Try.prog 43 #[.pointer (some ⟨g, 0, none⟩), dkV A l.length c A' ops.length c'] w (TruePost w) := by
  obtain ⟨wb, hwb⟩ : ∃ wb, wb = w.alloc (.cells #[.slice A l.length c, .slice A' ops.length c'] 53) := ⟨_, rfl⟩
  have hW : Below w.heap.size w wb := by rw [hwb]; exact below_alloc (Below.refl _ _) _
  have hb0 : wb.heap[w.heap.size]? = some (.cells #[.slice A l.length c, .slice A' ops.length c'] 53 (0, 0)) := by rw [hwb]; exact blk_new _ _
  have HD := Aside0.mk (fun (W : World) (hB : Below wb.heap.size wb W) => (hD.move hW).move hB)
  have HX := Aside0.mk (fun (W : World) (hB : Below wb.heap.size wb W) => (hX.move hW).move hB)
  have HL := Aside0.mk (fun (W : World) (h : XSt W T (.slice A l.length c) (.slice A' ops.length c') l ops) => (by obtain ⟨ok, hu, _⟩ := h; exact (Kd.V_reads' hu).2.2 : CF W A l))
  have HSS := Aside0.mk (fun (W : World) (hB : Below wb.heap.size wb W) => (⟨(blk_cell ((hB.block _ (blk_lt hb0)).trans hb0) 0).trans rfl, (blk_cell ((hB.block _ (blk_lt hb0)).trans hb0) 1).trans rfl⟩ : W.cell? ⟨w.heap.size, 0, none⟩ = some (.slice A l.length c) ∧ W.cell? ⟨w.heap.size, 1, none⟩ = some (.slice A' ops.length c')))
  have HW := Aside0.mk hW
  have HWB := Aside0.mk hwb
  have HZ := Aside0.mk hz
  have hu53 := Try.underlying53
  have hlt0 := blk_lt hb0
  have heq : ((ops.length : Int) == (ops.length : Int)) = true := by simp
  clear hD hX hz hwb hW hb0
  go_enter Try.func43, Try.ntmps43
  go_wp2_with fail
  rw [← HWB.out]
  refine start_ (n := 21) (S := fun W => W.cell? ⟨w.heap.size, 0, none⟩ = some (.slice A l.length c) ∧ W.cell? ⟨w.heap.size, 1, none⟩ = some (.slice A' ops.length c')) (ds := []) #[false, false, false, false, false, false, false, false, false, false, false, false, false, false, false, false, false, false, false, false, false] (by kernel_rfl) rfl rfl ?_ (fun hHeld => ?_)
  · exact HSS.out _ (below_drew (Below.refl _ _))
  refine pure_ (i := 0) (N := some 5) (v := ?_) (a' := ?_) #[true, false, false, false, false, false, false, false, false, false, false, false, false, false, false, false, false, false, false, false, false] rfl rfl (by kernel_rfl) (fun _ _ _ h => h) (Or.inl ⟨by rfl, ?_⟩) ?_ ?_
  rotate_left
  · intro w'
    go_simp
    with_reducible rfl
  rotate_left
  · simp only [Act.put, List.setIfInBounds_toArray, List.set_cons_zero, List.set_cons_succ, i64_w, i32_w]
    rfl
  refine pure_ (i := 2) (N := some 7) (v := ?_) (a' := ?_) #[true, false, true, false, false, false, false, false, false, false, false, false, false, false, false, false, false, false, false, false, false] rfl rfl (by kernel_rfl) (fun _ _ _ h => h) (Or.inl ⟨by rfl, ?_⟩) ?_ ?_
  rotate_left
  · intro w'
    go_simp
    with_reducible rfl
  rotate_left
  · simp only [Act.put, List.setIfInBounds_toArray, List.set_cons_zero, List.set_cons_succ, i64_w, i32_w]
    rfl
  refine take_ (i := 3) (N := some 8) (v := ?_) (a' := ?_) #[true, false, true, true, false, false, false, false, false, false, false, false, false, false, false, false, false, false, false, false, false] rfl rfl (by kernel_rfl) (fun _ _ _ h => h) (Or.inl ⟨by rfl, ?_⟩) hHeld ?_ ?_
  rotate_left
  · rintro w' ⟨s0, s1⟩
    go_simp
    with_reducible rfl
  rotate_left
  · simp only [Act.put, List.setIfInBounds_toArray, List.set_cons_zero, List.set_cons_succ, i64_w, i32_w]
    rfl
  have HB1 := Aside0.mk (below_drew (Below.refl wb.heap.size wb))
  refine one_ (i := 1) (N := some 6) #[true, true, true, true, false, false, false, false, false, false, false, false, false, false, false, false, false, false, false, false, false] rfl rfl (by kernel_rfl) (by decide) (fun K hK => ?_)
  refine goes_ Try.func60 (by kernel_rfl) rfl #[.pointer (some ⟨g, 0, none⟩)] (by rfl) rfl rfl (by (try simp only [List.map_toArray, List.map_cons, List.map_nil]); first | done | rfl) ?_
  refine (sFiles wb.drew S g n l ops (HD.out _ HB1.out) HZ.out).mono ?_
  rintro e w2 ⟨⟨A2, c2, rfl, _, hC2⟩, hB2⟩
  have HC2 := Aside0.mk hC2
  have HB2 := Aside0.mk (below_then HB1.out HB1.out.size hB2)
  refine ⟨_, rfl, hK.out _ _ (HSS.out _ HB2.out) (fun hHeld => ?_)⟩
  clear hK K hC2 hB2
  refine norm_ (a' := ?_) ?_ ?_
  rotate_left
  · show Act.put _ (some 6) _ = _
    simp only [Act.put, List.setIfInBounds_toArray, List.set_cons_zero, List.set_cons_succ, i64_w, i32_w]
    rfl
  refine one_ (i := 4) (N := some 9) #[true, true, true, true, true, false, false, false, false, false, false, false, false, false, false, false, false, false, false, false, false] rfl rfl (by kernel_rfl) (by decide) (fun K hK => ?_)
  refine goes_ Try.func67 (by kernel_rfl) rfl #[.slice A2 l.length c2, .slice A l.length c] (by rfl) rfl rfl (by (try simp only [List.map_toArray, List.map_cons, List.map_nil]); first | done | rfl) ?_
  refine (same_true A2 c2 A c l w2 HC2.out (HL.out _ (HX.out _ HB2.out))).mono ?_
  rintro e w3 ⟨rfl, hd3⟩
  have HB3 := Aside0.mk (below_then HB2.out HB2.out.size (Drawn0.to_below hd3))
  refine ⟨_, rfl, hK.out _ _ (HSS.out _ HB3.out) (fun hHeld => ?_)⟩
  clear hK K hd3
  refine norm_ (a' := ?_) ?_ ?_
  rotate_left
  · show Act.put _ (some 9) _ = _
    simp only [Act.put, List.setIfInBounds_toArray, List.set_cons_zero, List.set_cons_succ, i64_w, i32_w]
    rfl
  refine pure_ (i := 5) (N := some 10) (v := ?_) (a' := ?_) #[true, true, true, true, true, true, false, false, false, false, false, false, false, false, false, false, false, false, false, false, false] rfl rfl (by kernel_rfl) (fun _ _ _ h => h) (Or.inl ⟨by rfl, ?_⟩) ?_ ?_
  rotate_left
  · intro w'
    go_simp
    with_reducible rfl
  rotate_left
  · simp only [Act.put, List.setIfInBounds_toArray, List.set_cons_zero, List.set_cons_succ, i64_w, i32_w]
    rfl
  refine pure_ (i := 6) (N := some 11) (v := ?_) (a' := ?_) #[true, true, true, true, true, true, true, false, false, false, false, false, false, false, false, false, false, false, false, false, false] rfl rfl (by kernel_rfl) (fun _ _ _ h => h) (Or.inl ⟨by rfl, ?_⟩) ?_ ?_
  rotate_left
  · intro w'
    go_simp
    with_reducible rfl
  rotate_left
  · simp only [Act.put, List.setIfInBounds_toArray, List.set_cons_zero, List.set_cons_succ, i64_w, i32_w]
    rfl
  refine take_ (i := 8) (N := some 13) (v := ?_) (a' := ?_) #[true, true, true, true, true, true, true, false, true, false, false, false, false, false, false, false, false, false, false, false, false] rfl rfl (by kernel_rfl) (fun _ _ _ h => h) (Or.inl ⟨by rfl, ?_⟩) hHeld ?_ ?_
  rotate_left
  · rintro w' ⟨s0, s1⟩
    go_simp
    with_reducible rfl
  rotate_left
  · simp only [Act.put, List.setIfInBounds_toArray, List.set_cons_zero, List.set_cons_succ, i64_w, i32_w]
    rfl
  refine one_ (i := 7) (N := some 12) #[true, true, true, true, true, true, true, true, true, false, false, false, false, false, false, false, false, false, false, false, false] rfl rfl (by kernel_rfl) (by decide) (fun K hK => ?_)
  refine goes_ Try.func61 (by kernel_rfl) rfl #[.pointer (some ⟨g, 0, none⟩)] (by rfl) rfl rfl (by (try simp only [List.map_toArray, List.map_cons, List.map_nil]); first | done | rfl) ?_
  refine (sView w3 S g n l ops (HD.out _ HB3.out) HZ.out).mono ?_
  rintro e w4 ⟨⟨A4, c4, rfl, _, hC4⟩, hB4⟩
  have HC4 := Aside0.mk hC4
  have HB4 := Aside0.mk (below_then HB3.out HB3.out.size hB4)
  refine ⟨_, rfl, hK.out _ _ (HSS.out _ HB4.out) (fun hHeld => ?_)⟩
  clear hK K hC4 hB4
  refine norm_ (a' := ?_) ?_ ?_
  rotate_left
  · show Act.put _ (some 12) _ = _
    simp only [Act.put, List.setIfInBounds_toArray, List.set_cons_zero, List.set_cons_succ, i64_w, i32_w]
    rfl
  refine one_ (i := 9) (N := some 14) #[true, true, true, true, true, true, true, true, true, true, false, false, false, false, false, false, false, false, false, false, false] rfl rfl (by kernel_rfl) (by decide) (fun K hK => ?_)
  refine goes_ Try.func84 (by kernel_rfl) rfl #[dkV A l.length c A' ops.length c'] (by rfl) rfl rfl (by (try simp only [List.map_toArray, List.map_cons, List.map_nil]); first | done | rfl) ?_
  refine (xView w4 T A c A' c' n l ops (HX.out _ HB4.out) HZ.out).mono ?_
  rintro e w5 ⟨⟨A5, c5, rfl, _, hC5⟩, hB5⟩
  have HC5 := Aside0.mk hC5
  have HC4' := Aside0.mk (Kd.C_below HC4.out hB5)
  have HB5 := Aside0.mk (below_then HB4.out HB4.out.size hB5)
  refine ⟨_, rfl, hK.out _ _ (HSS.out _ HB5.out) (fun hHeld => ?_)⟩
  clear hK K hC5 hB5
  refine norm_ (a' := ?_) ?_ ?_
  rotate_left
  · show Act.put _ (some 14) _ = _
    simp only [Act.put, List.setIfInBounds_toArray, List.set_cons_zero, List.set_cons_succ, i64_w, i32_w]
    rfl
  refine one_ (i := 10) (N := some 15) #[true, true, true, true, true, true, true, true, true, true, true, false, false, false, false, false, false, false, false, false, false] rfl rfl (by kernel_rfl) (by decide) (fun K hK => ?_)
  refine goes_ Try.func67 (by kernel_rfl) rfl #[.slice A4 (viewL l ops).length c4, .slice A5 (viewL l ops).length c5] (by rfl) rfl rfl (by (try simp only [List.map_toArray, List.map_cons, List.map_nil]); first | done | rfl) ?_
  refine (same_true A4 c4 A5 c5 (viewL l ops) w5 HC4'.out HC5.out).mono ?_
  rintro e w6 ⟨rfl, hd6⟩
  have HB6 := Aside0.mk (below_then HB5.out HB5.out.size (Drawn0.to_below hd6))
  refine ⟨_, rfl, hK.out _ _ (HSS.out _ HB6.out) (fun hHeld => ?_)⟩
  clear hK K hd6
  refine norm_ (a' := ?_) ?_ ?_
  rotate_left
  · show Act.put _ (some 15) _ = _
    simp only [Act.put, List.setIfInBounds_toArray, List.set_cons_zero, List.set_cons_succ, i64_w, i32_w]
    rfl
  refine pure_ (i := 11) (N := some 16) (v := ?_) (a' := ?_) #[true, true, true, true, true, true, true, true, true, true, true, true, false, false, false, false, false, false, false, false, false] rfl rfl (by kernel_rfl) (fun _ _ _ h => h) (Or.inl ⟨by rfl, ?_⟩) ?_ ?_
  rotate_left
  · intro w'
    go_simp
    with_reducible rfl
  rotate_left
  · simp only [Act.put, List.setIfInBounds_toArray, List.set_cons_zero, List.set_cons_succ, i64_w, i32_w]
    rfl
  refine pure_ (i := 12) (N := some 17) (v := ?_) (a' := ?_) #[true, true, true, true, true, true, true, true, true, true, true, true, true, false, false, false, false, false, false, false, false] rfl rfl (by kernel_rfl) (fun _ _ _ h => h) (Or.inl ⟨by rfl, ?_⟩) ?_ ?_
  rotate_left
  · intro w'
    go_simp
    with_reducible rfl
  rotate_left
  · simp only [Act.put, List.setIfInBounds_toArray, List.set_cons_zero, List.set_cons_succ, i64_w, i32_w]
    rfl
  refine pure_ (i := 13) (N := some 18) (v := ?_) (a' := ?_) #[true, true, true, true, true, true, true, true, true, true, true, true, true, true, false, false, false, false, false, false, false] rfl rfl (by kernel_rfl) (fun _ _ _ h => h) (Or.inl ⟨by rfl, ?_⟩) ?_ ?_
  rotate_left
  · intro w'
    go_simp
    with_reducible rfl
  rotate_left
  · simp only [Act.put, List.setIfInBounds_toArray, List.set_cons_zero, List.set_cons_succ, i64_w, i32_w]
    rfl
  refine pure_ (i := 15) (N := some 20) (v := ?_) (a' := ?_) #[true, true, true, true, true, true, true, true, true, true, true, true, true, true, false, true, false, false, false, false, false] rfl rfl (by kernel_rfl) (fun _ _ _ h => h) (Or.inl ⟨by rfl, ?_⟩) ?_ ?_
  rotate_left
  · intro w'
    go_simp
    with_reducible rfl
  rotate_left
  · simp only [Act.put, List.setIfInBounds_toArray, List.set_cons_zero, List.set_cons_succ, i64_w, i32_w]
    rfl
  refine take_ (i := 16) (N := some 21) (v := ?_) (a' := ?_) #[true, true, true, true, true, true, true, true, true, true, true, true, true, true, false, true, true, false, false, false, false] rfl rfl (by kernel_rfl) (fun _ _ _ h => h) (Or.inl ⟨by rfl, ?_⟩) hHeld ?_ ?_
  rotate_left
  · rintro w' ⟨s0, s1⟩
    go_simp
    with_reducible rfl
  rotate_left
  · simp only [Act.put, List.setIfInBounds_toArray, List.set_cons_zero, List.set_cons_succ, i64_w, i32_w]
    rfl
  refine pure_ (i := 17) (N := some 22) (v := ?_) (a' := ?_) #[true, true, true, true, true, true, true, true, true, true, true, true, true, true, false, true, true, true, false, false, false] rfl rfl (by kernel_rfl) (fun _ _ _ h => h) (Or.inl ⟨by rfl, ?_⟩) ?_ ?_
  rotate_left
  · intro w'
    go_simp
    with_reducible rfl
  rotate_left
  · simp only [Act.put, List.setIfInBounds_toArray, List.set_cons_zero, List.set_cons_succ, i64_w, i32_w]
    rfl
  refine one_ (i := 14) (N := some 19) #[true, true, true, true, true, true, true, true, true, true, true, true, true, true, true, true, true, true, false, false, false] rfl rfl (by kernel_rfl) (by decide) (fun K hK => ?_)
  refine goes_ Try.func54 (by kernel_rfl) rfl #[.pointer (some ⟨g, 0, none⟩)] (by rfl) rfl rfl (by (try simp only [List.map_toArray, List.map_cons, List.map_nil]); first | done | rfl) ?_
  refine (sPending w6 S g n l ops (HD.out _ HB6.out)).mono ?_
  rintro e w7 ⟨rfl, rfl⟩
  refine ⟨_, rfl, hK.out _ _ (HSS.out _ HB6.out) (fun hHeld => ?_)⟩
  clear hK K
  refine norm_ (a' := ?_) ?_ ?_
  rotate_left
  · show Act.put _ (some 19) _ = _
    simp only [Act.put, List.setIfInBounds_toArray, List.set_cons_zero, List.set_cons_succ, i64_w, i32_w]
    rfl
  refine pure_ (i := 18) (N := some 23) (v := ?_) (a' := ?_) #[true, true, true, true, true, true, true, true, true, true, true, true, true, true, true, true, true, true, true, false, false] rfl rfl (by kernel_rfl) (fun _ _ _ h => h) (Or.inl ⟨by rfl, ?_⟩) ?_ ?_
  rotate_left
  · intro w'
    go_simp
    with_reducible rfl
  rotate_left
  · simp only [Act.put, List.setIfInBounds_toArray, List.set_cons_zero, List.set_cons_succ, i64_w, i32_w]
    rfl
  refine pure_ (i := 19) (N := some 24) (v := ?_) (a' := ?_) #[true, true, true, true, true, true, true, true, true, true, true, true, true, true, true, true, true, true, true, true, false] rfl rfl (by kernel_rfl) (fun _ _ _ h => h) (Or.inl ⟨by rfl, ?_⟩) ?_ ?_
  rotate_left
  · intro w'
    go_simp
    with_reducible rfl
  rotate_left
  · simp only [Act.put, List.setIfInBounds_toArray, List.set_cons_zero, List.set_cons_succ, i64_w, i32_w]
    rfl
  refine pure_ (i := 20) (N := some 4) (v := ?_) (a' := ?_) #[true, true, true, true, true, true, true, true, true, true, true, true, true, true, true, true, true, true, true, true, true] rfl rfl (by kernel_rfl) (fun _ _ _ h => h) (Or.inl ⟨by rfl, ?_⟩) ?_ ?_
  rotate_left
  · intro w'
    go_simp
    with_reducible rfl
  rotate_left
  · simp only [Act.put, List.setIfInBounds_toArray, List.set_cons_zero, List.set_cons_succ, i64_w, i32_w]
    rfl
  refine done_ (by kernel_rfl) ?_
  go_wp2
  go_ret
  exact ⟨rfl, below_then HW.out HW.out.size HB6.out⟩
set_option maxHeartbeats 2000000 in
set_option maxRecDepth 100000 in
theorem largeW_calls (A : Option Addr) (c : Nat) (l : List S109) (A' : Option Addr) (c' : Nat) (ops : List S71) (w : World) (hC : CF w A l) (hC' : CQ w A' ops) (h1 : ∀ f ∈ l, f.f1.length ≤ 140737488351232) (h2 : ∀ f ∈ ops, f.f1.length ≤ 140737488351232) :
    Calls Try.prog 39 #[.slice A l.length c, .slice A' ops.length c'] w fun e w' => e = .returned (.bool (bigW l ops)) ∧ Below w.heap.size w w' := by
  have hm := Kd.C_max hC
  have hm' := Kd.C_max hC'
  have HC := Aside0.mk hC
  have HC' := Aside0.mk hC'
  have H1 := Aside0.mk h1
  have H2 := Aside0.mk h2
  have hu109 := Try.underlying109
  have hu71 := Try.underlying71
  clear hC hC' h1 h2
  go_enter Try.func39, Try.ntmps39
  go_wp2
  go_loopw [5, 12] (fun n i wr => ∃ (x : Int) (k : Nat), k ≤ l.length ∧ n = .int .i64 x ∧ i = .int .i64 k ∧ Aside0 (l.length ≤ 20 → x = ((byF (l.take k) : Nat) : Int)) ∧ Aside0 (Below w.heap.size w wr)) (fun _ i _ => l.length - (intOf i).toNat)
  case atStart => exact ⟨0, 0, by omega, rfl, rfl, ⟨fun _ => by simp [byF]⟩, ⟨Below.refl _ _⟩⟩
  case round =>
    obtain ⟨x, k, hk, rfl, rfl, HX, HW⟩ := hrel
    obtain ⟨wo, hwo⟩ : ∃ wo : World, wo = wr := ⟨_, rfl⟩
    subst hwo
    by_cases hlt : k < l.length
    · obtain ⟨ad, B, d, rfl, hc0, hc1, hd, hCB⟩ := CF.at_ (Kd.C_below HC.out HW.out) k hlt
      have hsz := H1.out l[k] (List.getElem_mem hlt)
      have hts := byF_take_succ hlt
      have hbd := byF_bound (l := l.take k) (m := 140737488351232) (fun f hf => H1.out f (List.mem_of_mem_take hf))
      rw [List.length_take] at hbd
      obtain ⟨f, hf⟩ : ∃ f, f = l[k] := ⟨_, rfl⟩
      rw [← hf] at hc0 hc1 hsz hts
      have HT := Aside0.mk hts
      clear hf hCB hd hts
      have HX2 := Aside0.mk (show l.length ≤ 20 → wrap64 (x + (f.f1.length : Int)) = ((byF (l.take (k + 1)) : Nat) : Int) by
        intro h40
        have e := HX.out h40
        have hk40 : min k l.length * 140737488351232 ≤ 20 * 140737488351232 := Nat.mul_le_mul_right _ (by omega)
        rw [HT.out, e]
        unfold wrap64
        omega)
      clear hbd
      go_wp2
      go_roundw
      case rel => exact ⟨_, k + 1, by omega, rfl, by go_num, HX2, ⟨below_alloc HW.out _⟩⟩
      case measure => simp [intOf]; omega
    · obtain rfl : k = l.length := by omega
      rw [List.take_length] at HX
      go_wp2
      go_loopw [5, 24] (fun n i wr => ∃ (x : Int) (k : Nat), k ≤ ops.length ∧ n = .int .i64 x ∧ i = .int .i64 k ∧ Aside0 (l.length ≤ 20 → ops.length ≤ 40 → x = ((byF l + byQ (ops.take k) : Nat) : Int)) ∧ Aside0 (Below w.heap.size w wr)) (fun _ i _ => ops.length - (intOf i).toNat)
      case atStart => exact ⟨x, 0, by omega, rfl, rfl, ⟨fun h _ => by rw [HX.out h]; simp [byQ]⟩, HW⟩
      case round =>
        obtain ⟨x2, k2, hk2, rfl, rfl, HX2, HW2⟩ := hrel
        by_cases hlt2 : k2 < ops.length
        · obtain ⟨ad, B, d, rfl, hc0, hc1, hc2, hc3, hd, hCB⟩ := CQ.at_ (Kd.C_below HC'.out HW2.out) k2 hlt2
          have hsz := H2.out ops[k2] (List.getElem_mem hlt2)
          have hts := byQ_take_succ hlt2
          have hbd := byQ_bound (l := ops.take k2) (m := 140737488351232) (fun f hf => H2.out f (List.mem_of_mem_take hf))
          have hbf := byF_bound (l := l) (m := 140737488351232) H1.out
          rw [List.length_take] at hbd
          obtain ⟨f, hf⟩ : ∃ f, f = ops[k2] := ⟨_, rfl⟩
          rw [← hf] at hc0 hc1 hc2 hc3 hsz hts
          have HT := Aside0.mk hts
          clear hf hCB hd hts
          have HX3 := Aside0.mk (show l.length ≤ 20 → ops.length ≤ 40 → wrap64 (x2 + (f.f1.length : Int)) = ((byF l + byQ (ops.take (k2 + 1)) : Nat) : Int) by
            intro h40 h60
            have e := HX2.out h40 h60
            have b1 : min k2 ops.length * 140737488351232 ≤ 40 * 140737488351232 := Nat.mul_le_mul_right _ (by omega)
            have b2 : l.length * 140737488351232 ≤ 20 * 140737488351232 := Nat.mul_le_mul_right _ h40
            rw [HT.out, e]
            unfold wrap64
            omega)
          clear hbd hbf
          go_wp2
          go_roundw
          case rel => exact ⟨_, k2 + 1, by omega, rfl, by go_num, HX3, ⟨below_alloc HW2.out _⟩⟩
          case measure => simp [intOf]; omega
        · obtain rfl : k2 = ops.length := by omega
          rw [List.take_length] at HX2
          have HR := Aside0.mk (show bigW l ops = (decide (20 < l.length) || decide (40 < ops.length) || decide (2000 < x2)) by
            unfold bigW
            by_cases h40 : l.length ≤ 20
            · by_cases h60 : ops.length ≤ 40
              · rw [HX2.out h40 h60, decide_eq_false (show ¬ 20 < l.length by omega), decide_eq_false (show ¬ 40 < ops.length by omega)]
                simp only [Bool.false_or]
                exact decide_eq_decide.2 (by omega)
              · rw [decide_eq_true (show 40 < ops.length by omega)]; simp
            · rw [decide_eq_true (show 20 < l.length by omega)]; simp)
          by_cases h40 : 20 < l.length
          · go_wp2
            go_ret
            exact ⟨by rw [HR.out, decide_eq_true h40]; rfl, HW2.out⟩
          · by_cases h60 : 40 < ops.length
            · go_wp2
              go_ret
              exact ⟨by rw [HR.out, decide_eq_true h60]; simp, HW2.out⟩
            · go_wp2
              go_ret
              exact ⟨by rw [HR.out, decide_eq_false h40, decide_eq_false h60]; simp; omega, HW2.out⟩
section
variable (w : World) (T : Nat → Prop) (A : Option Addr) (c : Nat) (A' : Option Addr) (c' n : Nat) (l : List S109) (ops : List S123) (nm : ByteArray) (h : XSt w T (.slice A l.length c) (.slice A' ops.length c') l ops) (hz : Sz l ops n)
include h hz
set_option maxHeartbeats 2000000 in
set_option maxRecDepth 100000 in
theorem xsize_calls : Calls Try.prog 52 #[dkV A l.length c A' ops.length c', .agg #[.string nm]] w fun e w' => e = .returned (.int .i64 ((contL l ops nm).length : Int)) ∧ Below w.heap.size w w' := by
  obtain ⟨wb, hwb⟩ : ∃ wb, wb = (w.alloc (.cells #[.slice A l.length c, .slice A' ops.length c'] 53)).alloc (.cells #[.string nm] 58) := ⟨_, rfl⟩
  have hW : Below w.heap.size w wb := by rw [hwb]; exact below_alloc (below_alloc (Below.refl _ _) _) _
  have HR := Aside0.mk (xRead wb T A c A' c' n l ops (h.move hW) hz nm)
  have HW := Aside0.mk hW
  have HWB := Aside0.mk hwb
  have hu53 := Try.underlying53
  have hu58 := Try.underlying58
  have HCo := Aside0.mk (show contL l ops nm = (findL (viewL l ops) nm).getD [] from rfl)
  clear h hz hW hwb
  go_enter Try.func52, Try.ntmps52
  go_wp2_with fail
  rw [← HWB.out]
  refine HR.out.mono ?_
  rintro e w2 ⟨⟨v2, rfl, hr2⟩, hB2⟩
  rw [← HCo.out] at hr2
  obtain ⟨B2, d2, rfl⟩ := Kd.R_slice hr2
  have HB2 := Aside0.mk (below_then HW.out HW.out.size hB2)
  clear hr2 hB2 HR
  go_wp2_with fail
  go_ret
  exact ⟨rfl, HB2.out⟩
set_option maxHeartbeats 2000000 in
set_option maxRecDepth 100000 in
theorem xlen_calls (hby : Byt (contL l ops nm)) : Calls Try.prog 51 #[dkV A l.length c A' ops.length c', .agg #[.string nm]] w fun e w' => e = .returned (.int .i64 ((recsL l ops nm).length : Int)) ∧ Below w.heap.size w w' := by
  obtain ⟨wb, hwb⟩ : ∃ wb, wb = (w.alloc (.cells #[.slice A l.length c, .slice A' ops.length c'] 53)).alloc (.cells #[.string nm] 58) := ⟨_, rfl⟩
  have hW : Below w.heap.size w wb := by rw [hwb]; exact below_alloc (below_alloc (Below.refl _ _) _) _
  have HR := Aside0.mk (xRead wb T A c A' c' n l ops (h.move hW) hz nm)
  have HW := Aside0.mk hW
  have HWB := Aside0.mk hwb
  have hu53 := Try.underlying53
  have hu58 := Try.underlying58
  have HCo := Aside0.mk (show contL l ops nm = (findL (viewL l ops) nm).getD [] from rfl)
  have hcl := cont_le l ops nm
  have hcl2 : (contL l ops nm).length ≤ 1099511627776 := by have := hz.2.2; omega
  have HBy := Aside0.mk hby
  obtain ⟨⟨R, en⟩, hp⟩ : ∃ p, scanL (contL l ops nm) = p := ⟨_, rfl⟩
  have HRe := Aside0.mk (show recsL l ops nm = R by unfold recsL; rw [hp])
  have HSc := Aside0.mk hp
  rw [HRe.out]
  clear h hz hW hwb hp hby hcl HRe
  go_enter Try.func51, Try.ntmps51
  go_wp2_with fail
  rw [← HWB.out]
  refine HR.out.mono ?_
  rintro e w2 ⟨⟨v2, rfl, hr2⟩, hB2⟩
  rw [← HCo.out] at hr2
  obtain ⟨B2, d2, rfl⟩ := Kd.R_slice hr2
  have HB2 := Aside0.mk (below_then HW.out HW.out.size hB2)
  have HC2 := Aside0.mk (Kd.R_reads' hr2).2.2
  have hd2 := (Kd.R_reads' hr2).2.1
  clear hr2 hB2 HR
  go_wp2_with fail
  refine (calls_scan (rScan_calls B2 d2 (contL l ops nm) w2 HC2.out hd2 HBy.out hcl2) HSc.out).mono ?_
  rintro e w3 ⟨v3, rfl, hr3, hB3⟩
  obtain ⟨A3, c3, rfl⟩ := Kd.R_slice hr3
  have HB3 := Aside0.mk (below_then HB2.out HB2.out.size hB3)
  clear hr3 hB3
  go_wp2_with fail
  go_ret
  exact ⟨rfl, HB3.out⟩
set_option maxHeartbeats 2000000 in
set_option maxRecDepth 100000 in
theorem xappend_calls (B : Option Addr) (d : Nat) (y : List Int) (hC : CB w B y) (hd : y.length ≤ d) (hy : Byt y) (hyl : y.length ≤ 1048576) (hm : nm.size ≤ maxLen) :
    Calls Try.prog 47 #[dkV A l.length c A' ops.length c', .agg #[.string nm], .slice B y.length d] w fun e w' => ∃ T' u v, e = .returned (.tuple #[.agg #[u, v], .int .i64 (appendL ops nm (frameL y)).2]) ∧ XSt w' T' u v l (appendL ops nm (frameL y)).1 ∧ (∀ k, T' k → T k ∨ w.heap.size ≤ k) ∧ Below w.heap.size w w' := by
  obtain ⟨wb, hwb⟩ : ∃ wb, wb = ((w.alloc (.cells #[.slice A l.length c, .slice A' ops.length c'] 53)).alloc (.cells #[.string nm] 58)).alloc dk2 := ⟨_, rfl⟩
  have hW : Below w.heap.size w wb := by rw [hwb]; exact below_alloc (below_alloc (below_alloc (Below.refl _ _) _) _) _
  have hsz : wb.heap.size = w.heap.size + 1 + 1 + 1 := by rw [hwb, alloc_size, alloc_size, alloc_size]
  have hb2 : wb.heap[w.heap.size + 1 + 1]? = some dk2 := by
    have := blk_new ((w.alloc (.cells #[.slice A l.length c, .slice A' ops.length c'] 53)).alloc (.cells #[.string nm] 58)) dk2
    rw [alloc_size, alloc_size] at this
    rw [hwb]; exact this
  have hb1 : wb.heap[w.heap.size + 1]? = some (.cells #[.string nm] 58 (0, 0)) := by
    have := blk_new (w.alloc (.cells #[.slice A l.length c, .slice A' ops.length c'] 53)) (.cells #[.string nm] 58)
    rw [alloc_size] at this
    rw [hwb]
    exact (Below.heap_alloc _ _ _ (by rw [alloc_size, alloc_size]; omega)).trans this
  have hb0 : wb.heap[w.heap.size]? = some (.cells #[.slice A l.length c, .slice A' ops.length c'] 53 (0, 0)) := by
    have := blk_new w (.cells #[.slice A l.length c, .slice A' ops.length c'] 53)
    rw [hwb]
    exact (Below.heap_alloc _ _ _ (by rw [alloc_size, alloc_size]; omega)).trans ((Below.heap_alloc _ _ _ (by rw [alloc_size]; omega)).trans this)
  have HX := Aside0.mk (fun (W : World) (hB : Below wb.heap.size wb W) => (h.move hW).move hB)
  have HK := Aside0.mk (fun (W : World) (hB : Below wb.heap.size wb W) => (⟨(hB.block _ (blk_lt hb0)).trans hb0, (hB.block _ (blk_lt hb1)).trans hb1, (hB.block _ (blk_lt hb2)).trans hb2⟩ : W.heap[w.heap.size]? = some (.cells #[.slice A l.length c, .slice A' ops.length c'] 53 (0, 0)) ∧ W.heap[w.heap.size + 1]? = some (.cells #[.string nm] 58 (0, 0)) ∧ W.heap[w.heap.size + 1 + 1]? = some dk2))
  have HA := Aside0.mk (rAppend_ok none 0 [] B d y wb (Kd.C_nil _ _) (by simp) (Kd.C_below hC hW) hd hy hyl (by simp))
  have HT := Aside0.mk h.lt
  have HZ := Aside0.mk hz
  have HW := Aside0.mk hW
  have HWB := Aside0.mk hwb
  have HSZ := Aside0.mk hsz
  have hlt0 := blk_lt hb0
  have hlt1 := blk_lt hb1
  have hlt2 := blk_lt hb2
  have hu53 := Try.underlying53
  have hu58 := Try.underlying58
  have hfl := frameL_length y
  have HFL := Aside0.mk hfl
  clear h hz hW hwb hsz hb0 hb1 hb2 hC hy hfl
  go_enter Try.func47, Try.ntmps47
  go_wp2_with fail
  rw [← HWB.out]
  refine HA.out.mono ?_
  rintro e w1 ⟨v1, rfl, hr1, hB1⟩
  rw [List.nil_append] at hr1
  obtain ⟨A1, c1, rfl⟩ := Kd.R_slice hr1
  have hk := HK.out _ hB1
  have hz0 : w1.cell? ⟨w.heap.size, 0, none⟩ = some (.slice A l.length c) := (blk_cell hk.1 0).trans rfl
  have hz1 : w1.cell? ⟨w.heap.size, 1, none⟩ = some (.slice A' ops.length c') := (blk_cell hk.1 1).trans rfl
  have hz2 : w1.cell? ⟨w.heap.size + 1, 0, none⟩ = some (.string nm) := (blk_cell hk.2.1 0).trans rfl
  have HC1 := Aside0.mk (Kd.R_reads' hr1).2.2
  have hd1 := (Kd.R_reads' hr1).2.1
  have HB1 := Aside0.mk hB1
  clear hr1 hB1 HA hk
  go_wp2_with fail
  refine (xAppend w1 T A c A' c' n l ops (HX.out w1 HB1.out) HZ.out nm A1 c1 (frameL y) hm hd1 HC1.out (by have := HFL.out; omega)).mono ?_
  rintro e w2 ⟨u, v, rfl, hx2, hB2⟩
  obtain ⟨A2, c2, A3, c3, rfl, rfl⟩ := hx2.slices
  have HB2 := Aside0.mk (below_then HB1.out HB1.out.size hB2)
  have hk := HK.out _ HB2.out
  have hy0 : w2.cell? ⟨w.heap.size + 1 + 1, 0, none⟩ = some (.slice none 0 0) := (blk_cell hk.2.2 0).trans rfl
  have hy1 : w2.cell? ⟨w.heap.size + 1 + 1, 1, none⟩ = some (.slice none 0 0) := (blk_cell hk.2.2 1).trans rfl
  have hf0 := blk_frozen hk.2.2 0
  have hf1 := blk_frozen hk.2.2 1
  have HKK := Aside0.mk hk
  have HX2 := Aside0.mk hx2
  clear hx2 hB2 hk hz0 hz1 hz2
  go_wp2_with fail
  refine bodyPost_ret (results_ct rfl _ _ (w.heap.size + 1 + 1) 53 #[.slice A2 l.length c2, .slice A3 (appendL ops nm (frameL y)).1.length c3] (0, 0) _ rfl (blk_put2 HKK.out.2.2 _ _) Try.underlying53 rfl (by kernel_rfl)) rfl ?_
  refine ⟨ext T w1 w2, _, _, rfl, HX2.out.off (wr_set2 w2 (w.heap.size + 1 + 1) _ _) (fun k hk e => ?_), fun k hk => ?_, below_set (below_set (below_then HW.out HW.out.size HB2.out) (by omega)) (by omega)⟩
  · have e' : k = w.heap.size + 1 + 1 := e
    rcases hk.1 with h | h
    · have := HT.out k h; omega
    · have := HB1.out.size; have := HSZ.out; omega
  · rcases hk.1 with h | h
    · exact .inl h
    · have := HB1.out.size; have := HSZ.out; exact .inr (by omega)
end
end Go.Proofs.Ytfaniohoplbdoaa.My
/- The chapter's examples ('works' of the statements on logs). -/
namespace Go.Proofs.Ytfaniohoplbdoaa.My
open Go Go.RowKit Go.Proofs.YtfaniohoplbdoaaW.PrintWords Go.Proofs.YtfaniohoplbdoaaW.PrintLast Go.Proofs.YtfaniohoplbdoaaW.PrintMore Go.Proofs.Ytfaniohoplbdoaa.PDiskActs
set_option linter.unusedVariables false
set_option linter.unusedSimpArgs false
abbrev nF : ByteArray := ⟨#[102, 48, 48, 48, 48, 48, 49]⟩
abbrev fF (b : List Int) : List S109 := [⟨nF, b⟩]
abbrev oF (b : List Int) : S123 := ⟨0, nF, n0, b⟩
theorem nameF : nameOk nF = true := by decide +kernel
theorem fx1 (ops : List S123) (b : List Int) : appendL ops nF b = (ops ++ [oF b], 0) := by unfold appendL; rw [nameF]; rfl
theorem fx2 (a b : List Int) : viewL [] [oF a, oF b] = fF (a ++ b) := by simp [viewL, carryL, findL, withL, withoutL, insL]
theorem fx3 (a b : List Int) (k : Nat) : crashL (fF a) [oF b] 0 k = if 0 < k then fF (a ++ b.take k) else fF a := by
  have : keepN 0 ([oF b] : List S123).length = 0 := by show keepN 0 1 = 0; decide
  unfold crashL
  rw [dif_pos (by rw [this]; simp)]
  simp only [this]
  by_cases hk : 0 < k
  · rw [if_pos ⟨by omega, rfl⟩, if_pos hk]
    simp [viewL, carryL, findL, withL, withoutL, insL, tornL, mn]
    by_cases h : b.length < k
    · rw [if_pos (by omega)]
      simp
      omega
    · rw [if_neg (by omega)]
      simp
  · rw [if_neg (by omega), if_neg hk]
    rfl
theorem fx4 (a : List Int) : contL (fF a) [] nF = a := by simp [contL, viewL, findL]
theorem fx5 : contL [] [] nF = [] := by simp [contL, viewL, findL]
theorem open_empty : openL [] [] 0 nF = ([], [], 0) ∧ recsL [] [] nF = [] := by
  unfold openL recsL
  rw [fx5, scanL_short (by simp)]
  exact ⟨rfl, rfl⟩
theorem open_torn (R : List (List Int)) (t : List Int) (ht : t.length < 8) (hR : ∀ b ∈ R, b.length ≤ 1048576) : recsL (fF (framesL R ++ t)) [] nF = R := by
  unfold recsL
  rw [fx4, scanL_frames R t hR, scanL_short ht]
  simp
theorem wopen_ops (l : List S109) (ops : List S123) (n : Nat) (nm : ByteArray) : (openL l ops n nm).2.1 = [] ∨ (openL l ops n nm).2.1 = ops := by
  unfold openL
  split
  · exact .inl rfl
  · exact .inr rfl
theorem ab_byt : Byt ([97, 98] : List Int) := by intro x hx; simp at hx; omega
theorem c_byt : Byt ([99] : List Int) := by intro x hx; simp at hx; omega
theorem CL_two {w : World} {b : Nat} {x y : List Int} {A A' : Option Addr} {c c' : Nat} (hb : w.heap[b]? = some (.cells #[.slice A x.length c, .slice A' y.length c'] 22 (0, 0))) (hc : x.length ≤ c) (hc' : y.length ≤ c') (hC : CB w A x) (hC' : CB w A' y) : CL w (some ⟨b, 0, none⟩) [x, y] := by
  refine ⟨rfl, by simp, fun _ => ⟨_, rfl, fun j p hj => ?_⟩⟩
  rcases j with _ | _ | j
  · simp at hj
    subst hj
    refine ⟨_, rfl, ⟨A, c, rfl, hc, hC⟩, fun i v hi => ?_⟩
    rcases i with _ | i
    · simp at hi
      subst hi
      exact (blk_cell hb 0).trans rfl
    · simp at hi
  · simp at hj
    subst hj
    refine ⟨_, rfl, ⟨A', c', rfl, hc', hC'⟩, fun i v hi => ?_⟩
    rcases i with _ | i
    · simp at hi
      subst hi
      exact (blk_cell hb 1).trans rfl
    · simp at hi
  · simp at hj
set_option maxHeartbeats 4000000 in
set_option maxRecDepth 100000 in
theorem works_wal (w : World) : Calls Try.prog 40 #[] w (TruePost w) := by
  have kc := fun (w : World) (C : Array Value) (n c : Nat) => Lib.run_convert_bytes_const (P := Try.prog) w 22 5 C n c Try.underlying22 Try.underlying5
  have kc1 := fun (w : World) (o : Obj) (C : Array Value) (n c : Nat) => Lib.run_convert_bytes_const (P := Try.prog) (w.alloc o) 22 5 C n c Try.underlying22 Try.underlying5
  simp only [World.size_alloc] at kc1
  have hFm : nF.size ≤ maxLen := by decide
  go_enter Try.func40, Try.ntmps40
  go_wp2_with fail
  refine (sNew w).mono ?_
  rintro e w1 ⟨g, rfl, hD1, hB1⟩
  have HD1 := Aside0.mk hD1
  have HB1 := Aside0.mk hB1
  obtain ⟨S1, hS1⟩ : ∃ S1, S1 = ext (fun _ => False) w w1 := ⟨_, rfl⟩
  have HS1 := Aside0.mk (show ∀ k, S1 k → w.heap.size ≤ k by rw [hS1]; intro k hk; exact hk.1.elim (fun h => h.elim) id)
  rw [← hS1] at HD1
  clear hD1 hB1 hS1
  go_wp2_with fail
  refine (wopen_calls w1 S1 g 0 [] [] nF HD1.out ⟨by decide, by decide, by decide⟩ hFm nameF (by rw [fx5]; exact Byt.nil)).mono ?_
  rw [open_empty.1, open_empty.2]
  rintro e w2 ⟨S2, lg, A2, c2, rfl, hD2, hC2, ⟨hL2, hlg, hnS⟩, hc2, _⟩
  have HD2 := Aside0.mk hD2
  have HL2 := Aside0.mk hL2
  have HN2 := Aside0.mk hnS
  have HB2 := Aside0.mk (wr_below HB1.out HB1.out.size HS1.out hC2.wr)
  have HS2 := Aside0.mk (show ∀ k, S2 k → w.heap.size ≤ k from fun k hk => (hC2.ex k hk).elim (fun h => HS1.out k h) (fun h => Nat.le_trans HB1.out.size h))
  have HLg := Aside0.mk (show w.heap.size ≤ lg from Nat.le_trans HB1.out.size hlg)
  clear hD2 hC2 hL2 hlg hnS HD1 HB1 HS1
  go_wp2_with fail
  refine (wappend_calls (w2.alloc (Obj.cells #[.int .u8 97, .int .u8 98] 5 (2, 3))) S2 lg 0 0 g 0 nF [] [] (some ⟨w2.heap.size, 0, none⟩) 2 [97, 98] (HD2.out.move (below_alloc (Below.refl _ _) _)) (by refine ⟨by simp, by simp, ?_⟩; first | (simp [byF, byO, frameL_length]; done) | (have h1 := HFr.out; simp [byF, byO, frameL_length]; omega)) (blk_alloc HL2.out _) HN2.out (CB_of_row (l := [97, 98]) (heap_alloc_new w2 _) (by decide)) (by decide) ab_byt (by decide) hFm (by decide) (by decide)).mono ?_
  rw [fx1]
  rintro e w3 ⟨S3, rfl, hD3, hL3, hs3, hW3, hn3⟩
  have HD3 := Aside0.mk (show DSt w3 S3 g [] [oF (frameL [97, 98])] 0 from hD3)
  have HL3 := Aside0.mk (show w3.heap[lg]? = some (.cells (logC 1 10 g nF) 105 (0, 0)) from hL3)
  have HN3 := Aside0.mk hn3
  have HB3 := Aside0.mk (wr_below (below_alloc' HB2.out (Obj.cells #[.int .u8 97, .int .u8 98] 5 (2, 3)) HB2.out.size) (by rw [alloc_size]; have := HB2.out.size; omega) (fun k hk => hk.elim (fun h => HS2.out k h) (fun h => by rw [h]; exact HLg.out)) hW3)
  have HS3 := Aside0.mk (show ∀ k, S3 k → w.heap.size ≤ k from fun k hk => (hs3 k hk).elim (fun h => HS2.out k h) (fun h => by rw [alloc_size] at h; have := HB2.out.size; omega))
  clear hD3 hL3 hs3 hW3 hn3 HD2 HL2 HN2 HB2 HS2
  go_wp2_with fail
  refine (wappend_calls (w3.alloc (Obj.cells #[.int .u8 99] 5 (1, 2))) S3 lg 1 10 g 0 nF [] [oF (frameL [97, 98])] (some ⟨w3.heap.size, 0, none⟩) 1 [99] (HD3.out.move (below_alloc (Below.refl _ _) _)) (by refine ⟨by simp, by simp, ?_⟩; first | (simp [byF, byO, frameL_length]; done) | (have h1 := HFr.out; simp [byF, byO, frameL_length]; omega)) (blk_alloc HL3.out _) HN3.out (CB_of_row (l := [99]) (heap_alloc_new w3 _) (by decide)) (by decide) c_byt (by decide) hFm (by decide) (by decide)).mono ?_
  rw [fx1]
  rintro e w4 ⟨S4, rfl, hD4, hL4, hs4, hW4, hn4⟩
  have HD4 := Aside0.mk (show DSt w4 S4 g [] [oF (frameL [97, 98]), oF (frameL [99])] 0 from hD4)
  have HL4 := Aside0.mk (show w4.heap[lg]? = some (.cells (logC 2 19 g nF) 105 (0, 0)) from hL4)
  have HN4 := Aside0.mk hn4
  have HB4 := Aside0.mk (wr_below (below_alloc' HB3.out (Obj.cells #[.int .u8 99] 5 (1, 2)) HB3.out.size) (by rw [alloc_size]; have := HB3.out.size; omega) (fun k hk => hk.elim (fun h => HS3.out k h) (fun h => by rw [h]; exact HLg.out)) hW4)
  have HS4 := Aside0.mk (show ∀ k, S4 k → w.heap.size ≤ k from fun k hk => (hs4 k hk).elim (fun h => HS3.out k h) (fun h => by rw [alloc_size] at h; have := HB3.out.size; omega))
  clear hD4 hL4 hs4 hW4 hn4 HD3 HL3 HN3 HB3 HS3
  go_wp2_with fail
  refine (lsync_calls w4 lg 2 19 g nF HL4.out S4 0 [] [oF (frameL [97, 98]), oF (frameL [99])] HD4.out (by refine ⟨by simp, by simp, ?_⟩; first | (simp [byF, byO, frameL_length]; done) | (have h1 := HFr.out; simp [byF, byO, frameL_length]; omega))).mono ?_
  rw [fx2, show frameL [97, 98] ++ frameL [99] = framesL [[97, 98], [99]] from by simp [framesL]]
  rintro e w5 ⟨rfl, hD5, hW5⟩
  have HFr := Aside0.mk (show (framesL [[97, 98], [99]]).length = 19 from by simp [framesL, frameL_length])
  have HBt := Aside0.mk (show Byt (framesL [[97, 98], [99]]) from by rw [framesL_cons, framesL_cons]; exact (frameL_byt ab_byt).append ((frameL_byt c_byt).append Byt.nil))
  obtain ⟨F2, hF2⟩ : ∃ F2, F2 = framesL [[97, 98], [99]] := ⟨_, rfl⟩
  have HF2 := Aside0.mk hF2
  rw [← hF2] at hD5 HFr HBt
  have HD5 := Aside0.mk (show DSt w5 (ext S4 w4 w5) g (fF F2) [] 2 from hD5)
  have HL5 := Aside0.mk ((hW5.2.2.2.2 _ (blk_lt HL4.out) HN4.out).trans HL4.out)
  have HN5 := Aside0.mk (show ¬ ext S4 w4 w5 lg from fun h => h.1.elim HN4.out (fun h => by have := blk_lt HL4.out; omega))
  have HB5 := Aside0.mk (wr_below HB4.out HB4.out.size HS4.out hW5)
  have HS5 := Aside0.mk (show ∀ k, ext S4 w4 w5 k → w.heap.size ≤ k from fun k hk => hk.1.elim (fun h => HS4.out k h) (fun h => Nat.le_trans HB4.out.size h))
  obtain ⟨S5, hS5⟩ : ∃ S5, S5 = ext S4 w4 w5 := ⟨_, rfl⟩
  rw [← hS5] at HD5 HN5 HS5
  clear hD5 hW5 hF2 hS5 HD4 HL4 HN4 HB4 HS4
  go_wp2_with fail
  refine (llen_calls w5 lg 2 19 g nF HL5.out).mono ?_
  rintro e w6 ⟨rfl, h6⟩
  rw [h6]
  clear h6 w6
  go_wp2_with fail
  refine (lsize_calls w5 lg 2 19 g nF HL5.out).mono ?_
  rintro e w6 ⟨rfl, h6⟩
  rw [h6]
  clear h6 w6
  go_wp2_with fail
  refine (lname_calls w5 lg 2 19 g nF HL5.out).mono ?_
  rintro e w6 ⟨rfl, h6⟩
  rw [h6]
  clear h6 w6
  go_wp2_with fail
  refine (wappend_calls (w5.alloc (Obj.cells #[.int .u8 97, .int .u8 98, .int .u8 99] 5 (3, 4))) S5 lg 2 19 g 2 nF (fF F2) [] (some ⟨w5.heap.size, 0, none⟩) 3 [97, 98, 99] (HD5.out.move (below_alloc (Below.refl _ _) _)) (by refine ⟨by simp, by simp, ?_⟩; first | (simp [byF, byO, frameL_length]; done) | (have h1 := HFr.out; simp [byF, byO, frameL_length]; omega)) (blk_alloc HL5.out _) HN5.out (CB_of_row (l := [97, 98, 99]) (heap_alloc_new w5 _) (by decide)) (by decide) abc_bytes (by decide) hFm (by decide) (by decide)).mono ?_
  rw [fx1]
  rintro e w6 ⟨S6, rfl, hD6, hL6, hs6, hW6, hn6⟩
  have HD6 := Aside0.mk (show DSt w6 S6 g (fF F2) [oF (frameL [97, 98, 99])] 2 from hD6)
  have HL6 := Aside0.mk (show w6.heap[lg]? = some (.cells (logC 3 30 g nF) 105 (0, 0)) from hL6)
  have HN6 := Aside0.mk hn6
  have HB6 := Aside0.mk (wr_below (below_alloc' HB5.out (Obj.cells #[.int .u8 97, .int .u8 98, .int .u8 99] 5 (3, 4)) HB5.out.size) (by rw [alloc_size]; have := HB5.out.size; omega) (fun k hk => hk.elim (fun h => HS5.out k h) (fun h => by rw [h]; exact HLg.out)) hW6)
  have HS6 := Aside0.mk (show ∀ k, S6 k → w.heap.size ≤ k from fun k hk => (hs6 k hk).elim (fun h => HS5.out k h) (fun h => by rw [alloc_size] at h; have := HB5.out.size; omega))
  clear hD6 hL6 hs6 hW6 hn6 HD5 HL5 HN5 HB5 HS5
  go_wp2_with fail
  refine (sCrash w6 S6 g 2 (fF F2) [oF (frameL [97, 98, 99])] 0 5 HD6.out (by refine ⟨by simp, by simp, ?_⟩; first | (simp [byF, byO, frameL_length]; done) | (have h1 := HFr.out; simp [byF, byO, frameL_length]; omega))).mono ?_
  rw [show ((5 : Int)) = ((5 : Nat) : Int) from rfl, fx3, if_pos (by decide)]
  rintro e w7 ⟨rfl, hD7, hW7⟩
  obtain ⟨t, ht⟩ : ∃ t, t = (frameL [97, 98, 99]).take 5 := ⟨_, rfl⟩
  have HT := Aside0.mk (show t.length < 8 by rw [ht]; simp [frameL_length])
  have HTb := Aside0.mk (show Byt t by rw [ht]; exact (frameL_byt abc_bytes).take 5)
  rw [← ht] at hD7
  have HD7 := Aside0.mk (show DSt w7 (ext S6 w6 w7) g (fF (F2 ++ t)) [] 3 from hD7)
  have HB7 := Aside0.mk (wr_below HB6.out HB6.out.size HS6.out hW7)
  have HS7 := Aside0.mk (show ∀ k, ext S6 w6 w7 k → w.heap.size ≤ k from fun k hk => hk.1.elim (fun h => HS6.out k h) (fun h => Nat.le_trans HB6.out.size h))
  obtain ⟨S7, hS7⟩ : ∃ S7, S7 = ext S6 w6 w7 := ⟨_, rfl⟩
  rw [← hS7] at HD7 HS7
  clear hD7 hW7 hS7 ht HD6 HL6 HN6 HB6 HS6
  have HR7 := Aside0.mk (show recsL (fF (F2 ++ t)) [] nF = [[97, 98], [99]] from by
    rw [HF2.out]
    exact open_torn _ t HT.out (by intro b hb; simp at hb; rcases hb with rfl | rfl <;> simp))
  go_wp2_with fail
  refine (wopen_calls w7 S7 g 3 (fF (F2 ++ t)) [] nF HD7.out ⟨by simp, by simp, by have h1 := HFr.out; have h2 := HT.out; simp [byF, byO]; omega⟩ hFm nameF (by rw [fx4]; exact HBt.out.append HTb.out)).mono ?_
  rw [HR7.out]
  rintro e w8 ⟨S8, lg8, A8, c8, rfl, hD8, hC8, ⟨hL8, hlg, hnS⟩, hc8, hF8⟩
  have ho : (openL (fF (F2 ++ t)) [] 3 nF).2.1 = [] := (wopen_ops (fF (F2 ++ t)) [] 3 nF).elim id id
  rw [ho] at hD8
  have HD8 := Aside0.mk hD8
  have HL8 := Aside0.mk (show w8.heap[lg8]? = some (.cells (logC 2 19 g nF) 105 (0, 0)) by
    have h := hL8
    rw [← HF2.out, HFr.out] at h
    exact h)
  have HB8 := Aside0.mk (wr_below HB7.out HB7.out.size HS7.out hC8.wr)
  have HC8 := Aside0.mk (show CL w8 A8 [[97, 98], [99]] from Kd.F_now hF8)
  clear hD8 hC8 hL8 hlg hnS hF8 ho HD7 HB7 HS7 HR7
  have HD8' := HD8.out
  go_wp2_with fail
  obtain ⟨o1, ho1⟩ : ∃ o1, o1 = Obj.cells #[.int .u8 97, .int .u8 98] 5 (2, 3) := ⟨_, rfl⟩
  have hc1 := CB_of_row (l := [97, 98]) (heap_alloc_new w8 (Obj.cells #[.int .u8 97, .int .u8 98] 5 (2, 3))) (by decide)
  have hc2 := CB_of_row (l := [99]) (heap_alloc_new (w8.alloc (Obj.cells #[.int .u8 97, .int .u8 98] 5 (2, 3))) (Obj.cells #[.int .u8 99] 5 (1, 2))) (by decide)
  rw [alloc_size] at hc2
  obtain ⟨w9, hw9⟩ : ∃ w9, w9 = (w8.alloc (Obj.cells #[.int .u8 97, .int .u8 98] 5 (2, 3))).alloc (Obj.cells #[.int .u8 99] 5 (1, 2)) := ⟨_, rfl⟩
  have hB9 : Below w8.heap.size w8 w9 := by rw [hw9]; exact below_alloc (below_alloc (Below.refl _ _) _) _
  have hs9 : w9.heap.size = w8.heap.size + 1 + 1 := by rw [hw9, alloc_size, alloc_size]
  have hc1' := Kd.C_alloc hc1 (Obj.cells #[.int .u8 99] 5 (1, 2))
  rw [← hw9] at hc2 hc1' ⊢
  have hbr := blk_new w9 (.cells #[.slice (some ⟨w8.heap.size, 0, none⟩) 2 2, .slice (some ⟨w8.heap.size + 1, 0, none⟩) 1 1] 22)
  rw [hs9] at hbr
  refine (lists36_true A8 c8 _ 2 [[97, 98], [99]] _ (Kd.C_alloc (Kd.C_below HC8.out hB9) _) (CL_two (x := [97, 98]) (y := [99]) hbr (by decide) (by decide) (Kd.C_alloc hc1' _) (Kd.C_alloc hc2 _))).mono ?_
  rintro e w10 ⟨rfl, hd10⟩
  have hB10 := below_then (below_then (below_then HB8.out HB8.out.size hB9) (Nat.le_trans HB8.out.size hB9.size) (below_alloc (Below.refl w9.heap.size w9) _)) (by rw [alloc_size]; have := HB8.out.size; have := hB9.size; omega) (Drawn0.to_below hd10)
  have hB8x := below_then (below_then hB9 hB9.size (below_alloc (Below.refl w9.heap.size w9) (.cells #[.slice (some ⟨w8.heap.size, 0, none⟩) 2 2, .slice (some ⟨w8.heap.size + 1, 0, none⟩) 1 1] 22))) (by rw [alloc_size]; have := hB9.size; omega) (Drawn0.to_below hd10)
  have HB10 := Aside0.mk hB10
  have HD10 := Aside0.mk (HD8.out.move hB8x)
  have HL10 := Aside0.mk ((hB8x.block _ (blk_lt HL8.out)).trans HL8.out)
  clear hc1 hc2 hc1' hbr hw9 hs9 hB9 hB10 hB8x hd10 ho1 HD8' HD8 HL8 HC8 HB8
  go_wp2_with fail
  refine (lsize_calls w10 lg8 2 19 g nF HL10.out).mono ?_
  rintro e w11 ⟨rfl, h11⟩
  rw [h11]
  clear h11 w11
  go_wp2_with fail
  refine (sPending w10 S8 g _ _ [] HD10.out).mono ?_
  rintro e w11 ⟨rfl, h11⟩
  rw [h11]
  clear h11 w11
  go_wp2_with fail
  go_ret
  exact ⟨rfl, HB10.out⟩
end Go.Proofs.Ytfaniohoplbdoaa.My
/- What a log on files has, and what opening changes: plain. -/
namespace Go.Proofs.Ytfaniohoplbdoaa.My
open Go Go.RowKit Go.Proofs.YtfaniohoplbdoaaW.PrintWords Go.Proofs.YtfaniohoplbdoaaW.PrintLast Go.Proofs.YtfaniohoplbdoaaW.PrintMore Go.Proofs.Ytfaniohoplbdoaa.PDiskActs
set_option linter.unusedVariables false
set_option linter.unusedSimpArgs false
def BytF (l : List S109) : Prop := ∀ f ∈ l, Byt f.f1
def BytO (l : List S123) : Prop := ∀ f ∈ l, Byt f.f3
theorem BytF.find {l : List S109} (h : BytF l) (nm : ByteArray) : Byt ((findL l nm).getD []) := by
  cases hq : findL l nm with
  | none => exact Byt.nil
  | some b =>
    obtain ⟨f, hf, rfl, _⟩ := findL_mem hq
    exact h f hf
theorem BytF.without {l : List S109} (h : BytF l) (nm : ByteArray) : BytF (withoutL l nm) := fun f hf => h f (List.mem_filter.1 hf).1
theorem BytF.with_ {l : List S109} (h : BytF l) {f : S109} (hf : Byt f.f1) : BytF (withL l f) := by
  intro x hx
  rcases insL_mem hx with rfl | hx
  · exact hf
  · exact h.without f.f0 x hx
theorem BytF.carry {l : List S109} (h : BytF l) {o : S123} (ho : Byt o.f3) : BytF (carryL l o) := by
  unfold carryL
  split
  · exact h.with_ ((h.find o.f1).append ho)
  · split
    · exact h.without _
    · split
      · exact h
      · rename_i b hb
        split
        · exact h
        · refine (h.without o.f1).with_ ?_
          have := h.find o.f1
          rw [hb] at this
          exact this
theorem BytF.view (ops : List S123) : ∀ {l : List S109}, BytF l → BytO ops → BytF (viewL l ops) := by
  induction ops with
  | nil => intro l h _; exact h
  | cons o r ih => intro l h ho; exact ih (h.carry (ho o List.mem_cons_self)) (fun x hx => ho x (List.mem_cons_of_mem _ hx))
theorem BytF.cont {l : List S109} {ops : List S123} (h : BytF l) (ho : BytO ops) (nm : ByteArray) : Byt (contL l ops nm) := (h.view ops ho).find nm
theorem BytF.load {l : List S109} (h : BytF l) : BytF (loadL l) := by
  have : ∀ (r acc : List S109), BytF r → BytF acc → BytF (r.foldl withL acc) := by
    intro r
    induction r with
    | nil => intro acc _ h; exact h
    | cons f r ih => intro acc hr h; exact ih _ (fun x hx => hr x (List.mem_cons_of_mem _ hx)) (h.with_ (hr f List.mem_cons_self))
  exact this l [] h (fun f hf => by simp at hf)
theorem BytO.nil : BytO [] := fun f hf => by simp at hf
theorem find_ins {f : S109} : ∀ {l : List S109}, (∀ x ∈ l, x.f0.toList ≠ f.f0.toList) → findL (insL f l) f.f0 = some f.f1
  | [], _ => by simp [insL, findL]
  | x :: r, h => by
    unfold insL
    split
    · simp [findL]
    · have ih := find_ins (f := f) (l := r) (fun y hy => h y (List.mem_cons_of_mem _ hy))
      have hx : (x.f0.toList == f.f0.toList) = false := by simpa using h x List.mem_cons_self
      unfold findL at ih ⊢
      rw [List.find?_cons, hx]
      exact ih
theorem find_with (l : List S109) (f : S109) : findL (withL l f) f.f0 = some f.f1 := find_ins (fun x hx => by
  have := (List.mem_filter.1 hx).2
  simpa using this)
theorem find_without (l : List S109) (nm : ByteArray) : findL (withoutL l nm) nm = none := by
  unfold findL
  rw [List.find?_eq_none.2 (fun x hx => by
    have := (List.mem_filter.1 hx).2
    simpa using this)]
  rfl
theorem view_snoc (l : List S109) (ops : List S123) (o : S123) : viewL l (ops ++ [o]) = carryL (viewL l ops) o := by
  unfold viewL
  rw [List.foldl_append]
  rfl
theorem nameT : nameOk nT = true := by decide +kernel
theorem rep1_none (l : List S109) (ops : List S123) : findL (viewL l (rep1 l ops)) nT = none := by
  unfold rep1
  split
  · rename_i h
    unfold removeL
    rw [if_pos h, view_snoc]
    exact find_without _ _
  · rename_i h
    simpa using h
/-- What was repaired has the intact bytes. -/
theorem cont_repair (l : List S109) (ops : List S123) (nm : ByteArray) (y : List Int) (hn : nameOk nm = true) : findL (viewL l (repairL l ops nm y)) nm = some y := by
  have e2 : (appendL (rep1 l ops) nT y).1 = rep1 l ops ++ [⟨0, nT, ⟨#[]⟩, y⟩] := by unfold appendL; rw [nameT]; rfl
  have v2 : viewL l (appendL (rep1 l ops) nT y).1 = withL (viewL l (rep1 l ops)) ⟨nT, y⟩ := by
    rw [e2, view_snoc]
    show withL _ ⟨nT, (findL (viewL l (rep1 l ops)) nT).getD [] ++ y⟩ = _
    rw [rep1_none]
    rfl
  have f2 : findL (viewL l (appendL (rep1 l ops) nT y).1) nT = some y := by rw [v2]; exact find_with _ ⟨nT, y⟩
  unfold repairL renameL
  rw [f2]
  simp only [Option.isSome_some, if_true, hn]
  rw [view_snoc]
  show findL (match findL (viewL l (appendL (rep1 l ops) nT y).1) nT with
    | none => _
    | some b => _) nm = _
  rw [f2]
  show findL (if nT.toList == nm.toList then _ else withL (withoutL _ nT) ⟨nm, y⟩) nm = _
  split
  · rename_i h
    have : nT = nm := toList_inj (by simpa using h)
    rw [← this]
    exact f2
  · exact find_with _ ⟨nm, y⟩
theorem scan_full {b : List Int} (hb : Byt b) : b.take (scanL b).2 = framesL (scanL b).1 ∧ ∀ x ∈ (scanL b).1, x.length ≤ 1048576 := scanL_is _ b (Nat.le_refl _) hb
/-- Behind opening, the log's file is its records' frames. -/
theorem cont_open {l : List S109} {ops : List S123} {n : Nat} {nm : ByteArray} (hn : nameOk nm = true) (hb : Byt (contL l ops nm)) : contL (openL l ops n nm).1 (openL l ops n nm).2.1 nm = framesL (recsL l ops nm) := by
  obtain ⟨h1, h2⟩ := scan_full hb
  unfold openL recsL
  rw [← h1]
  split
  · show (findL (viewL (viewL l (repairL l ops nm _)) []) nm).getD [] = _
    show (findL (viewL l (repairL l ops nm _)) nm).getD [] = _
    rw [cont_repair l ops nm _ hn]
    rfl
  · rename_i h
    rw [List.take_of_length_le (by omega)]
theorem open_again {l : List S109} {ops : List S123} {n : Nat} {nm : ByteArray} {R : List (List Int)} (hc : contL l ops nm = framesL R) (hR : ∀ x ∈ R, x.length ≤ 1048576) : openL l ops n nm = (l, ops, n) ∧ recsL l ops nm = R := by
  unfold openL recsL
  rw [hc, scan_frames R hR]
  exact ⟨if_neg (Nat.lt_irrefl _), rfl⟩
theorem open_len (l : List S109) (ops : List S123) (n : Nat) (nm : ByteArray) : (openL l ops n nm).2.2 + (openL l ops n nm).2.1.length ≤ n + ops.length + 3 ∧ (openL l ops n nm).1.length + (openL l ops n nm).2.1.length ≤ l.length + ops.length + 3 ∧ byF (openL l ops n nm).1 + byO (openL l ops n nm).2.1 ≤ 2 * (byF l + byO ops) := by
  have hc := cont_le l ops nm
  unfold openL
  split
  · rename_i hlt
    have ht : ((contL l ops nm).take (scanL (contL l ops nm)).2).length ≤ (contL l ops nm).length := by rw [List.length_take]; omega
    generalize (contL l ops nm).take (scanL (contL l ops nm)).2 = y at ht
    have e1 := rep1_len l ops
    have e2 := app_len (rep1 l ops) nT y
    have e3 := ren_len l (appendL (rep1 l ops) nT y).1 nT nm
    have v1 := viewL_length (repairL l ops nm y) l
    have v2 := byF_viewL (repairL l ops nm y) l
    have e4 : (repairL l ops nm y).length ≤ ops.length + 3 := by unfold repairL; omega
    have e5 : byO (repairL l ops nm y) ≤ byO ops + y.length := by unfold repairL; omega
    refine ⟨?_, ?_, ?_⟩
    · simp; omega
    · simp; omega
    · have : byO [] = 0 := rfl
      show byF (viewL l (repairL l ops nm y)) + byO [] ≤ _
      omega
  · exact ⟨by simp, by simp, by simp; omega⟩
theorem recs_small {l : List S109} {ops : List S123} {nm : ByteArray} (hb : Byt (contL l ops nm)) : ∀ x ∈ recsL l ops nm, x.length ≤ 1048576 := (scan_full hb).2
end Go.Proofs.Ytfaniohoplbdoaa.My
