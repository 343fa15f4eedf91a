/- frame.Append. -/
import Derived.Test.YtfaniohoplbdoaaMC
namespace Go.Proofs.Ytfaniohoplbdoaa.My
open Go Go.RowKit Go.Proofs.YtfaniohoplbdoaaW.PrintWords Go.Proofs.YtfaniohoplbdoaaW.PrintLast Go.Proofs.YtfaniohoplbdoaaW.PrintMore
set_option linter.unusedVariables false
set_option linter.unusedSimpArgs false
theorem info5 : (Try.prog.info? 5).map (fun i => (i.zero, i.size, i.bytes)) = some (some (.int .u8 0), 1, 1) := by kernel_rfl

theorem fAppend_long (A : Option Addr) (c n : Nat) (A' : Option Addr) (c' m : Nat) (w : World) (h : 1048576 < m) (hm : m ≤ 9223372036854775807) :
    Calls Try.prog 21 #[.slice A n c, .slice A' m c'] w fun e w' => e = .returned (.tuple #[.slice none 0 0, .int .i64 5]) ∧ Drawn0 w w' := by
  go_enter Try.func21, Try.ntmps21
  go_wp2
  go_ret2
  exact ⟨rfl, Drawn0.refl w⟩

abbrev RB (w : World) (base : Nat) (v : Value) (l : List Int) : Prop := Kd.R (Kd.int .u8) 5 w base (fun _ => True) v l

theorem made_bts (m : Nat) : madeCells #[.int .u8 0] m = (bts (List.replicate m 0)).toArray := by
  apply Array.ext'
  apply List.ext_getElem
  · simp [nums, madeCells]
  · intro i h1 h2
    simp [nums, madeCells, Nat.mod_one]
theorem CB.src {w : World} {A : Option Addr} {l : List Int} (h : CB w A l) : 0 < (bts l).length → ∃ ad, A = some ad ∧ ∀ j v, (bts l)[j]? = some v → w.cell? (ad.add j) = some v := by
  intro hp
  have hp' : 0 < l.length := by simpa [nums] using hp
  obtain ⟨ad, e, _⟩ := Kd.at_int h 0 (by omega) (by omega)
  refine ⟨ad, e, fun j v hj => ?_⟩
  have hlt : j < l.length := by
    have := (List.getElem?_eq_some_iff.1 hj).1
    simpa [nums] using this
  obtain ⟨ad', e', h2⟩ := Kd.at_int h (j : Int) (by omega) (by omega)
  obtain rfl : ad = ad' := by
    rw [e] at e'
    injection e'
  rw [Int.toNat_natCast] at h2
  rw [h2]
  rw [← hj, rd_getD]
  simp [nums, List.getElem?_eq_getElem hlt, List.getD_eq_getElem?_getD]
theorem bts_one (l : List Int) : ∀ v ∈ bts l, v.oneCell' = true := by
  intro v hv
  obtain ⟨x, _, rfl⟩ := List.mem_map.1 hv
  rfl

/-- A part of a block, read as bytes. -/
theorem CB_of_blk {w : World} {g o : Nat} {cur : List Value} {m : List Int} (hg : Blk w g cur) (hm : m.length ≤ 9223372036854775807) (h : ∀ j (hj : j < m.length), cur[o + j]? = some (.int .u8 m[j])) : CB w (some ⟨g, o, none⟩) m := by
  refine Kd.C_of_reads (enc := Value.int .u8) (d := (0 : Int)) (h1 := fun _ => rfl) ⟨rfl, hm, fun _ => ⟨_, rfl, fun j hj => ?_⟩⟩
  rw [add_at, blk_cell hg]
  simp [h j hj, List.getD_eq_getElem?_getD, List.getElem?_eq_getElem hj]
theorem splice_mid {α : Type} (pre rest cs : List α) : splice (pre ++ rest) pre.length cs = pre ++ cs ++ rest.drop cs.length := by
  unfold splice
  rw [List.take_left' rfl, List.drop_append, List.append_assoc, List.drop_of_length_le (by omega), List.nil_append, show pre.length + cs.length - pre.length = cs.length from by omega]
theorem bts_app (l m : List Int) : bts (l ++ m) = bts l ++ bts m := nums_append _ _ _
theorem bts_len (l : List Int) : (bts l).length = l.length := nums_length _ _
/-- Bytes at a place, and others laid over what follows. -/
theorem splice_bts {cur rest : List Value} {l m : List Int} {o : Nat} (h : cur = bts l ++ rest) (ho : o = l.length) : splice cur o (bts m) = bts (l ++ m) ++ rest.drop m.length := by
  subst h
  have := splice_mid (bts l) rest (bts m)
  rw [nums_length, nums_length] at this
  rw [ho, this, bts_app]
theorem bts_at {l : List Int} {j : Nat} (hj : j < l.length) : (bts l)[j]? = some (.int .u8 l[j]) := by simp [nums, List.getElem?_eq_getElem hj]
/-- A whole block of bytes, as a row of the call's own. -/
theorem RB_of_blk {w : World} {g base : Nat} {l : List Int} (hg : Blk w g (bts l)) (hb : base ≤ g) (hm : l.length ≤ 9223372036854775807) : RB w base (.slice (some ⟨g, 0, none⟩) l.length l.length) l := by
  refine Kd.R_of_own (enc := Value.int .u8) (h1 := fun _ => rfl) ⟨by simp [encs], .inr ⟨g, l.length, _, rfl, hb, hg, Nat.le_refl _, by simpa [maxLen] using hm, by simp [nums], ?_⟩⟩ (fun _ _ => trivial)
  simp only [nums, encs, List.length_map, Nat.mul_one]
  exact List.take_of_length_le (by simp)

set_option maxHeartbeats 1000000 in
set_option maxRecDepth 100000 in
theorem fAppend_ok (A : Option Addr) (c : Nat) (l : List Int) (A' : Option Addr) (c' : Nat) (body : List Int) (w : World) (hC : CB w A l) (hc : l.length ≤ c) (hC' : CB w A' body) (hc' : body.length ≤ c') (hb : Byt body)
    (hlen : body.length ≤ 1048576) (hl : l.length ≤ 140737488355328) :
    Calls Try.prog 21 #[.slice A l.length c, .slice A' body.length c'] w fun e w' => ∃ v, e = .returned (.tuple #[v, .int .i64 0]) ∧ RB w' w.heap.size v (l ++ frameL body) ∧ Below w.heap.size w w' := by
  have hmk := print_make (P := Try.prog) 22 5 .u8 1 Try.underlying22 info5 (by decide) (l.length + 8 + body.length) (by omega)
  rw [show (((l.length + 8 + body.length : Nat) : Int)) = (l.length : Int) + 8 + (body.length : Int) from by omega, made_bts] at hmk
  have HC := Aside0.mk hC
  have HC' := Aside0.mk hC'
  have HB := Aside0.mk hb
  have HN := Aside0.mk (show (bts (List.replicate (l.length + 8 + body.length) 0)).length = l.length + 8 + body.length by simp [nums])
  generalize bts (List.replicate (l.length + 8 + body.length) 0) = cur0 at hmk HN
  clear hC hC' hb
  go_enter Try.func21, Try.ntmps21
  go_wp2_with (with_reducible refine wpList_copy_splice rfl (.tmp 18) (.tmp 19) 22 22 rfl 5 Try.underlying22 (by kernel_rfl) _ _ _ _ _ _ rfl rfl w.heap.size 0 cur0 5 ?g1 (bts l) ?g2 ?g3 ?g4 (bts_one l) w.heap.size w ?g6 (Nat.le_refl _) ?_)
  case g1 => exact heap_alloc_new w _
  case g2 => rw [show l.length.min (l.length + 8 + body.length) = l.length from Nat.min_eq_left (by omega)]; simp [nums]
  case g3 => exact fun hp => by first | exact ⟨rfl, CB.src (Kd.C_alloc HC.out _) hp⟩ | exact CB.src (Kd.C_alloc HC.out _) hp
  case g4 => rw [HN.out]; simp [nums]; omega
  case g6 => exact below_alloc (Below.refl _ _) _
  intro w1 hg1 hb1
  clear hmk
  have hgs : w.heap.size < w1.heap.size := blk_lt hg1.out
  have HB1 := Aside0.mk hb1
  have HS := Aside0.mk hb1.size
  have hr1 : splice cur0 0 (bts l) = bts l ++ cur0.drop l.length := splice_bts (l := []) (rest := cur0) rfl rfl
  have hd1 : (cur0.drop l.length).length = 8 + body.length := by rw [List.length_drop, HN.out]; omega
  have hg1' := hg1.out
  rw [hr1] at hg1'
  generalize cur0.drop l.length = r1 at hg1' hd1
  have HG1 := Aside0.mk hg1'
  have HD1 := Aside0.mk hd1
  clear hg1 hb1 hr1 hd1 hg1' HN
  go_wp2_with fail
  rw [show l.length + 8 + body.length - l.length = 8 + body.length from by omega]
  refine (put_calls w1 _ _ _ _ (bts l ++ r1) body.length (by omega) (by omega) (Nat.le_refl _) (by omega) HG1.out (by rw [List.length_append, bts_len, HD1.out]; omega)).mono ?_
  rintro e w2 ⟨rfl, hg2, hw2⟩
  rw [splice_bts (l := l) (rest := r1) rfl rfl] at hg2
  have hd2 : (r1.drop 4).length = 4 + body.length := by rw [List.length_drop, HD1.out]; omega
  rw [show (be4 body.length).length = 4 from rfl] at hg2
  generalize r1.drop 4 = r2 at hg2 hd2
  have HG2 := Aside0.mk hg2
  have HD2 := Aside0.mk hd2
  have HB2 := Aside0.mk (pw_below_grown HB1.out (some w.heap.size) HS.out hw2 (fun k hk => by injection hk with hk; omega))
  have hgs2 : w.heap.size < w2.heap.size := blk_lt hg2
  have HS2 := Aside0.mk (HB2.out.size)
  clear hg2 hw2 HG1 HB1 HS hgs HD1 hd2
  go_wp2_with fail
  refine start_ (n := 7) (S := fun _ => True) (ds := []) #[false, false, false, false, false, false, false] (by kernel_rfl) rfl rfl ?_ (fun hHeld => ?_)
  · trivial
  have q1 : ((4 : Int) ≤ 8 + (body.length : Int)) = True := eq_true (by omega)
  have q2 : (8 + body.length = 4) = False := eq_false (by omega)
  refine pure_ (i := 0) (N := some 30) (v := ?_) (a' := ?_) #[true, false, false, false, false, false, false] rfl rfl (by kernel_rfl) (fun _ _ _ h => h) (Or.inl ⟨by rfl, ?_⟩) ?_ ?_
  rotate_left
  · intro w'
    go_simp
    with_reducible rfl
  rotate_left
  · simp only [Act.put, List.setIfInBounds_toArray, List.set_cons_zero, List.set_cons_succ, i64_w, i32_w]
    rfl
  refine pure_ (i := 1) (N := some 31) (v := ?_) (a' := ?_) #[true, true, false, false, false, false, false] rfl rfl (by kernel_rfl) (fun _ _ _ h => h) (Or.inl ⟨by rfl, ?_⟩) ?_ ?_
  rotate_left
  · intro w'
    go_simp
    with_reducible rfl
  rotate_left
  · simp only [Act.put, List.setIfInBounds_toArray, List.set_cons_zero, List.set_cons_succ, i64_w, i32_w]
    rfl
  refine pure_ (i := 2) (N := some 32) (v := ?_) (a' := ?_) #[true, true, true, false, false, false, false] rfl rfl (by kernel_rfl) (fun _ _ _ h => h) (Or.inl ⟨by rfl, ?_⟩) ?_ ?_
  rotate_left
  · intro w'
    go_simp
    with_reducible rfl
  rotate_left
  · simp only [Act.put, List.setIfInBounds_toArray, List.set_cons_zero, List.set_cons_succ, i64_w, i32_w]
    rfl
  refine pure_ (i := 3) (N := some 33) (v := ?_) (a' := ?_) #[true, true, true, true, false, false, false] rfl rfl (by kernel_rfl) (fun _ _ _ h => h) (Or.inl ⟨by rfl, ?_⟩) ?_ ?_
  rotate_left
  · intro w'
    go_simp
    with_reducible rfl
  rotate_left
  · simp only [Act.put, List.setIfInBounds_toArray, List.set_cons_zero, List.set_cons_succ, i64_w, i32_w]
    rfl
  refine pure_ (i := 4) (N := some 34) (v := ?_) (a' := ?_) #[true, true, true, true, true, false, false] rfl rfl (by kernel_rfl) (fun _ _ _ h => h) (Or.inl ⟨by rfl, ?_⟩) ?_ ?_
  rotate_left
  · intro w'
    go_simp
    with_reducible rfl
  rotate_left
  · simp only [Act.put, List.setIfInBounds_toArray, List.set_cons_zero, List.set_cons_succ, i64_w, i32_w]
    rfl
  clear q1 q2
  refine one_ (i := 5) (N := some 35) #[true, true, true, true, true, true, false] rfl rfl (by kernel_rfl) (by decide) (fun K hK => ?_)
  refine goes_ Try.func71 (by kernel_rfl) rfl #[.slice (some ⟨w.heap.size, l.length, none⟩) 4 (8 + body.length), .slice A' body.length c'] (by rfl) rfl rfl (by (try simp only [List.map_toArray, List.map_cons, List.map_nil]); first | done | rfl) ?_
  have hC2 : CB w2.drew (some ⟨w.heap.size, l.length, none⟩) (be4 body.length) := Kd.C_drew (CB_of_blk HG2.out (by simp [be4]) (fun j hj => by
    rw [List.getElem?_append_left (by rw [bts_len, List.length_append]; omega), bts_app, List.getElem?_append_right (by rw [bts_len]; omega), bts_len, show l.length + j - l.length = j from by omega, bts_at hj]))
  refine (fsum_calls _ (8 + body.length) (be4 body.length) A' c' body w2.drew hC2 (by rw [be4_length]; omega) (be4_byt _) (Kd.C_drew (Kd.C_below HC'.out HB2.out)) hc' HB.out).mono ?_
  rintro e w3 ⟨rfl, n3, rfl⟩
  refine ⟨_, rfl, hK.out _ _ trivial (fun _ => ?_)⟩
  clear hK K hC2
  refine norm_ (a' := ?_) ?_ ?_
  rotate_left
  · show Act.put _ (some 35) _ = _
    simp only [Act.put, List.setIfInBounds_toArray, List.set_cons_zero, List.set_cons_succ, i64_w, i32_w]
    rfl
  refine one_ (i := 6) (N := some 36) #[true, true, true, true, true, true, true] rfl rfl (by kernel_rfl) (by decide) (fun K hK => ?_)
  refine goes_ Try.func70 (by kernel_rfl) rfl #[.slice (some ⟨w.heap.size, l.length + 4, none⟩) (8 + body.length - 4) (8 + body.length - 4), .int .u32 (sumL (be4 body.length ++ body) : Nat)] (by rfl) rfl rfl (by (try simp only [List.map_toArray, List.map_cons, List.map_nil]); first | done | rfl) ?_
  refine (put_calls (w2.drew.drewN n3) _ _ _ _ (bts (l ++ be4 body.length) ++ r2) (sumL (be4 body.length ++ body)) (sumL_lt _) (by omega) (Nat.le_refl _) (by omega) HG2.out (by rw [List.length_append, bts_len, HD2.out, List.length_append, be4_length]; omega)).mono ?_
  rintro e w4 ⟨rfl, hg4, hw4⟩
  refine ⟨_, rfl, hK.out _ _ trivial (fun _ => ?_)⟩
  clear hK K
  rw [splice_bts (l := l ++ be4 body.length) (rest := r2) rfl (by rw [List.length_append, be4_length])] at hg4
  rw [List.append_assoc, show be4 body.length ++ be4 (sumL (be4 body.length ++ body)) = headL body from rfl] at hg4
  have hd4 : (r2.drop 4).length = body.length := by rw [List.length_drop, HD2.out]; omega
  rw [be4_length] at hg4
  generalize r2.drop 4 = r4 at hg4 hd4
  have HG4 := Aside0.mk hg4
  have HD4 := Aside0.mk hd4
  have HB4 := Aside0.mk (pw_below_grown (pw_below_drewN (below_drew HB2.out) n3) (some w.heap.size) HS2.out hw4 (fun k hk => by injection hk with hk; omega))
  have hgs4 : w.heap.size < w4.heap.size := blk_lt hg4
  have HS4 := Aside0.mk (HB4.out.size)
  clear hg4 hw4 HG2 HB2 HS2 hgs2 HD2 hd4
  refine norm_ (a' := ?_) ?_ ?_
  rotate_left
  · show Act.put _ (some 36) _ = _
    simp only [Act.put, List.setIfInBounds_toArray, List.set_cons_zero, List.set_cons_succ, i64_w, i32_w]
    rfl
  refine done_ (by kernel_rfl) ?_
  rw [show 8 + body.length - 4 = 4 + body.length from by omega]
  obtain ⟨b, hb0, E0⟩ : ∃ b : Bool, (body = []) = (b = true) ∧ (b = true → body.length = 0) := ⟨decide (body = []), by simp, fun h => by simp at h; simp [h]⟩
  have E0 := Aside0.mk E0
  cases b
  all_goals
    go_wp2_with (with_reducible refine wpList_copy_splice rfl (.tmp 38) (.tmp 39) 22 22 rfl 5 Try.underlying22 (by kernel_rfl) _ _ _ _ _ _ rfl rfl w.heap.size (l.length + 8) (bts (l ++ headL body) ++ r4) 5 ?g1 (bts body) ?g2 ?g3 ?g4 (bts_one body) w.heap.size w HB4.out (Nat.le_refl _) ?_)
    case g1 => first | exact HG4.out | (have h := HG4.out; rw [Blk, Array.getElem?_eq_getElem hgs4] at h; exact Option.some.inj h)
    case g2 => first | exact (bts_len body).trans (Nat.min_eq_left (by omega)).symm | (rw [List.eq_nil_of_length_eq_zero (E0.out (by simp))]; rfl)
    case g3 => first | exact fun hp => ⟨rfl, CB.src (Kd.C_below HC'.out HB4.out) hp⟩ | exact fun hp => CB.src (Kd.C_below HC'.out HB4.out) hp | (rw [List.eq_nil_of_length_eq_zero (E0.out (by simp))]; rfl)
    case g4 => simp only [List.length_append, bts_len, headL_length, HD4.out]; omega
    intro w5 hg5 hb5
    have hg5' := hg5.out
    rw [splice_bts (l := l ++ headL body) (rest := r4) rfl (by rw [List.length_append, headL_length]), List.append_assoc l] at hg5'
    have hd5 : (r4.drop body.length) = [] := List.drop_of_length_le (by rw [HD4.out]; exact Nat.le_refl _)
    rw [hd5, List.append_nil] at hg5'
    have HG5 := Aside0.mk hg5'
    have HB5 := Aside0.mk hb5
    clear hg5 hg5' hb5 hd5 HG4 HD4 HB4 hgs4 HS4 hb0 E0
    go_wp2
    go_ret2
    have hn : (l ++ frameL body).length = l.length + 8 + body.length := by rw [List.length_append, frameL_length]; omega
    have := RB_of_blk (base := w.heap.size) (l := l ++ frameL body) HG5.out (Nat.le_refl _) (by omega)
    rw [hn] at this
    first | exact ⟨_, rfl, this, HB5.out⟩ | (rw [E0 (by simp), Nat.add_zero] at this; exact ⟨_, rfl, this, HB5.out⟩)
end Go.Proofs.Ytfaniohoplbdoaa.My
