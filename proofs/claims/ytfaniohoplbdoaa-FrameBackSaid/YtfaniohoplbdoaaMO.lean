/- 'large' and 'appended', walked. -/
import Derived.Test.YtfaniohoplbdoaaMN
namespace Go.Proofs.Ytfaniohoplbdoaa.My
open Go Go.RowKit Go.Proofs.YtfaniohoplbdoaaW.PrintWords Go.Proofs.YtfaniohoplbdoaaW.PrintLast Go.Proofs.YtfaniohoplbdoaaW.PrintMore
set_option linter.unusedVariables false
set_option linter.unusedSimpArgs false
/-- How many bytes a list has. -/
def tot (l : List (List Int)) : Nat := (l.map List.length).sum
theorem tot_append (l m : List (List Int)) : tot (l ++ m) = tot l + tot m := by simp [tot]
theorem tot_take_succ {l : List (List Int)} {k : Nat} (h : k < l.length) : tot (l.take (k + 1)) = tot (l.take k) + l[k].length := by
  rw [List.take_succ_eq_append_getElem h, tot_append]
  simp [tot]
theorem tot_take_le (l : List (List Int)) (k : Nat) : tot (l.take k) ≤ tot l := by
  have := tot_append (l.take k) (l.drop k)
  rw [List.take_append_drop] at this
  omega
def big (l : List (List Int)) : Bool := decide (20000 < l.length + tot l)
theorem framesL_length (l : List (List Int)) : (framesL l).length = 8 * l.length + tot l := by
  induction l with
  | nil => rfl
  | cons b l ih =>
    rw [framesL_cons, List.length_append, ih, frameL_length]
    simp [tot]
    omega
theorem framesL_take_succ {l : List (List Int)} {k : Nat} (h : k < l.length) : framesL (l.take (k + 1)) = framesL (l.take k) ++ frameL l[k] := by
  rw [List.take_succ_eq_append_getElem h, framesL_append]
  simp [framesL]
/-- The offset after each frame. -/
def endsL (l : List (List Int)) : List Int := (List.range l.length).map fun i => ((framesL (l.take (i + 1))).length : Int)
theorem endsL_length (l : List (List Int)) : (endsL l).length = l.length := by simp [endsL]
theorem endsL_get {l : List (List Int)} {k : Nat} (h : k < (endsL l).length) : (endsL l)[k] = ((framesL (l.take (k + 1))).length : Int) := by simp [endsL]
theorem endsL_take_succ {l : List (List Int)} {k : Nat} (h : k < l.length) : endsL (l.take (k + 1)) = endsL (l.take k) ++ [((framesL (l.take (k + 1))).length : Int)] := by
  have e : (l.take (k + 1)).length = k + 1 := by rw [List.length_take]; omega
  have e' : (l.take k).length = k := by rw [List.length_take]; omega
  unfold endsL
  rw [e, e', List.range_succ, List.map_append]
  congr 1
  · refine List.map_congr_left fun i hi => ?_
    have := List.mem_range.1 hi
    rw [List.take_take, List.take_take, Nat.min_eq_left (by omega), Nat.min_eq_left (by omega)]
  · simp [List.take_take]
theorem info3 : (Try.prog.info? 3).map (fun i => (i.zero, i.size, i.bytes)) = some (some (.int .i64 0), 1, 8) := by kernel_rfl
abbrev RI (w : World) (base : Nat) (v : Value) (l : List Int) : Prop := Kd.R (Kd.int .i64) 3 w base (fun _ => True) v l
abbrev CI (w : World) (A : Option Addr) (l : List Int) : Prop := Kd.C (Kd.int .i64) w A l.length l
theorem app_int {ops : Array Oper} {rest : List Oper} {o : Oper} {a : Act} {Q : Exit → Act → World → Prop} {w0 W : World} (base : Nat) (hgd : o.guard = none) (s x : Operand)
    (ho : o.op = .call { callee := .builtin .append, args := #[s, x], argTypes := #[64, 64] }) (v : Value) (xs : List Int) (p : Int) (hs : a.eval s = v) (hx : a.eval x = .slice (some ⟨W.heap.size, 0, none⟩) 1 1)
    (HO : RI W base v xs) (HB : Below base w0 W) (hbase : base ≤ W.heap.size) (hl : xs.length + 1 ≤ 1099511627776)
    (h : ∀ v1 w1, Aside0 (RI w1 base v1 (xs ++ [p])) → Aside0 (Below base w0 w1) → Aside0 (W.grownBy w1 v.ownBlock) → wpList Try.prog ops Q rest (a.put o.dst v1) w1) : wpList Try.prog ops Q (o :: rest) a (W.alloc (.cells #[.int .i64 p] 3)) :=
  Kd.R_append (Kd.int .i64) base hgd s x 64 3 (.int .i64 0) 8 ho Try.underlying64 info3 rfl (by decide) (by decide) v xs p [.int .i64 p] (fun _ => True) (fun _ => False) hs hx (by rfl) (fun _ h => h.elim) (fun _ _ => trivial) HO HB hbase (by omega)
    (fun v1 w1 h1 h2 h3 _ => h v1 w1 ⟨h1⟩ ⟨h2⟩ ⟨h3⟩)
/-- A row of bytes is none of numbers. -/
theorem RB_grown {w w1 : World} {base b : Nat} {v u : Value} {l y : List Int} (h : RB w base v l) (h' : RI w b u y) (hg : w.grownBy w1 u.ownBlock) : RB w1 base v l := by
  obtain ⟨inner, ho⟩ := Kd.R_own h'
  refine Kd.R_mono (Kd.R_grown (Kd.R_bound h) hg fun k hk he => ?_) (fun _ _ => trivial)
  obtain ⟨_, _, _, q, hq, cells, hc⟩ := hk
  obtain ⟨cells', hc'⟩ := own_typed ho k he.symm
  rw [hc] at hc'
  simp [Kd.int, Kd.scalar] at hq
  subst hq
  simp at hc'
set_option maxHeartbeats 1000000 in
set_option maxRecDepth 100000 in
theorem large_calls (A : Option Addr) (c : Nat) (l : List (List Int)) (w : World) (hC : CL w A l) (h1 : l.length ≤ 140737488351232) (h2 : ∀ b ∈ l, b.length ≤ 140737488351232) :
    Calls Try.prog 44 #[.slice A l.length c] w fun e w' => e = .returned (.bool (big l)) ∧ Drawn0 w w' := by
  have HC := Aside0.mk hC
  have H2 := Aside0.mk h2
  clear hC h2
  go_enter Try.func44, Try.ntmps44
  go_wp2
  go_loopw [3, 10] (fun n i wr => ∃ k : Nat, k ≤ l.length ∧ n = .int .i64 (l.length + tot (l.take k) : Nat) ∧ i = .int .i64 k ∧ (k = 0 ∨ l.length + tot (l.take k) ≤ 20000) ∧ Drawn0 w wr) (fun _ i _ => l.length - (intOf i).toNat)
  case atStart => exact ⟨0, by omega, by simp [tot], rfl, .inl rfl, Drawn0.refl w⟩
  case round =>
    obtain ⟨k, hk, rfl, rfl, hs, n, rfl⟩ := hrel
    by_cases hlt : k < l.length
    · obtain ⟨ad, B, d, rfl, hcell, hd, hCB⟩ := CL.at_ (Kd.C_drewN HC.out n) k hlt
      have ht := tot_take_succ hlt
      have hy2 := H2.out l[k] (List.getElem_mem hlt)
      have hle := tot_take_le l (k + 1)
      have hbig : (20000 < l.length + tot l) = (big l = true) := by simp [big]
      have HBig := Aside0.mk hbig
      have HT := Aside0.mk ht
      have ht0 : tot (l.take k) ≤ 20000 := by
        rcases hs with rfl | hs
        · simp [tot]
        · omega
      have HE := Aside0.mk hle
      have hadd : (l.length : Int) + (tot (l.take k) : Int) + (l[k].length : Int) = ((l.length + tot (l.take (k + 1)) : Nat) : Int) := by omega
      clear ht hbig hle
      obtain ⟨m, hm⟩ : ∃ m, m = l.length + tot (l.take (k + 1)) := ⟨_, rfl⟩
      have hm2 : m ≤ 281474976722944 + 20000 := by rw [hm, HT.out]; omega
      rw [← hm] at hadd
      have HM := Aside0.mk hm
      clear hm hCB hd
      by_cases hgt : 20000 < m
      · have hg1 : decide (20000 < (m : Int)) = true := decide_eq_true (by omega)
        have HR : big l = true := by rw [← HBig.out]; rw [HM.out] at hgt; have := HE.out; omega
        have HR := Aside0.mk HR
        go_wp2
        go_ret
        exact ⟨by rw [HR.out]; rfl, ⟨_, rfl⟩⟩
      · have hg1 : decide (20000 < (m : Int)) = false := decide_eq_false (by omega)
        go_wp2
        go_roundw
        case rel => exact ⟨k + 1, by omega, by rw [← HM.out], by go_num, .inr (by rw [← HM.out]; omega), ⟨n, rfl⟩⟩
        case measure => simp [intOf]; omega
    · obtain rfl : k = l.length := by omega
      rw [List.take_length]
      go_wp2
      go_ret
      exact ⟨by simp [big]; omega, ⟨_, rfl⟩⟩
/-- What Append does with a body that is not too long. -/
theorem append_at {wr : World} {A : Option Addr} {c : Nat} {acc : List Int} {A' : Option Addr} {c' : Nat} {b : List Int} (hC : CB wr A acc) (hc : acc.length ≤ c) (hC' : CB wr A' b) (hc' : b.length ≤ c') (hb : Byt b) (hl : acc.length ≤ 1099511627776) (hlb : b.length ≤ 1048576) :
    Calls Try.prog 21 #[.slice A acc.length c, .slice A' b.length c'] wr fun e w' => ∃ v, e = .returned (.tuple #[v, .int .i64 0]) ∧ RB w' wr.heap.size v (acc ++ frameL b) ∧ Below wr.heap.size wr w' :=
  fAppend_ok A c acc A' c' b wr hC hc hC' hc' hb hlb (by omega)
set_option maxHeartbeats 1000000 in
set_option maxRecDepth 100000 in
theorem appended_calls (A : Option Addr) (c : Nat) (l : List (List Int)) (w : World) (hC : CL w A l) (hb : ∀ b ∈ l, Byt b) (hl : l.length + tot l ≤ 20000) :
    Calls Try.prog 45 #[.slice A l.length c] w fun e w' => ∃ v u, e = .returned (.tuple #[v, u, .bool true]) ∧ RB w' w.heap.size v (framesL l) ∧ RI w' w.heap.size u (endsL l) ∧ Below w.heap.size w w' := by
  have HC := Aside0.mk hC
  have HB := Aside0.mk hb
  have hlen := framesL_length
  clear hC hb
  go_enter Try.func45, Try.ntmps45
  go_wp2
  go_loopw [5, 6, 13] (fun v u i wr => ∃ k : Nat, k ≤ l.length ∧ i = .int .i64 k ∧ Aside0 (RB wr w.heap.size v (framesL (l.take k))) ∧ Aside0 (RI wr w.heap.size u (endsL (l.take k))) ∧ Aside0 (Below w.heap.size w wr)) (fun _ _ i _ => l.length - (intOf i).toNat)
  case atStart => exact ⟨0, by omega, rfl, ⟨Kd.R_nil _ _ _ _ _⟩, ⟨Kd.R_nil _ _ _ _ _⟩, ⟨Below.refl _ _⟩⟩
  case round =>
    obtain ⟨k, hk, rfl, HR, HI, HW⟩ := hrel
    have HSz := Aside0.mk HW.out.size
    by_cases hlt : k < l.length
    · obtain ⟨ad, B, d, rfl, hcell, hd, hCB⟩ := CL.at_ (Kd.C_below HC.out HW.out) k hlt
      have HY := Aside0.mk (HB.out l[k] (List.getElem_mem hlt))
      have ht := tot_take_succ hlt
      have hle := tot_take_le l (k + 1)
      have hfs := framesL_take_succ hlt
      have hes := endsL_take_succ hlt
      have hF := hlen (l.take k)
      have hF2 := hlen (l.take (k + 1))
      have hel := endsL_length (l.take k)
      rw [List.length_take] at hel hF hF2
      obtain ⟨y, hy⟩ : ∃ y, y = l[k] := ⟨_, rfl⟩
      obtain ⟨fr, hfr⟩ : ∃ y, y = framesL (l.take k) := ⟨_, rfl⟩
      obtain ⟨fs, hfse⟩ : ∃ y, y = framesL (l.take (k + 1)) := ⟨_, rfl⟩
      rw [← hy] at hcell hd hCB HY ht hfs
      rw [← hfr] at HR hF hfs
      rw [← hfse] at hF2 hfs hes
      have HFS := Aside0.mk hfs
      have HES := Aside0.mk hes
      have HFR := Aside0.mk hfse
      have hyl : y.length ≤ 20000 := by omega
      have hrl : fr.length ≤ 200000 := by omega
      have hil : (endsL (l.take k)).length ≤ 20000 := by omega
      clear hy hfr hfse hfs hes ht hle hF hF2 hel
      obtain ⟨A0, c0, rfl, hc0, hC0⟩ := Kd.R_reads HR.out
      have HA := Aside0.mk (append_at hC0 hc0 hCB hd HY.out (by omega) (by omega))
      rw [← HFS.out] at HA
      clear hC0 hCB HR
      go_wp2_with (first | (go_at_call 21; with_reducible refine HA.out.mono ?_; rintro e w2 ⟨v2, rfl, hr2, hw2⟩; obtain ⟨A2, c2, rfl⟩ := Kd.R_slice hr2; have HR2 := Aside0.mk (Kd.R_lower hr2 HSz.out); have HI2 := Aside0.mk (Kd.R_below HI.out hw2); have HW2 := Aside0.mk (below_then HW.out HSz.out hw2); have HS2 := Aside0.mk hw2.size; clear hr2 hw2) | ((with_reducible refine gate_dst (N := 30) rfl ?_); refine app_int (w0 := w) w.heap.size rfl (.tmp 26) (.tmp 29) rfl _ (endsL (l.take k)) (fs.length : Int) rfl rfl HI2.out HW2.out (Nat.le_trans HSz.out HS2.out) (by omega) ?_; intro v3 w3 HI3 HW3 HG3) | fail)
      go_roundw
      case rel => exact ⟨k + 1, by omega, by go_num, ⟨by rw [← HFR.out]; exact RB_grown HR2.out HI2.out HG3.out⟩, ⟨by rw [HES.out]; exact HI3.out⟩, HW3⟩
      case measure => simp [intOf]; omega
    · obtain rfl : k = l.length := by omega
      rw [List.take_length] at HR HI
      go_wp2
      go_ret3
      exact ⟨_, _, rfl, HR.out, HI.out, HW.out⟩
end Go.Proofs.Ytfaniohoplbdoaa.My
