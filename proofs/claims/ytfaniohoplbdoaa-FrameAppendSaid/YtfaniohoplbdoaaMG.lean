/- The reference of layer 10: Append. -/
import Derived.Test.YtfaniohoplbdoaaMF
namespace Go.Proofs.Ytfaniohoplbdoaa.My
open Go Go.RowKit Go.Proofs.YtfaniohoplbdoaaW.PrintWords Go.Proofs.YtfaniohoplbdoaaW.PrintLast Go.Proofs.YtfaniohoplbdoaaW.PrintMore
set_option linter.unusedVariables false
set_option linter.unusedSimpArgs false
theorem four_calls (n : Nat) (hn : n < 4294967296) (w : World) : Calls Try.prog 72 #[.int .u32 (n : Int)] w fun e w' => ∃ v, e = .returned v ∧ RB w' w.heap.size v (be4 n) ∧ Below w.heap.size w w' := by
  refine PFrameAppend.bitemporalref10_four.calls (n : Int) (be4 n) w ?_
  unfold PFrameAppend.bitemporalref10_four.f be4
  rw [Int.tdiv_eq_ediv_of_nonneg (by omega), Int.tdiv_eq_ediv_of_nonneg (by omega), Int.tdiv_eq_ediv_of_nonneg (by omega), Int.tmod_eq_emod_of_nonneg (by omega)]
  simp only [Option.some.injEq, List.cons.injEq, and_true]
  omega
theorem rAppend_long (A : Option Addr) (c n : Nat) (A' : Option Addr) (c' m : Nat) (w : World) (h : 1048576 < m) (hm : m ≤ 9223372036854775807) :
    Calls Try.prog 22 #[.slice A n c, .slice A' m c'] w fun e w' => e = .returned (.tuple #[.slice none 0 0, .int .i64 5]) ∧ Drawn0 w w' := by
  go_enter Try.func22, Try.ntmps22
  go_wp2
  go_ret2
  exact ⟨rfl, Drawn0.refl w⟩
/-- An empty row that has just been made. -/
theorem RB_new (W : World) : RB (W.alloc (.cells #[] 5)) W.heap.size (.slice (some ⟨W.heap.size, 0, none⟩) 0 0) [] :=
  RB_of_blk (l := []) (heap_alloc_new W _) (Nat.le_refl _) (by simp)
/-- 'append(v, ys...)' on bytes. -/
theorem app_bts {ops : Array Oper} {rest : List Oper} {o : Oper} {a : Act} {Q : Exit → Act → World → Prop} {w0 W : World} (base : Nat) (hgd : o.guard = none) (s x : Operand)
    (ho : o.op = .call { callee := .builtin .append, args := #[s, x], argTypes := #[22, 22] }) (v : Value) (xs ys : List Int) (A : Option Addr) (c : Nat) (hs : a.eval s = v) (hx : a.eval x = .slice A ys.length c)
    (HO : RB W base v xs) (HR : CB W A ys) (HB : Below base w0 W) (hbase : base ≤ W.heap.size) (hl : xs.length + ys.length ≤ 140737488355328)
    (h : ∀ (zs : List Int) v1 w1, Aside0 (zs = xs ++ ys) → Aside0 (RB w1 base v1 zs) → Aside0 (Below base w0 w1) → wpList Try.prog ops Q rest (a.put o.dst v1) w1) : wpList Try.prog ops Q (o :: rest) a W :=
  Kd.R_append_rows (Kd.int .u8) base hgd s x 22 5 (.int .u8 0) 1 ho Try.underlying22 info5 rfl (by decide) (by decide) v xs ys A ys.length c (fun _ => True) (fun _ => False) hs hx HO HR (fun _ _ h => h) (fun _ h => h.elim) (fun _ _ => trivial) HB hbase (by omega)
    (fun v1 w1 h1 h2 _ _ => h _ v1 w1 ⟨rfl⟩ ⟨h1⟩ ⟨h2⟩)
set_option maxHeartbeats 400000 in
set_option maxRecDepth 100000 in
theorem rAppend_ok (A : Option Addr) (c : Nat) (l : List Int) (A' : Option Addr) (c' : Nat) (body : List Int) (w : World) (hC : CB w A l) (hc : l.length ≤ c) (hC' : CB w A' body) (hc' : body.length ≤ c') (hb : Byt body)
    (hlen : body.length ≤ 1048576) (hl : l.length ≤ 70368744177664) :
    Calls Try.prog 22 #[.slice A l.length c, .slice A' body.length c'] w fun e w' => ∃ v, e = .returned (.tuple #[v, .int .i64 0]) ∧ RB w' w.heap.size v (l ++ frameL body) ∧ Below w.heap.size w w' := by
  have HC := Aside0.mk hC
  have HC' := Aside0.mk hC'
  have HB := Aside0.mk hb
  have HF := Aside0.mk (four_calls body.length (by omega) w)
  clear hC hC' hb
  go_enter Try.func22, Try.ntmps22
  have hb4 := Aside0.mk (be4_length body.length)
  obtain ⟨b4, hb4e⟩ : ∃ b4, b4 = be4 body.length := ⟨_, rfl⟩
  rw [← hb4e] at HF hb4
  have HE := Aside0.mk hb4e
  clear hb4e
  go_wp2_with (first | (go_at_call 72; refine HF.out.mono ?_; rintro e w1 ⟨v6, rfl, hr6, hw1⟩; obtain ⟨A6, c6, rfl, hc6, hC6⟩ := Kd.R_reads hr6; have HR6 := Aside0.mk hC6; have HW1 := Aside0.mk hw1; clear HF hr6 hw1 hC6) | ((with_reducible refine gate_dst (N := 17) rfl ?_); refine app_bts (w0 := w1) w1.heap.size rfl (.tmp 15) (.tmp 16) rfl _ [] l A c rfl rfl (RB_new w1) (Kd.C_alloc (Kd.C_below HC.out HW1.out) _) (below_alloc (Below.refl _ _) _) (by simp) (by simp; omega) ?_; intro l17 v17 w2 E17 HR2 HW2) | ((with_reducible refine gate_dst (N := 19) rfl ?_); refine app_bts (w0 := w1) w1.heap.size rfl (.tmp 17) (.tmp 18) rfl _ l17 b4 A6 c6 rfl rfl HR2.out (Kd.C_below HR6.out HW2.out) HW2.out HW2.out.size (by rw [hb4.out, E17.out]; simp; omega) ?_; intro l19 v19 w3 E19 HR3 HW3) | ((with_reducible refine gate_dst (N := 23) rfl ?_); refine app_bts (w0 := w3) w3.heap.size rfl (.tmp 21) (.tmp 22) rfl _ [] b4 A6 c6 rfl rfl (RB_new w3) (Kd.C_alloc (Kd.C_below HR6.out HW3.out) _) (below_alloc (Below.refl _ _) _) (by simp) (by rw [hb4.out]; decide) ?_; intro l23 v23 w4 E23 HR4 HW4) | ((with_reducible refine gate_dst (N := 25) rfl ?_); refine app_bts (w0 := w3) w3.heap.size rfl (.tmp 23) (.tmp 24) rfl _ l23 body A' c' rfl rfl HR4.out (Kd.C_below HC'.out (below_then (below_then HW1.out HW1.out.size HW3.out) (Nat.le_trans HW1.out.size HW3.out.size) HW4.out)) HW4.out HW4.out.size (by rw [E23.out, List.nil_append, hb4.out]; omega) ?_; intro l25 v25 w5 E25 HR5 HW5; obtain ⟨A25, c25, rfl, hc25, hC25⟩ := Kd.R_reads HR5.out; have HC25 := Aside0.mk hC25; clear HR5 hC25 HR4 HW4) | (go_at_call 19; refine (rSum_calls A25 c25 l25 w5 HC25.out hc25 (by rw [E25.out, E23.out, List.nil_append, HE.out]; exact (be4_byt _).append HB.out)).mono ?_; rintro e w6 ⟨rfl, n6, rfl⟩) | (go_at_call 72; refine (four_calls (sumL l25) (sumL_lt _) _).mono ?_; rintro e w7 ⟨v27, rfl, hr7, hw7⟩; obtain ⟨b8, e8⟩ : ∃ b8, b8 = be4 (sumL l25) := ⟨_, rfl⟩; rw [← e8] at hr7; have E8 := Aside0.mk e8; clear e8; obtain ⟨A27, c27, rfl, hc27, hC27⟩ := Kd.R_reads hr7; have HC27 := Aside0.mk hC27; have HW7 := Aside0.mk (below_then (pw_below_drewN HW5.out n6) HW5.out.size hw7); clear hr7 hw7 hC27) | ((with_reducible refine gate_dst (N := 28) rfl ?_); refine app_bts (w0 := w1) w1.heap.size rfl (.tmp 20) (.tmp 27) rfl _ l19 b8 A27 c27 rfl rfl (Kd.R_below HR3.out HW7.out) HC27.out (below_then HW3.out HW3.out.size HW7.out) (Nat.le_trans HW3.out.size HW7.out.size) (by rw [E8.out, E19.out, E17.out]; simp only [List.nil_append, List.length_append, hb4.out, be4_length]; omega) ?_; intro l28 v28 w8 E28 HR8 HW8; clear HC27 HW7) | ((with_reducible refine gate_dst (N := 31) rfl ?_); refine app_bts (w0 := w1) w1.heap.size rfl (.tmp 29) (.tmp 30) rfl _ l28 body A' c' rfl rfl HR8.out (Kd.C_below HC'.out (below_then HW1.out HW1.out.size HW8.out)) HW8.out HW8.out.size (by rw [E28.out, E8.out, E19.out, E17.out]; simp only [List.nil_append, List.length_append, hb4.out, be4_length]; omega) ?_; intro l31 v31 w9 E31 HR9 HW9) | fail)
  go_ret2
  have he : l31 = l ++ frameL body := by
    rw [E31.out, E28.out, E8.out, E19.out, E17.out, E25.out, E23.out, HE.out]
    simp [frameL, headL]
  have hr := HR9.out
  rw [he] at hr
  exact ⟨_, rfl, Kd.R_lower hr HW1.out.size, below_then HW1.out HW1.out.size HW9.out⟩
end Go.Proofs.Ytfaniohoplbdoaa.My
