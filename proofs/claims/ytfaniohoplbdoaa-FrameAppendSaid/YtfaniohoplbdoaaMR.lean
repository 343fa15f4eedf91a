/- The reference of layer 10: Append, for any bytes that an argument can hold. -/
import Derived.Test.YtfaniohoplbdoaaMN
import Derived.Deep.DeepAppendWide
namespace Go.Proofs.Ytfaniohoplbdoaa.My
open Go Go.RowKit Go.Proofs.YtfaniohoplbdoaaW.PrintWords Go.Proofs.YtfaniohoplbdoaaW.PrintLast Go.Proofs.YtfaniohoplbdoaaW.PrintMore
set_option linter.unusedVariables false
set_option linter.unusedSimpArgs false
/-- 'append(v, ys...)' on bytes, beyond the elder bound. -/
theorem app_far {ops : Array Oper} {rest : List Oper} {o : Oper} {a : Act} {Q : Exit → Act → World → Prop} {w0 W : World} (base : Nat) (hgd : o.guard = none) (s x : Operand)
    (ho : o.op = .call { callee := .builtin .append, args := #[s, x], argTypes := #[22, 22] }) (v : Value) (xs ys : List Int) (A : Option Addr) (c : Nat) (hs : a.eval s = v) (hx : a.eval x = .slice A ys.length c)
    (HO : RB W base v xs) (HR : CB W A ys) (HB : Below base w0 W) (hbase : base ≤ W.heap.size) (hl : xs.length + ys.length ≤ 211106232532992)
    (h : ∀ (zs : List Int) v1 w1, Aside0 (zs = xs ++ ys) → Aside0 (RB w1 base v1 zs) → Aside0 (Below base w0 w1) → wpList Try.prog ops Q rest (a.put o.dst v1) w1) : wpList Try.prog ops Q (o :: rest) a W := by
  obtain ⟨i0, hi0, hz0, hsz, hby⟩ := info_parts info5
  have hO : W.ownsRow base 5 1 v xs.length (bts xs) := Kd.own_of_R HO
  have hrun : ∃ v1 w1, (Builtin.append_ #[22, 22] o.type #[v, .slice A ys.length c]).run Try.prog W = .ok v1 w1 ∧ RB w1 base v1 (xs ++ ys) ∧ W.grownBy w1 v.ownBlock := by
    rcases A with _ | ad
    · have h0 : ys = [] := by
        rcases Nat.eq_zero_or_pos ys.length with h0 | h0
        · exact List.eq_nil_of_length_eq_zero h0
        · obtain ⟨ad, h, _⟩ := CB.src HR (by rw [bts_len]; exact h0)
          cases h
      subst h0
      refine ⟨v, W, ?_, by rw [List.append_nil]; exact HO, World.grownBy.refl W _⟩
      rcases hO.2 with ⟨rfl, hn⟩ | ⟨g, cap, cur, rfl, _, _, hnc, _⟩
      · simp [Builtin.append_, run_underlying Try.underlying22, sizeOf, typeInfo, hi0, Builtin.lenOf, Builtin.firstCells]
      · simp [Builtin.append_, run_underlying Try.underlying22, sizeOf, typeInfo, hi0, Builtin.lenOf, Builtin.firstCells, hnc, storeCells]
    · have hnews : ∀ j u, (bts ys)[j]? = some u → W.cell? (ad.add j) = some u := by
        intro j u hj
        have hlt := (List.getElem?_eq_some_iff.1 hj).1
        obtain ⟨ad', e, h⟩ := CB.src HR (by omega)
        obtain rfl : ad = ad' := Option.some.inj e
        exact h j u hj
      have h63 : xs.length + ys.length ≤ maxLen := by simp only [maxLen]; omega
      have hbt : ((xs.length + ys.length) + (xs.length + ys.length) / 4 + 192) * 1 ≤ 281474976710656 := by omega
      obtain ⟨v1, w1, hr, hown, hg, _⟩ := run_append_own_wide (P := Try.prog) W base 22 o.type 5 i0 (.int .u8 0) 1 1 Try.underlying22 hi0 hz0 hsz hby rfl (by decide) v xs.length (bts xs) hO ad ys.length c (bts ys) (by rw [bts_len, Nat.mul_one]) hnews (bts_one ys) h63 hbt hbase
      refine ⟨v1, w1, hr, ?_, hg⟩
      rw [← bts_app, ← List.length_append] at hown
      exact Kd.R_of_own (enc := Value.int .u8) (h1 := fun _ => rfl) hown (fun _ _ => trivial)
  obtain ⟨v1, w1, hr1, h1, hg⟩ := hrun
  refine wpList_plain hgd fun K hK => ?_
  unfold Oper.wp execOp
  simp only [ho, resolve, invoke, builtin, Sem.run_bind, Sem.run_pure, Result.andThen_ok, List.map_toArray, List.map_cons, List.map_nil, hs, hx, hr1]
  exact hK _ _ (h _ v1 w1 ⟨rfl⟩ ⟨h1⟩ ⟨HB.grown hg hbase (fun k hk => (hO.lt k hk).1)⟩)
set_option maxHeartbeats 400000 in
set_option maxRecDepth 100000 in
theorem rAppend_far (A : Option Addr) (c : Nat) (l : List Int) (A' : Option Addr) (c' : Nat) (body : List Int) (w : World) (hC : CB w A l) (hc : l.length ≤ c) (hC' : CB w A' body) (hc' : body.length ≤ c') (hb : Byt body)
    (hlen : body.length ≤ 1048576) (hl : l.length ≤ 140737488351232) :
    Calls Try.prog 22 #[.slice A l.length c, .slice A' body.length c'] w fun e w' => ∃ v, e = .returned (.tuple #[v, .int .i64 0]) ∧ RB w' w.heap.size v (l ++ frameL body) ∧ Below w.heap.size w w' := by
  have HC := Aside0.mk hC
  have HC' := Aside0.mk hC'
  have HB := Aside0.mk hb
  have HF := Aside0.mk (four_calls body.length (by omega) w)
  clear hC hC' hb
  go_enter Try.func22, Try.ntmps22
  have hb4 := Aside0.mk (be4_length body.length)
  obtain ⟨b4, hb4e⟩ : ∃ b4, b4 = be4 body.length := ⟨_, rfl⟩
  rw [← hb4e] at HF hb4
  have HE := Aside0.mk hb4e
  clear hb4e
  go_wp2_with (first | (go_at_call 72; refine HF.out.mono ?_; rintro e w1 ⟨v6, rfl, hr6, hw1⟩; obtain ⟨A6, c6, rfl, hc6, hC6⟩ := Kd.R_reads hr6; have HR6 := Aside0.mk hC6; have HW1 := Aside0.mk hw1; clear HF hr6 hw1 hC6) | ((with_reducible refine gate_dst (N := 17) rfl ?_); refine app_far (w0 := w1) w1.heap.size rfl (.tmp 15) (.tmp 16) rfl _ [] l A c rfl rfl (RB_new w1) (Kd.C_alloc (Kd.C_below HC.out HW1.out) _) (below_alloc (Below.refl _ _) _) (by simp) (by simp; omega) ?_; intro l17 v17 w2 E17 HR2 HW2) | ((with_reducible refine gate_dst (N := 19) rfl ?_); refine app_far (w0 := w1) w1.heap.size rfl (.tmp 17) (.tmp 18) rfl _ l17 b4 A6 c6 rfl rfl HR2.out (Kd.C_below HR6.out HW2.out) HW2.out HW2.out.size (by rw [hb4.out, E17.out]; simp; omega) ?_; intro l19 v19 w3 E19 HR3 HW3) | ((with_reducible refine gate_dst (N := 23) rfl ?_); refine app_far (w0 := w3) w3.heap.size rfl (.tmp 21) (.tmp 22) rfl _ [] b4 A6 c6 rfl rfl (RB_new w3) (Kd.C_alloc (Kd.C_below HR6.out HW3.out) _) (below_alloc (Below.refl _ _) _) (by simp) (by rw [hb4.out]; decide) ?_; intro l23 v23 w4 E23 HR4 HW4) | ((with_reducible refine gate_dst (N := 25) rfl ?_); refine app_far (w0 := w3) w3.heap.size rfl (.tmp 23) (.tmp 24) rfl _ l23 body A' c' rfl rfl HR4.out (Kd.C_below HC'.out (below_then (below_then HW1.out HW1.out.size HW3.out) (Nat.le_trans HW1.out.size HW3.out.size) HW4.out)) HW4.out HW4.out.size (by rw [E23.out, List.nil_append, hb4.out]; omega) ?_; intro l25 v25 w5 E25 HR5 HW5; obtain ⟨A25, c25, rfl, hc25, hC25⟩ := Kd.R_reads HR5.out; have HC25 := Aside0.mk hC25; clear HR5 hC25 HR4 HW4) | (go_at_call 19; refine (rSum_calls A25 c25 l25 w5 HC25.out hc25 (by rw [E25.out, E23.out, List.nil_append, HE.out]; exact (be4_byt _).append HB.out)).mono ?_; rintro e w6 ⟨rfl, n6, rfl⟩) | (go_at_call 72; refine (four_calls (sumL l25) (sumL_lt _) _).mono ?_; rintro e w7 ⟨v27, rfl, hr7, hw7⟩; obtain ⟨b8, e8⟩ : ∃ b8, b8 = be4 (sumL l25) := ⟨_, rfl⟩; rw [← e8] at hr7; have E8 := Aside0.mk e8; clear e8; obtain ⟨A27, c27, rfl, hc27, hC27⟩ := Kd.R_reads hr7; have HC27 := Aside0.mk hC27; have HW7 := Aside0.mk (below_then (pw_below_drewN HW5.out n6) HW5.out.size hw7); clear hr7 hw7 hC27) | ((with_reducible refine gate_dst (N := 28) rfl ?_); refine app_far (w0 := w1) w1.heap.size rfl (.tmp 20) (.tmp 27) rfl _ l19 b8 A27 c27 rfl rfl (Kd.R_below HR3.out HW7.out) HC27.out (below_then HW3.out HW3.out.size HW7.out) (Nat.le_trans HW3.out.size HW7.out.size) (by rw [E8.out, E19.out, E17.out]; simp only [List.nil_append, List.length_append, hb4.out, be4_length]; omega) ?_; intro l28 v28 w8 E28 HR8 HW8; clear HC27 HW7) | ((with_reducible refine gate_dst (N := 31) rfl ?_); refine app_far (w0 := w1) w1.heap.size rfl (.tmp 29) (.tmp 30) rfl _ l28 body A' c' rfl rfl HR8.out (Kd.C_below HC'.out (below_then HW1.out HW1.out.size HW8.out)) HW8.out HW8.out.size (by rw [E28.out, E8.out, E19.out, E17.out]; simp only [List.nil_append, List.length_append, hb4.out, be4_length]; omega) ?_; intro l31 v31 w9 E31 HR9 HW9) | fail)
  go_ret2
  have he : l31 = l ++ frameL body := by
    rw [E31.out, E28.out, E8.out, E19.out, E17.out, E25.out, E23.out, HE.out]
    simp [frameL, headL]
  have hr := HR9.out
  rw [he] at hr
  exact ⟨_, rfl, Kd.R_lower hr HW1.out.size, below_then HW1.out HW1.out.size HW9.out⟩
end Go.Proofs.Ytfaniohoplbdoaa.My
