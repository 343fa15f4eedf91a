/- The statement DiskLoad. -/
import Derived.Test.YtfaniohoplbdoaaBd
import Derived.Test.YtfaniohoplbdoaaRows
import Derived.WalkKit
import Derived.ProofKit
import Derived.OpenShut
import Derived.ShutString
import Derived.ChangeOld
import Derived.Below
import Derived.SizedLaws
import Derived.Test.YtfaniohoplbdoaaWSized
namespace Go.Proofs.Ytfaniohoplbdoaa.My
open Go Go.RowKit Go.Proofs.YtfaniohoplbdoaaW.PrintWords Go.Proofs.YtfaniohoplbdoaaW.PrintLast Go.Proofs.YtfaniohoplbdoaaW.PrintMore Go.Proofs.Ytfaniohoplbdoaa.PDiskActs
set_option linter.unusedVariables false
set_option linter.unusedSimpArgs false
set_option maxHeartbeats 4000000 in
set_option maxRecDepth 100000 in
theorem law_load (A : Option Addr) (c : Nat) (l : List S109) (o : S82) (B : Option Addr) (d : Nat) (w : World) (hF : ArgF w A c l) :
    Calls Try.prog 12 #[.slice A l.length c, opV o B d] w (TruePost w) := by
  obtain ⟨wb, hwb⟩ : ∃ wb, wb = w.alloc (.cells (opC o B d) 82) := ⟨_, rfl⟩
  have hW : Below w.heap.size w wb := by rw [hwb]; exact below_alloc (Below.refl _ _) _
  have hb1 : wb.heap[w.heap.size]? = some (.cells (opC o B d) 82 (0, 0)) := by rw [hwb]; exact blk_new _ _
  obtain ⟨q1, q2, q3, q4, q5⟩ : (wb.cell? ⟨w.heap.size, 1, none⟩ = some (.string o.f1) ∧ wb.cell? ⟨w.heap.size, 2, none⟩ = some (.string o.f2) ∧ wb.cell? ⟨w.heap.size, 3, none⟩ = some (.slice B o.f3.length d) ∧ wb.cell? ⟨w.heap.size, 4, none⟩ = some (.int .i64 o.f4) ∧ wb.cell? ⟨w.heap.size, 5, none⟩ = some (.int .i64 o.f5)) := ⟨(blk_cell hb1 1).trans rfl, (blk_cell hb1 2).trans rfl, (blk_cell hb1 3).trans rfl, (blk_cell hb1 4).trans rfl, (blk_cell hb1 5).trans rfl⟩
  have hlt := blk_lt hb1
  have HWB := Aside0.mk hwb
  have HW := Aside0.mk hW
  have hF1 := hF.move hW
  have hBig : Calls Try.prog 62 #[.slice A l.length c, .slice none 0 0] wb fun e w' => e = .returned (.bool (bigD l [])) ∧ Below wb.heap.size wb w' := large_arg (A' := none) (c' := 0) (ops := []) hF1 ⟨Kd.C_nil _ _, by simp, by simp⟩
  have HBig := Aside0.mk hBig
  have hu82 := Try.underlying82
  have hu53 := Try.underlying53
  have HF := Aside0.mk hF1
  clear hwb hW hb1 hF hF1 hBig
  go_enter Try.func12, Try.ntmps12
  go_wp2_with (first | (go_at_call 55; rw [← HWB.out]; with_reducible refine (nil_sync _).mono ?_; rintro e w2 ⟨rfl, h2⟩; rw [h2]; clear h2 w2) | (go_at_call 49; with_reducible refine (nil_crash _ _ _).mono ?_; rintro e w2 ⟨rfl, h2⟩; rw [h2]; clear h2 w2) | (go_at_call 56; with_reducible refine (nil_read _ _).mono ?_; rintro e w2 ⟨rfl, h2⟩; rw [h2]; clear h2 w2) | (go_at_call 57; with_reducible refine (nil_append _ _ _).mono ?_; rintro e w2 ⟨rfl, h2⟩; rw [h2]; clear h2 w2) | (go_at_call 58; with_reducible refine (nil_remove _ _).mono ?_; rintro e w2 ⟨rfl, h2⟩; rw [h2]; clear h2 w2) | (go_at_call 59; with_reducible refine (nil_rename _ _ _).mono ?_; rintro e w2 ⟨rfl, h2⟩; rw [h2]; clear h2 w2) | (go_at_call 60; with_reducible refine (nil_files _).mono ?_; rintro e w2 ⟨rfl, h2⟩; rw [h2]; clear h2 w2) | (go_at_call 61; with_reducible refine (nil_view _).mono ?_; rintro e w2 ⟨rfl, h2⟩; rw [h2]; clear h2 w2) | (go_at_call 54; with_reducible refine (nil_pending _).mono ?_; rintro e w2 ⟨rfl, h2⟩; rw [h2]; clear h2 w2) | fail)
  refine HBig.out.mono ?_
  rintro e w3 ⟨rfl, hB3⟩
  have HF3 := Aside0.mk (HF.out.move hB3)
  have HB3 := Aside0.mk (below_then HW.out HW.out.size hB3)
  clear hB3 HBig HF q1 q2 q3 q4 q5
  cases hbig : bigD l [] with
  | true =>
    clear hbig
    go_wp2_with (first | (go_at_call 63; with_reducible refine (works_disk _).mono ?_; rintro e w4 ⟨rfl, hB4⟩; have HB4 := Aside0.mk (below_then HB3.out HB3.out.size hB4); clear hB4) | fail)
    go_ret
    exact ⟨rfl, HB4.out⟩
  | false =>
    have HBd := Aside0.mk (bigD_false hbig)
    clear hbig
    cases hlo : loadOk l with
    | false =>
      have HLo := Aside0.mk (dload_no HF3.out hlo)
      have HLx := Aside0.mk (fun (W : World) (hB : Below w3.heap.size w3 W) => xload_no (HF3.out.move hB) hlo)
      clear hlo
      go_wp2_with (first | (go_at_call 37; with_reducible refine HLo.out.mono ?_; rintro e w4 ⟨rfl, hB1⟩; have HB4 := Aside0.mk hB1; clear hB1) | (go_at_call 38; with_reducible refine (HLx.out _ HB4.out).mono ?_; rintro e w5 ⟨⟨A2, n2, c2, A3, n3, c3, rfl⟩, hB2⟩; have HB5 := Aside0.mk (below_then (below_then HB3.out HB3.out.size HB4.out) (Nat.le_trans HB3.out.size HB4.out.size) hB2); clear hB2) | (go_at_call 63; with_reducible refine (works_disk _).mono ?_; rintro e w6 ⟨rfl, hB3⟩; have HB6 := Aside0.mk (below_then (below_alloc' HB5.out _ HB5.out.size) (by rw [alloc_size]; have := HB5.out.size; omega) hB3); clear hB3) | fail)
      go_ret
      exact ⟨rfl, HB6.out⟩
    | true =>
      have HLo := Aside0.mk (dload_yes HF3.out hlo)
      have HLx := Aside0.mk (fun (W : World) (hB : Below w3.heap.size w3 W) => xload_yes (HF3.out.move hB) hlo)
      clear hlo
      have hlen := loadL_length l
      have hbts := load_bytes l
      obtain ⟨L0, hL0⟩ : ∃ L0, L0 = loadL l := ⟨_, rfl⟩
      rw [← hL0] at HLo HLx hlen hbts
      clear hL0
      go_wp2_with (first | (go_at_call 37; with_reducible refine HLo.out.mono ?_; rintro e w4 ⟨g, S, rfl, hD1, hS1, hB1⟩; have HB1 := Aside0.mk hB1; have HD1 := Aside0.mk hD1; have HS1 := Aside0.mk hS1; clear hB1 hD1 hS1) | (go_at_call 38; with_reducible refine (HLx.out _ HB1.out).mono ?_; rintro e w5 ⟨u, v, rfl, hx, hB2⟩; obtain ⟨A2, c2, A3, c3, rfl, rfl, hP⟩ := Pair.made (w3 := w5.alloc (.cells #[u, v] 53)) HD1.out HS1.out HB1.out.size hx hB2 rfl (below_alloc (Below.refl _ _) _) (blk_new _ _); have HPr := Aside0.mk hP; have HB2 := Aside0.mk (below_then (below_then HB3.out HB3.out.size HB1.out) (Nat.le_trans HB3.out.size HB1.out.size) hB2); clear hx hB2 hP) | fail)
      refine (same_calls _ S _ g l.length L0 [] A2 c2 A3 c3 HPr.out.dst HPr.out.xst (HPr.out.sz (by have := HBd.out.1; omega) (by have := HBd.out.2.2; omega))).mono ?_
      rintro e w6 ⟨rfl, hB6⟩
      have HB6 := Aside0.mk (below_then (below_alloc' HB2.out (.cells #[.slice A2 L0.length c2, .slice A3 0 c3] 53) HB2.out.size) (by rw [alloc_size]; have := HB2.out.size; omega) hB6)
      clear hB6 HPr
      go_wp2_with (first | (go_at_call 63; with_reducible refine (works_disk _).mono ?_; rintro e w7 ⟨rfl, hB7⟩; have HB7 := Aside0.mk (below_then HB6.out HB6.out.size hB7); clear hB7) | fail)
      go_ret
      exact ⟨rfl, HB7.out⟩
end Go.Proofs.Ytfaniohoplbdoaa.My
/- The statement DiskLoad returns true for all files and each operation, and these read as before. Conditions: none. -/
namespace Go.Proofs.Ytfaniohoplbdoaa.diskLoad
open Go.ChangeShapes Go.WideShapes Go.ChangeAt Go.RowKit
open Go.ChangeMaps (open_string shut_string)
open Go.Proofs.Ytfaniohoplbdoaa.My Go.Proofs.Ytfaniohoplbdoaa.PDiskActs
set_option linter.unusedVariables false
set_option linter.unusedSimpArgs false

theorem own : ownKnob Try.prog.godebug = none := by kernel_rfl
theorem laidOut : laidOutB Try.prog = true := by kernel_rfl

set_option maxRecDepth 100000 in
theorem lifted (os : Os) (started : os.Started) (H : Type) (enc : TypeId × Value → H) :
    ReturnsInHanded {} Try.checked os 12 .any (Rows.diskLoadSpec.pre6 enc Try.prog Try.f12 Rows.diskLoadRow.domain false) (Rows.diskLoadSpec.post enc Try.prog Try.f12 false true false false) := by
  refine returnsInHanded_of_change_sized (C := Try.checked) own started (by kernel_rfl) Try.func12
    (ChangeSpec.witness6 (enc := enc) (C := Try.checked) false ⟨#[], #[.slice none 0 0, .agg #[.int .i64 0, .string ⟨#[]⟩, .string ⟨#[]⟩, .slice none 0 0, .int .i64 0, .int .i64 0]], []⟩ 8 (by kernel_rfl) (by kernel_rfl) (by kernel_rfl) (by kernel_rfl)) ?_
  intro W base args ds gs before hval0 hW hcnd hsz0 _
  have hsz : (DataW.weightsEach Try.prog (Try.f12.params.toList ++ Rows.diskLoadSpec.plain.varTypes Try.prog) (ds ++ gs)).all (· ≤ reachBytes) = true := hsz0
  have hval : ∀ (j : Nat) t v, Try.f12.params[j]? = some t → args[j]? = some v → Value.okWide Try.prog W .any base t v := hval0
  have hW' := hW
  obtain ⟨p, q, hA0, hV, rfl, hfz, hnd⟩ := hW
  have hA : DataW.TrodAll enc Try.prog W 0 (fun _ => true) true Try.f12.params.toList args.toList ds p := hA0
  rw [Try.params12] at hA hval hsz
  obtain ⟨v0, vs0, d0, ds0, p0, q0, hargs, rfl, rfl, h0, r0⟩ := trodAll_cons hA
  obtain ⟨v1, vs1, d1, ds1, p1, q1, rfl, rfl, rfl, h1, r1⟩ := trodAll_cons r0
  obtain ⟨rfl, rfl, rfl⟩ := trodAll_nil r1
  obtain rfl : args = #[v0, v1] := by cases args; simp_all
  obtain ⟨rfl, rfl⟩ := trodVars_none hV
  obtain ⟨a0, len0, cap0, rfl⟩ := okWide_slice Try.underlying42 (hval 0 42 v0 rfl rfl)
  obtain ⟨cs1, rfl, _⟩ := okWide_struct Try.underlying82 (hval 1 82 v1 rfl rfl)
  have k0 := h0
  have k1 := h1
  have lt0 : ∀ x ∈ p0, x.block < W.heap.size := by obtain ⟨m, hm⟩ := k0; exact DataW.trod_lt m _ _ _ hm
  have lt1 : ∀ x ∈ p1, x.block < W.heap.size := by obtain ⟨m, hm⟩ := k1; exact DataW.trod_lt m _ _ _ hm
  obtain ⟨l, rfl, hF⟩ := open_files_sized hsz (j := 0) rfl rfl h0
  have ho : ∃ (o : S82) (B : Option Addr) (d : Nat), cs1 = #[.int .i64 o.f0, .string o.f1, .string o.f2, .slice B o.f3.length d, .int .i64 o.f4, .int .i64 o.f5] := by
    obtain ⟨fuel, hf⟩ := h1
    obtain ⟨o, B, d, hcs, _⟩ := open_op hf (fun n hn => by simpa using List.all_eq_true.1 hsz n (DataW.weights_mem_each (j := 1) (t := 82) rfl rfl n hn))
    exact ⟨o, B, d, by cases cs1; simpa [Value.cells] using hcs⟩
  obtain ⟨o, B, d, rfl⟩ := ho
  clear hA0 hval0 hsz0 hsz
  refine (law_load a0 cap0 l o B d W hF).mono fun e W' ⟨he, bel⟩ => ?_
  subst he
  exact ⟨_, rfl, _, _, _, [], _, [], hW', trodAll_mk1 (shut_bool Try.underlying4 _), (trodAll_cons_mk (Below.trod laidOut (by kernel_rfl) (of_decide_eq_true (by kernel_rfl)) k0 bel lt0) (trodAll_cons_mk (Below.trod laidOut (by kernel_rfl) (of_decide_eq_true (by kernel_rfl)) k1 bel lt1) trodAll_mk0)), rfl, bel.frame _, fun h => by cases h⟩

theorem over : Rows.diskLoadRow.holds Try.pinned (OpenSpec.ofChange Rows.diskLoadSpec) :=
  OpenClaim.holds_of_wide 12 Try.f12 rfl rfl rfl rfl rfl rfl rfl ⟨rfl, rfl, rfl, rfl, rfl⟩ rfl rfl rfl rfl rfl (by kernel_rfl) Try.func12 (by kernel_rfl)
    (of_decide_eq_true (by kernel_rfl)) (by unfold Func.isWrapper; first | (rw [if_pos (by decide +kernel)]; kernel_rfl) | (rw [if_neg (by decide +kernel)]; exact ⟨rfl, rfl⟩))
    (fun os started H enc _ => lifted os started H enc)

theorem proved : Rows.DiskLoadSaid := over
#print axioms proved
end Go.Proofs.Ytfaniohoplbdoaa.diskLoad
