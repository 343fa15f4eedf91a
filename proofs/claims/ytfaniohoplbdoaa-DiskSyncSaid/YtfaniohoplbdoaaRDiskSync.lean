/- The statement DiskSync. -/
import Derived.Test.YtfaniohoplbdoaaBd
import Derived.Test.YtfaniohoplbdoaaRows
import Derived.WalkKit
import Derived.ProofKit
import Derived.OpenShut
import Derived.ShutString
import Derived.ChangeOld
import Derived.Below
import Derived.SizedLaws
import Derived.Test.YtfaniohoplbdoaaWSized
namespace Go.Proofs.Ytfaniohoplbdoaa.My
open Go Go.RowKit Go.Proofs.YtfaniohoplbdoaaW.PrintWords Go.Proofs.YtfaniohoplbdoaaW.PrintLast Go.Proofs.YtfaniohoplbdoaaW.PrintMore Go.Proofs.Ytfaniohoplbdoaa.PDiskActs
set_option linter.unusedVariables false
set_option linter.unusedSimpArgs false
theorem crash_nil (l : List S109) (keep torn : Int) : crashL l [] keep torn = l := by
  unfold crashL
  rw [dif_neg (by simp)]
  simp [viewL]
set_option maxHeartbeats 4000000 in
set_option maxRecDepth 100000 in
theorem law_sync (A : Option Addr) (c : Nat) (l : List S109) (A' : Option Addr) (c' : Nat) (ops : List S82) (keep : Int) (w : World) (hF : ArgF w A c l) (hP : ArgP w A' ops) :
    Calls Try.prog 16 #[.slice A l.length c, .slice A' ops.length c', .int .i64 keep] w (TruePost w) := by
  have hm := Kd.C_max hP.rd
  have HF := Aside0.mk (fun (W : World) (hB : Below w.heap.size w W) => hF.move hB)
  have HP := Aside0.mk (fun (W : World) (hB : Below w.heap.size w W) => hP.move hB)
  have HBig := Aside0.mk (fun (W : World) (hB : Below w.heap.size w W) => large_arg (c' := c') (hF.move hB) (hP.move hB))
  have hu53 := Try.underlying53
  have hu82 := Try.underlying82
  cases hlo : loadOk l with
  | false =>
    have HLo := Aside0.mk (dload_no hF hlo)
    have HLx := Aside0.mk (fun (W : World) (hB : Below w.heap.size w W) => xload_no (hF.move hB) hlo)
    clear hlo hF hP
    go_enter Try.func16, Try.ntmps16
    go_wp2_with (first | (go_at_call 37; with_reducible refine HLo.out.mono ?_; rintro e w1 ⟨rfl, hB1⟩; have HB1 := Aside0.mk hB1; clear hB1) | (go_at_call 38; with_reducible refine (HLx.out _ HB1.out).mono ?_; rintro e w2 ⟨⟨A2, n2, c2, A3, n3, c3, rfl⟩, hB2⟩; have HB2 := Aside0.mk (below_then HB1.out HB1.out.size hB2); clear hB2) | (go_at_call 63; with_reducible refine (works_disk _).mono ?_; rintro e w3 ⟨rfl, hB3⟩; have HB3 := Aside0.mk (below_then (below_alloc' HB2.out _ HB2.out.size) (by rw [alloc_size]; have := HB2.out.size; omega) hB3); clear hB3) | fail)
    go_ret
    exact ⟨rfl, HB3.out⟩
  | true =>
    have HLo := Aside0.mk (dload_yes hF hlo)
    have HLx := Aside0.mk (fun (W : World) (hB : Below w.heap.size w W) => xload_yes (hF.move hB) hlo)
    clear hlo hF hP
    have hlen := loadL_length l
    have hbts := load_bytes l
    obtain ⟨L0, hL0⟩ : ∃ L0, L0 = loadL l := ⟨_, rfl⟩
    rw [← hL0] at HLo HLx hlen hbts
    clear hL0
    go_enter Try.func16, Try.ntmps16
    go_wp2_with (first | (go_at_call 37; with_reducible refine HLo.out.mono ?_; rintro e w1 ⟨g, S, rfl, hD1, hS1, hB1⟩; have HB1 := Aside0.mk hB1; have HD1 := Aside0.mk hD1; have HS1 := Aside0.mk hS1; clear hB1 hD1 hS1) | (go_at_call 38; with_reducible refine (HLx.out _ HB1.out).mono ?_; rintro e w2 ⟨u, v, rfl, hx, hB2⟩; obtain ⟨A2, c2, A3, c3, rfl, rfl, hP⟩ := Pair.made (w3 := w2.alloc (.cells #[u, v] 53)) HD1.out HS1.out HB1.out.size hx hB2 rfl (below_alloc (Below.refl _ _) _) (blk_new _ _); have HPr := Aside0.mk hP; have HB2 := Aside0.mk (below_then HB1.out HB1.out.size hB2); clear hx hB2 hP) | fail)
    have HBx := Aside0.mk (below_alloc' HB2.out (.cells #[.slice A2 L0.length c2, .slice A3 0 c3] 53) HB2.out.size)
    obtain ⟨xb, hxb⟩ : ∃ xb, xb = w2.heap.size := ⟨_, rfl⟩
    obtain ⟨wx, hwx⟩ : ∃ wx, wx = w2.alloc (.cells #[.slice A2 L0.length c2, .slice A3 0 c3] 53) := ⟨_, rfl⟩
    replace HPr : Aside0 (Pair w.heap.size (w2.alloc (.cells #[.slice A2 L0.length c2, .slice A3 0 c3] 53)) g w2.heap.size S (ext (fun _ => False) w1 w2) A2 c2 A3 c3 L0 [] l.length (max l.length L0.length) (byF L0)) := HPr
    rw [← hwx, ← hxb] at HPr
    rw [← hwx] at HBx ⊢
    rw [← hxb]
    clear hxb hwx HB1 HD1 HS1 HB2 HLo HLx
    refine (HBig.out _ HBx.out).mono ?_
    rintro e w3 ⟨rfl, hB3⟩
    have HP3 := Aside0.mk (HPr.out.move hB3)
    have HB3 := Aside0.mk (below_then HBx.out HBx.out.size hB3)
    clear hB3 HPr HBx HBig
    cases hbig : bigD l ops with
    | true =>
      clear hbig
      go_wp2_with (first | (go_at_call 63; with_reducible refine (works_disk _).mono ?_; rintro e w4 ⟨rfl, hB4⟩; have HB4 := Aside0.mk (below_then HB3.out HB3.out.size hB4); clear hB4) | fail)
      go_ret
      exact ⟨rfl, HB4.out⟩
    | false =>
      have hbd := bigD_false hbig
      have HBd := Aside0.mk hbd
      clear hbig hbd
      have hlen60 := HBd.out.2.1
      go_wp2_with fail
      go_loopw [40] (fun i wr => ∃ k : Nat, k ≤ ops.length ∧ i = .int .i64 k ∧ Aside0 (Below w.heap.size w wr) ∧ Aside0 (∃ S T A c A' c' L O n, Pair w.heap.size wr g xb S T A c A' c' L O n (40 + k) (byF l + byP (ops.take k)))) (fun i _ => ops.length - (intOf i).toNat)
      case atStart =>
        have h := HP3.out
        have h1 := HBd.out.1
        exact ⟨0, by omega, rfl, HB3, ⟨S, _, A2, c2, A3, c3, L0, [], l.length, h.dst, h.xst, h.dis, h.sb, h.tb, h.blk, h.xbb, by have := h.s1; omega, by have := h.s2; omega, by have := h.s3; omega⟩⟩
      case round =>
        obtain ⟨k, hk, rfl, HW, HPe⟩ := hrel
        obtain ⟨S, T, A2, c2, A3, c3, L, O, n, hpr⟩ := HPe.out
        have HPr := Aside0.mk hpr
        have hxlt := blk_lt hpr.blk
        have hz0 : wr.cell? ⟨xb, 0, none⟩ = some (.slice A2 L.length c2) := (blk_cell hpr.blk 0).trans rfl
        have hz1 : wr.cell? ⟨xb, 1, none⟩ = some (.slice A3 O.length c3) := (blk_cell hpr.blk 1).trans rfl
        clear hpr HPe HP3 HB3
        by_cases hlt : k < ops.length
        · obtain ⟨ad, B, d, rfl, hc0, hc1, hc2, hc3, hc4, hc5, hd, hCB⟩ := CP.at_ (HP.out _ HW.out).rd k hlt
          have HCB := Aside0.mk hCB
          have hnm := (HP.out _ HW.out).names ops[k] (List.getElem_mem hlt)
          have hda := (HP.out _ HW.out).data ops[k] (List.getElem_mem hlt)
          have HBY := Aside0.mk (byP_take_succ hlt)
          have HTk := Aside0.mk (byP_takeN ops (k + 1))
          obtain ⟨o, ho⟩ : ∃ o, o = ops[k] := ⟨_, rfl⟩
          rw [← ho] at hc0 hc1 hc2 hc3 hc4 hc5 hd HCB hnm hda HBY
          clear ho hCB
          have HPa := Aside0.mk (HPr.out.move (below_alloc (Below.refl _ _) (.cells (opC o B d) 82)))
          have HSz := Aside0.mk (HPa.out.sz (by omega) (by have := HBd.out.2.2; have := byP_takeN ops k; omega))
          have HDo := Aside0.mk (do_calls (wr.alloc (.cells (opC o B d) 82)) S T g n L O A2 c2 A3 c3 o B d HPa.out.dst HPa.out.xst HSz.out HPa.out.dis (Kd.C_alloc HCB.out _) hd hda hnm.1 hnm.2)
          obtain ⟨r, hr⟩ : ∃ r, r = doL L O n o := ⟨_, rfl⟩
          rw [← hr] at HDo
          have HRr := Aside0.mk hr
          have HWa := Aside0.mk (below_alloc' HW.out (.cells (opC o B d) 82) HW.out.size)
          clear hr
          go_wp2_with (first | (go_at_call 65; with_reducible refine HDo.out.mono ?_; rintro e w4 ⟨S', T', u, v, rfl, hD4, hX4, hdis4, hS4, hT4, hW4⟩; obtain ⟨A4, c4, A5, c5, rfl, rfl⟩ := hX4.slices; obtain ⟨hP5, hW5, hbk⟩ := Pair.next (w3 := w4) HPa.out HRr.out HWa.out.size hD4 hX4 hdis4 hS4 hT4 hW4 (Below.refl _ _); have HP5 := Aside0.mk hP5; have HW5 := Aside0.mk hW5; have hxl4 := blk_lt hbk; have hy0 : w4.cell? ⟨xb, 0, none⟩ = some (.slice A2 L.length c2) := (blk_cell hbk 0).trans rfl; have hy1 : w4.cell? ⟨xb, 1, none⟩ = some (.slice A3 O.length c3) := (blk_cell hbk 1).trans rfl; have hf0 := blk_frozen hbk 0; have hf1 := blk_frozen hbk 1; clear hD4 hX4 hdis4 hS4 hT4 hW4 hP5 hW5 hbk) | fail)
          have HW6 := Aside0.mk (wr_below HWa.out HWa.out.size (fun k hk => hk.elim (fun h => (HPr.out.sb k h).1) (fun h => by rw [h]; exact HPr.out.xbb)) HW5.out)
          clear HW5 hy0 hy1 hf0 hf1
          go_roundw
          case rel =>
            have h := HP5.out
            have hby := HBY.out
            exact ⟨k + 1, by omega, by go_num, HW6, ⟨S', T', A4, c4, A5, c5, r.1, r.2.1, r.2.2, h.dst, h.xst, h.dis, h.sb, h.tb, h.blk, h.xbb, by have := h.s1; omega, by have := h.s2; omega, by have := h.s3; omega⟩⟩
          case measure => simp [intOf]; omega
        · obtain rfl : k = ops.length := by omega
          have hz := HPr.out.sz (by omega) (by have := HBd.out.2.2; have := byP_takeN ops ops.length; omega)
          have HZ := Aside0.mk hz
          have hz2 : Sz (viewL L O) [] (n + O.length) := by
            have h1 := viewL_length O L
            have h2 := byF_viewL O L
            obtain ⟨q1, q2, q3⟩ := hz
            exact ⟨by simp; omega, by simp; omega, by have : byO [] = 0 := rfl; omega⟩
          have HZ2 := Aside0.mk hz2
          clear hz hz2
          have HDS := Aside0.mk HPr.out.dst
          have HSB := Aside0.mk (fun k (h : S k) => (HPr.out.sb k h).1)
          have HLt := Aside0.mk HPr.out.dst.lt
          have hv0 : ((([] : List S123).length : Int) == 0) = true := rfl
          clear HPr hz0 hz1
          go_wp2_with fail
          refine (sViewF wr S g n L O HDS.out HZ.out).mono ?_
          rintro e w8 ⟨⟨A8, c8, rfl, hc8, hF8⟩, hB8⟩
          have HF8 := Aside0.mk (Kd.F_bound hF8)
          have HD8 := Aside0.mk (HDS.out.move hB8)
          have HB8 := Aside0.mk (below_then HW.out HW.out.size hB8)
          have HL8 := Aside0.mk hB8.size
          clear hF8 hB8 HDS
          obtain ⟨V, hV⟩ : ∃ V, V = viewL L O := ⟨_, rfl⟩
          rw [← hV] at HF8 HZ2 hc8 ⊢
          have HVE := Aside0.mk hV
          clear hV
          go_wp2_with fail
          refine (sSync w8 S g n L O HD8.out HZ.out).mono ?_
          rw [← HVE.out]
          rintro e w9 ⟨rfl, hD9, hW9⟩
          have HD9 := Aside0.mk hD9
          have HB9 := Aside0.mk (wr_below HB8.out HB8.out.size HSB.out hW9)
          have HF9 := Aside0.mk (Kd.F_step HF8.out (fun k hk hl => hW9.2.2.2.2 k hl (fun h => by have := HLt.out k h; have := hk.1; omega)))
          have HS9 := Aside0.mk (show ∀ k, ext S w8 w9 k → w.heap.size ≤ k from fun k hk => hk.1.elim (fun h => HSB.out k h) (fun h => by have := HB8.out.size; omega))
          have HN9 := Aside0.mk (show ∀ k, ext S w8 w9 k → ¬ (wr.heap.size ≤ k ∧ k < w8.heap.size) from fun k hk h => hk.1.elim (fun h' => by have := HLt.out k h'; omega) (fun h' => by omega))
          obtain ⟨S9, hS9⟩ : ∃ S9, S9 = ext S w8 w9 := ⟨_, rfl⟩
          rw [← hS9] at HD9 HS9 HN9
          clear hD9 hW9 hS9 HD8 HB8 HF8
          go_wp2_with fail
          refine (sFiles w9 S9 g (n + O.length) V [] HD9.out HZ2.out).mono ?_
          rintro e w10 ⟨⟨A10, c10, rfl, _, hC10⟩, hB10⟩
          have HC10 := Aside0.mk hC10
          have HD10 := Aside0.mk (HD9.out.move hB10)
          have HB10 := Aside0.mk (below_then HB9.out HB9.out.size hB10)
          have HF10 := Aside0.mk (Kd.F_below HF9.out hB10)
          clear hC10 hB10 HD9 HB9 HF9
          go_wp2_with fail
          refine (same_true A10 c10 A8 c8 V w10 HC10.out (Kd.F_now HF10.out)).mono ?_
          rintro e w11 ⟨rfl, hd11⟩
          have hB11 := Drawn0.to_below hd11
          have HD11 := Aside0.mk (HD10.out.move hB11)
          have HB11 := Aside0.mk (below_then HB10.out HB10.out.size hB11)
          have HF11 := Aside0.mk (Kd.F_below HF10.out hB11)
          clear hd11 hB11 HD10 HB10 HF10 HC10
          go_wp2_with fail
          refine (sView w11 S9 g (n + O.length) V [] HD11.out HZ2.out).mono ?_
          rw [show viewL V [] = V from rfl]
          rintro e w12 ⟨⟨A12, c12, rfl, _, hC12⟩, hB12⟩
          have HC12 := Aside0.mk hC12
          have HD12 := Aside0.mk (HD11.out.move hB12)
          have HB12 := Aside0.mk (below_then HB11.out HB11.out.size hB12)
          have HF12 := Aside0.mk (Kd.F_below HF11.out hB12)
          clear hC12 hB12 HD11 HB11 HF11
          go_wp2_with fail
          refine (same_true A12 c12 A8 c8 V w12 HC12.out (Kd.F_now HF12.out)).mono ?_
          rintro e w13 ⟨rfl, hd13⟩
          have hB13 := Drawn0.to_below hd13
          have HD13 := Aside0.mk (HD12.out.move hB13)
          have HB13 := Aside0.mk (below_then HB12.out HB12.out.size hB13)
          have HF13 := Aside0.mk (Kd.F_below HF12.out hB13)
          clear hd13 hB13 HD12 HB12 HF12 HC12
          go_wp2_with fail
          refine (sPending w13 S9 g (n + O.length) V [] HD13.out).mono ?_
          rintro e w14 ⟨rfl, h14⟩
          rw [h14]
          clear h14 w14
          go_wp2_with fail
          refine (sCrash w13 S9 g (n + O.length) V [] keep 3 HD13.out HZ2.out).mono ?_
          rw [crash_nil]
          rintro e w15 ⟨rfl, hD15, hW15⟩
          have HB15 := Aside0.mk (wr_below HB13.out HB13.out.size HS9.out hW15)
          have HF15 := Aside0.mk (Kd.F_step HF13.out (fun k hk hl => hW15.2.2.2.2 k hl (fun h => HN9.out k h hk)))
          have HD15 := Aside0.mk hD15
          clear hD15 hW15 HD13 HB13 HF13
          go_wp2_with fail
          refine (sFiles w15 (ext S9 w13 w15) g _ V [] HD15.out ⟨by have := HZ2.out.1; simp at this ⊢; omega, HZ2.out.2.1, HZ2.out.2.2⟩).mono ?_
          rintro e w16 ⟨⟨A16, c16, rfl, _, hC16⟩, hB16⟩
          have HC16 := Aside0.mk hC16
          have HB16 := Aside0.mk (below_then HB15.out HB15.out.size hB16)
          have HF16 := Aside0.mk (Kd.F_below HF15.out hB16)
          clear hC16 hB16 HB15 HF15
          go_wp2_with fail
          refine (same_true A16 c16 A8 c8 V w16 HC16.out (Kd.F_now HF16.out)).mono ?_
          rintro e w17 ⟨rfl, hd17⟩
          have HB17 := Aside0.mk (below_then HB16.out HB16.out.size (Drawn0.to_below hd17))
          clear hd17
          go_wp2_with fail
          refine (works_disk w17).mono ?_
          rintro e w18 ⟨rfl, hB18⟩
          have HB18 := Aside0.mk (below_then HB17.out HB17.out.size hB18)
          clear hB18
          go_wp2_with fail
          go_ret
          exact ⟨rfl, HB18.out⟩
end Go.Proofs.Ytfaniohoplbdoaa.My
/- The statement DiskSync returns true for all files, operations and numbers, and these read as before. Conditions: none. -/
namespace Go.Proofs.Ytfaniohoplbdoaa.diskSync
open Go.ChangeShapes Go.WideShapes Go.ChangeAt Go.RowKit
open Go.ChangeMaps (open_string shut_string)
open Go.Proofs.Ytfaniohoplbdoaa.My
set_option linter.unusedVariables false
set_option linter.unusedSimpArgs false

theorem own : ownKnob Try.prog.godebug = none := by kernel_rfl
theorem laidOut : laidOutB Try.prog = true := by kernel_rfl

set_option maxRecDepth 100000 in
theorem lifted (os : Os) (started : os.Started) (H : Type) (enc : TypeId × Value → H) :
    ReturnsInHanded {} Try.checked os 16 .any (Rows.diskSyncSpec.pre6 enc Try.prog Try.f16 Rows.diskSyncRow.domain false) (Rows.diskSyncSpec.post enc Try.prog Try.f16 false true false false) := by
  refine returnsInHanded_of_change_sized (C := Try.checked) own started (by kernel_rfl) Try.func16
    (ChangeSpec.witness6 (enc := enc) (C := Try.checked) false ⟨#[], #[.slice none 0 0, .slice none 0 0, .int .i64 0], []⟩ 8 (by kernel_rfl) (by kernel_rfl) (by kernel_rfl) (by kernel_rfl)) ?_
  intro W base args ds gs before hval0 hW hcnd hsz0 _
  have hsz : (DataW.weightsEach Try.prog (Try.f16.params.toList ++ Rows.diskSyncSpec.plain.varTypes Try.prog) (ds ++ gs)).all (· ≤ reachBytes) = true := hsz0
  have hval : ∀ (j : Nat) t v, Try.f16.params[j]? = some t → args[j]? = some v → Value.okWide Try.prog W .any base t v := hval0
  have hW' := hW
  obtain ⟨p, q, hA0, hV, rfl, hfz, hnd⟩ := hW
  have hA : DataW.TrodAll enc Try.prog W 0 (fun _ => true) true Try.f16.params.toList args.toList ds p := hA0
  rw [Try.params16] at hA hval hsz
  obtain ⟨v0, vs0, d0, ds0, p0, q0, hargs, rfl, rfl, h0, r0⟩ := trodAll_cons hA
  obtain ⟨v1, vs1, d1, ds1, p1, q1, rfl, rfl, rfl, h1, r1⟩ := trodAll_cons r0
  obtain ⟨v2, vs2, d2, ds2, p2, q2, rfl, rfl, rfl, h2, r2⟩ := trodAll_cons r1
  obtain ⟨rfl, rfl, rfl⟩ := trodAll_nil r2
  obtain rfl : args = #[v0, v1, v2] := by cases args; simp_all
  obtain ⟨rfl, rfl⟩ := trodVars_none hV
  obtain ⟨a0, len0, cap0, rfl⟩ := okWide_slice Try.underlying42 (hval 0 42 v0 rfl rfl)
  obtain ⟨a1, len1, cap1, rfl⟩ := okWide_slice Try.underlying91 (hval 1 91 v1 rfl rfl)
  obtain ⟨a2, rfl, rfl, rfl, w2⟩ := open_int Try.underlying3 (hval 2 3 v2 rfl rfl) h2
  have k0 := h0
  have k1 := h1
  have lt0 : ∀ x ∈ p0, x.block < W.heap.size := by obtain ⟨m, hm⟩ := k0; exact DataW.trod_lt m _ _ _ hm
  have lt1 : ∀ x ∈ p1, x.block < W.heap.size := by obtain ⟨m, hm⟩ := k1; exact DataW.trod_lt m _ _ _ hm
  obtain ⟨l, rfl, hF⟩ := open_files_sized hsz (j := 0) rfl rfl h0
  obtain ⟨ops, rfl, hP⟩ := open_ops_sized hsz (j := 1) rfl rfl h1
  clear hA0 hval0 hsz0 hsz
  refine (law_sync a0 cap0 l a1 cap1 ops a2 W hF hP).mono fun e W' ⟨he, bel⟩ => ?_
  subst he
  exact ⟨_, rfl, _, _, _, [], _, [], hW', trodAll_mk1 (shut_bool Try.underlying4 _), (trodAll_cons_mk (Below.trod laidOut (by kernel_rfl) (of_decide_eq_true (by kernel_rfl)) k0 bel lt0) (trodAll_cons_mk (Below.trod laidOut (by kernel_rfl) (of_decide_eq_true (by kernel_rfl)) k1 bel lt1) (trodAll_cons_mk (shut_int Try.underlying3 w2) trodAll_mk0))), rfl, bel.frame _, fun h => by cases h⟩

theorem over : Rows.diskSyncRow.holds Try.pinned (OpenSpec.ofChange Rows.diskSyncSpec) :=
  OpenClaim.holds_of_wide 16 Try.f16 rfl rfl rfl rfl rfl rfl rfl ⟨rfl, rfl, rfl, rfl, rfl⟩ rfl rfl rfl rfl rfl (by kernel_rfl) Try.func16 (by kernel_rfl)
    (of_decide_eq_true (by kernel_rfl)) (by unfold Func.isWrapper; first | (rw [if_pos (by decide +kernel)]; kernel_rfl) | (rw [if_neg (by decide +kernel)]; exact ⟨rfl, rfl⟩))
    (fun os started H enc _ => lifted os started H enc)

theorem proved : Rows.DiskSyncSaid := over
#print axioms proved
end Go.Proofs.Ytfaniohoplbdoaa.diskSync
