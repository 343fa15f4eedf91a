/- The statement WalAgain. -/
import Derived.Test.YtfaniohoplbdoaaLe
import Derived.Test.YtfaniohoplbdoaaRows
import Derived.WalkKit
import Derived.ProofKit
import Derived.OpenShut
import Derived.ShutString
import Derived.ChangeOld
import Derived.Below
import Derived.SizedLaws
import Derived.Test.YtfaniohoplbdoaaWSized
namespace Go.Proofs.Ytfaniohoplbdoaa.My
open Go Go.RowKit Go.Proofs.YtfaniohoplbdoaaW.PrintWords Go.Proofs.YtfaniohoplbdoaaW.PrintLast Go.Proofs.YtfaniohoplbdoaaW.PrintMore Go.Proofs.Ytfaniohoplbdoaa.PDiskActs
set_option linter.unusedVariables false
set_option linter.unusedSimpArgs false
theorem bigW_false {l : List S109} {ops : List S71} (h : bigW l ops = false) : l.length ≤ 20 ∧ ops.length ≤ 40 ∧ byF l + byQ ops ≤ 2000 := by
  unfold bigW at h
  simp only [Bool.or_eq_false_iff, decide_eq_false_iff_not] at h
  omega
theorem large_nil {A : Option Addr} {c : Nat} {l : List S109} {w : World} (h : ArgF w A c l) : Calls Try.prog 39 #[.slice A l.length c, .slice none 0 0] w fun e w' => e = .returned (.bool (bigW l [])) ∧ Below w.heap.size w w' :=
  largeW_calls A c l none 0 [] w h.rd (Kd.C_nil _ _) h.data (by simp)
set_option maxHeartbeats 4000000 in
set_option maxRecDepth 100000 in
theorem law_again (A : Option Addr) (c : Nat) (l : List S109) (nm : ByteArray) (w : World) (hF : ArgF w A c l) (hby : BytF l) (hm : nm.size ≤ maxLen) :
    Calls Try.prog 17 #[.slice A l.length c, .string nm] w (TruePost w) := by
  have HBig := Aside0.mk (fun (W : World) (hB : Below w.heap.size w W) => large_nil (hF.move hB))
  cases hlo : loadOk l with
  | false =>
    have HLo := Aside0.mk (dload_no hF hlo)
    clear hlo hF
    go_enter Try.func17, Try.ntmps17
    go_wp2_with fail
    refine HLo.out.mono ?_
    rintro e w1 ⟨rfl, hB1⟩
    have HB1 := Aside0.mk hB1
    clear hB1
    go_wp2_with fail
    refine (works_wal w1).mono ?_
    rintro e w2 ⟨rfl, hB2⟩
    have HB2 := Aside0.mk (below_then HB1.out HB1.out.size hB2)
    clear hB2
    go_wp2_with fail
    go_ret
    exact ⟨rfl, HB2.out⟩
  | true =>
    have HLo := Aside0.mk (dload_yes hF hlo)
    clear hlo hF
    have hlen := loadL_length l
    have hbts := load_bytes l
    have hbl := hby.load
    obtain ⟨L0, hL0⟩ : ∃ L0, L0 = loadL l := ⟨_, rfl⟩
    rw [← hL0] at HLo hlen hbts hbl
    clear hL0
    have HBl := Aside0.mk hbl
    clear hbl hby
    go_enter Try.func17, Try.ntmps17
    go_wp2_with fail
    refine HLo.out.mono ?_
    rintro e w1 ⟨g, S, rfl, hD1, hS1, hB1⟩
    have HB1 := Aside0.mk hB1
    have HD1 := Aside0.mk hD1
    have HS1 := Aside0.mk hS1
    clear hB1 hD1 hS1 HLo
    go_wp2_with fail
    refine (HBig.out w1 HB1.out).mono ?_
    rintro e w2 ⟨rfl, hB2⟩
    have HD2 := Aside0.mk (HD1.out.move hB2)
    have HB2 := Aside0.mk (below_then HB1.out HB1.out.size hB2)
    clear hB2 HD1 HB1 HBig
    cases hbig : bigW l [] with
    | true =>
      clear hbig
      go_wp2_with fail
      refine (works_wal w2).mono ?_
      rintro e w3 ⟨rfl, hB3⟩
      have HB3 := Aside0.mk (below_then HB2.out HB2.out.size hB3)
      clear hB3
      go_wp2_with fail
      go_ret
      exact ⟨rfl, HB3.out⟩
    | false =>
      have hbd := bigW_false hbig
      have hq0 : byQ [] = 0 := rfl
      have HBd := Aside0.mk (show l.length ≤ 20 ∧ byF l ≤ 2000 by omega)
      have hb0 : byO [] = 0 := rfl
      have HZ0 := Aside0.mk (show Sz L0 [] l.length from ⟨by simp; omega, by simp; omega, by omega⟩)
      have HZo := Aside0.mk (show l.length + ([] : List S123).length + 3 ≤ 1000000 ∧ L0.length + ([] : List S123).length + 3 ≤ 1000000 ∧ 2 * (byF L0 + byO []) ≤ 1000000000 from ⟨by simp; omega, by simp; omega, by omega⟩)
      have HL20 := Aside0.mk (show L0.length ≤ 20 by omega)
      have HB2k := Aside0.mk (show byF L0 + byO [] ≤ 2000 by omega)
      clear hbig hbd hq0 hb0 hlen hbts
      have hv0 : ((([] : List S123).length : Int) == 0) = true := rfl
      cases hno : nameOk nm with
      | false =>
        go_wp2_with fail
        refine (wopen_bad w2 g nm hm hno).mono ?_
        rintro e w3 ⟨rfl, hB3⟩
        have HD3 := Aside0.mk (HD2.out.move hB3)
        have HB3 := Aside0.mk (below_then HB2.out HB2.out.size hB3)
        clear hB3 HD2 HB2
        go_wp2_with fail
        refine (sView w3 S g l.length L0 [] HD3.out HZ0.out).mono ?_
        rw [show viewL L0 [] = L0 from rfl]
        rintro e w4 ⟨⟨A4, c4, rfl, _, hC4⟩, hB4⟩
        have HC4 := Aside0.mk hC4
        have HD4 := Aside0.mk (HD3.out.move hB4)
        have HB4 := Aside0.mk (below_then HB3.out HB3.out.size hB4)
        clear hB4 hC4 HD3 HB3
        go_wp2_with fail
        refine (wopen_bad w4 g nm hm hno).mono ?_
        rintro e w5 ⟨rfl, hB5⟩
        have HD5 := Aside0.mk (HD4.out.move hB5)
        have HC5 := Aside0.mk (Kd.C_below HC4.out hB5)
        have HB5 := Aside0.mk (below_then HB4.out HB4.out.size hB5)
        clear hB5 HD4 HB4 HC4 hno
        go_wp2_with fail
        refine (lists36_true none 0 none 0 [] w5 (Kd.C_nil _ _) (Kd.C_nil _ _)).mono ?_
        rintro e w6 ⟨rfl, hd6⟩
        have hB6 := Drawn0.to_below hd6
        have HD6 := Aside0.mk (HD5.out.move hB6)
        have HC6 := Aside0.mk (Kd.C_below HC5.out hB6)
        have HB6 := Aside0.mk (below_then HB5.out HB5.out.size hB6)
        clear hd6 hB6 HD5 HB5 HC5
        go_wp2_with fail
        refine (sView w6 S g l.length L0 [] HD6.out HZ0.out).mono ?_
        rw [show viewL L0 [] = L0 from rfl]
        rintro e w7 ⟨⟨A7, c7, rfl, _, hC7⟩, hB7⟩
        have HC7 := Aside0.mk hC7
        have HC67 := Aside0.mk (Kd.C_below HC6.out hB7)
        have HD7 := Aside0.mk (HD6.out.move hB7)
        have HB7 := Aside0.mk (below_then HB6.out HB6.out.size hB7)
        clear hB7 hC7 HD6 HB6 HC6
        go_wp2_with fail
        refine (same_true A4 c4 A7 c7 L0 w7 HC67.out HC7.out).mono ?_
        rintro e w8 ⟨rfl, hd8⟩
        have hB8 := Drawn0.to_below hd8
        have HD8 := Aside0.mk (HD7.out.move hB8)
        have HB8 := Aside0.mk (below_then HB7.out HB7.out.size hB8)
        clear hd8 hB8 HD7 HB7 HC7 HC67
        go_wp2_with fail
        refine (sPending w8 S g l.length L0 [] HD8.out).mono ?_
        rintro e w9 ⟨rfl, h9⟩
        rw [h9]
        clear h9 w9
        go_wp2_with fail
        refine (works_wal w8).mono ?_
        rintro e w10 ⟨rfl, hB10⟩
        have HB10 := Aside0.mk (below_then HB8.out HB8.out.size hB10)
        clear hB10
        go_wp2_with fail
        go_ret
        exact ⟨rfl, HB10.out⟩
      | true =>
        have HBc := Aside0.mk (HBl.out.cont BytO.nil nm)
        have HOp := Aside0.mk (wopen_calls w2 S g l.length L0 [] nm HD2.out HZo.out hm hno HBc.out)
        obtain ⟨R, hR⟩ : ∃ R, R = recsL L0 [] nm := ⟨_, rfl⟩
        obtain ⟨r, hr⟩ : ∃ r, r = openL L0 [] l.length nm := ⟨_, rfl⟩
        have hro : r.2.1 = [] := by rw [hr]; exact (wopen_ops L0 [] l.length nm).elim id id
        have hcn := cont_open (n := l.length) hno HBc.out
        have hrs := recs_small (l := L0) (ops := []) (nm := nm) HBc.out
        have hln := open_len L0 [] l.length nm
        rw [← hR, ← hr] at HOp hcn
        rw [← hR] at hrs
        rw [← hr] at hln
        obtain ⟨L1, o1, n1⟩ := r
        replace hro : o1 = [] := hro
        subst hro
        have HAg := Aside0.mk (open_again (n := n1) hcn hrs)
        have HBc1 := Aside0.mk (show Byt (contL L1 [] nm) by
          rw [show contL L1 [] nm = framesL R from hcn]
          have h1 := (scan_full HBc.out).1
          rw [show (scanL (contL L0 [] nm)).1 = R from hR.symm] at h1
          rw [← h1]
          exact HBc.out.take _)
        have hz1 : n1 + ([] : List S123).length + 3 ≤ 1000000 ∧ L1.length + ([] : List S123).length + 3 ≤ 1000000 ∧ 2 * (byF L1 + byO []) ≤ 1000000000 := by
          obtain ⟨p1, p2, p3⟩ := hln
          obtain ⟨q1, q2, q3⟩ := HZo.out
          have h20 := HBd.out
          have h0 := HZ0.out.2.2
          have h3 : byF L0 + byO [] ≤ 2000 := HB2k.out
          have h20' := HL20.out
          dsimp only at p1 p2 p3
          simp only [List.length_nil, Nat.add_zero] at p1 p2 q1 q2 ⊢
          exact ⟨by omega, by omega, by omega⟩
        have HZ1 := Aside0.mk hz1
        have HZs := Aside0.mk (show Sz L1 [] n1 from ⟨by have := hz1.1; omega, by have := hz1.2.1; omega, by have := hz1.2.2; omega⟩)
        clear hcn hrs hln hR hr hz1
        go_wp2_with fail
        refine HOp.out.mono ?_
        rintro e w3 ⟨S3, lg, A3, c3, rfl, hD3, hC3, ⟨hL3, hlg, hnS⟩, hc3, hF3⟩
        have HD3 := Aside0.mk (show DSt w3 S3 g L1 [] n1 from hD3)
        have HB3 := Aside0.mk (wr_below HB2.out HB2.out.size HS1.out hC3.wr)
        have HS3 := Aside0.mk (show ∀ k, S3 k → w.heap.size ≤ k from fun k hk => (hC3.ex k hk).elim (fun h => HS1.out k h) (fun h => Nat.le_trans HB2.out.size h))
        have HF3 := Aside0.mk (Kd.F_bound hF3)
        clear hD3 hC3 hL3 hlg hnS hF3 HOp HD2 HB2 HS1
        go_wp2_with fail
        refine (sViewF w3 S3 g n1 L1 [] HD3.out HZs.out).mono ?_
        rw [show viewL L1 [] = L1 from rfl]
        rintro e w4 ⟨⟨A4, c4, rfl, _, hF4⟩, hB4⟩
        have HV4 := Aside0.mk (Kd.F_bound hF4)
        have HF4 := Aside0.mk (Kd.F_below HF3.out hB4)
        have HD4 := Aside0.mk (HD3.out.move hB4)
        have HB4 := Aside0.mk (below_then HB3.out HB3.out.size hB4)
        have HLt4 := Aside0.mk HD3.out.lt
        clear hB4 hF4 HD3 HB3
        have hop := wopen_calls w4 S3 g n1 L1 [] nm HD4.out HZ1.out hm hno HBc1.out
        rw [HAg.out.1, HAg.out.2] at hop
        have HOp2 := Aside0.mk hop
        clear hop
        go_wp2_with fail
        refine HOp2.out.mono ?_
        rintro e w5 ⟨S5, lg5, A5, c5, rfl, hD5, hC5, ⟨hL5, hlg5, hnS5⟩, hc5, hF5⟩
        have HD5 := Aside0.mk (show DSt w5 S5 g L1 [] n1 from hD5)
        have HB5 := Aside0.mk (wr_below HB4.out HB4.out.size HS3.out hC5.wr)
        have HF5 := Aside0.mk (Kd.F_step HF4.out (fun k hk hl => hC5.wr.2.2.2.2 k hl hk.1.2.1))
        have HV5 := Aside0.mk (Kd.F_step HV4.out (fun k hk hl => hC5.wr.2.2.2.2 k hl (fun h => by have := HLt4.out k h; have h2 : w3.heap.size ≤ k := hk.1; omega)))
        have HR5 := Aside0.mk hF5
        clear hD5 hC5 hL5 hlg5 hnS5 hF5 HOp2 HD4 HB4 HF4 HV4
        go_wp2_with fail
        refine (lists36_true A3 c3 A5 c5 R w5 (Kd.F_now HF5.out) (Kd.F_now HR5.out)).mono ?_
        rintro e w6 ⟨rfl, hd6⟩
        have hB6 := Drawn0.to_below hd6
        have HD6 := Aside0.mk (HD5.out.move hB6)
        have HV6 := Aside0.mk (Kd.F_below HV5.out hB6)
        have HB6 := Aside0.mk (below_then HB5.out HB5.out.size hB6)
        clear hd6 hB6 HD5 HB5 HV5 HF5 HR5
        go_wp2_with fail
        refine (sView w6 S5 g n1 L1 [] HD6.out HZs.out).mono ?_
        rw [show viewL L1 [] = L1 from rfl]
        rintro e w7 ⟨⟨A7, c7, rfl, _, hC7⟩, hB7⟩
        have HC7 := Aside0.mk hC7
        have HV7 := Aside0.mk (Kd.F_below HV6.out hB7)
        have HD7 := Aside0.mk (HD6.out.move hB7)
        have HB7 := Aside0.mk (below_then HB6.out HB6.out.size hB7)
        clear hB7 hC7 HD6 HB6 HV6
        go_wp2_with fail
        refine (same_true A4 c4 A7 c7 L1 w7 (Kd.F_now HV7.out) HC7.out).mono ?_
        rintro e w8 ⟨rfl, hd8⟩
        have hB8 := Drawn0.to_below hd8
        have HD8 := Aside0.mk (HD7.out.move hB8)
        have HB8 := Aside0.mk (below_then HB7.out HB7.out.size hB8)
        clear hd8 hB8 HD7 HB7 HC7 HV7
        go_wp2_with fail
        refine (sPending w8 S5 g n1 L1 [] HD8.out).mono ?_
        rintro e w9 ⟨rfl, h9⟩
        rw [h9]
        clear h9 w9
        go_wp2_with fail
        refine (works_wal w8).mono ?_
        rintro e w10 ⟨rfl, hB10⟩
        have HB10 := Aside0.mk (below_then HB8.out HB8.out.size hB10)
        clear hB10
        go_wp2_with fail
        go_ret
        exact ⟨rfl, HB10.out⟩
end Go.Proofs.Ytfaniohoplbdoaa.My
/- The statement WalAgain returns true for all files and names, and these read as before. Conditions: none. -/
namespace Go.Proofs.Ytfaniohoplbdoaa.walAgain
open Go.ChangeShapes Go.WideShapes Go.ChangeAt Go.RowKit
open Go.ChangeMaps (open_string shut_string)
open Go.Proofs.Ytfaniohoplbdoaa.My
set_option linter.unusedVariables false
set_option linter.unusedSimpArgs false

theorem own : ownKnob Try.prog.godebug = none := by kernel_rfl
theorem laidOut : laidOutB Try.prog = true := by kernel_rfl

set_option maxRecDepth 100000 in
theorem lifted (os : Os) (started : os.Started) (H : Type) (enc : TypeId × Value → H) :
    ReturnsInHanded {} Try.checked os 17 .any (Rows.walAgainSpec.pre6 enc Try.prog Try.f17 Rows.walAgainRow.domain false) (Rows.walAgainSpec.post enc Try.prog Try.f17 false true false false) := by
  refine returnsInHanded_of_change_sized (C := Try.checked) own started (by kernel_rfl) Try.func17
    (ChangeSpec.witness6 (enc := enc) (C := Try.checked) false ⟨#[], #[.slice none 0 0, .string ⟨#[]⟩], []⟩ 8 (by kernel_rfl) (by kernel_rfl) (by kernel_rfl) (by kernel_rfl)) ?_
  intro W base args ds gs before hval0 hW hcnd hsz0 _
  have hsz : (DataW.weightsEach Try.prog (Try.f17.params.toList ++ Rows.walAgainSpec.plain.varTypes Try.prog) (ds ++ gs)).all (· ≤ reachBytes) = true := hsz0
  have hval : ∀ (j : Nat) t v, Try.f17.params[j]? = some t → args[j]? = some v → Value.okWide Try.prog W .any base t v := hval0
  have hW' := hW
  obtain ⟨p, q, hA0, hV, rfl, hfz, hnd⟩ := hW
  have hA : DataW.TrodAll enc Try.prog W 0 (fun _ => true) true Try.f17.params.toList args.toList ds p := hA0
  rw [Try.params17] at hA hval hsz
  obtain ⟨v0, vs0, d0, ds0, p0, q0, hargs, rfl, rfl, h0, r0⟩ := trodAll_cons hA
  obtain ⟨v1, vs1, d1, ds1, p1, q1, rfl, rfl, rfl, h1, r1⟩ := trodAll_cons r0
  obtain ⟨rfl, rfl, rfl⟩ := trodAll_nil r1
  obtain rfl : args = #[v0, v1] := by cases args; simp_all
  obtain ⟨rfl, rfl⟩ := trodVars_none hV
  obtain ⟨a0, len0, cap0, rfl⟩ := okWide_slice Try.underlying42 (hval 0 42 v0 rfl rfl)
  obtain ⟨s1, rfl, rfl, rfl, w1⟩ := open_string Try.underlying9 (hval 1 9 v1 rfl rfl) h1
  have k0 := h0
  have lt0 : ∀ x ∈ p0, x.block < W.heap.size := by obtain ⟨m, hm⟩ := k0; exact DataW.trod_lt m _ _ _ hm
  obtain ⟨l, rfl, hF, hby⟩ := open_files_sized_b hsz (j := 0) rfl rfl h0
  clear hA0 hval0 hsz0 hsz
  refine (law_again a0 cap0 l s1 W hF hby w1).mono fun e W' ⟨he, bel⟩ => ?_
  subst he
  exact ⟨_, rfl, _, _, _, [], _, [], hW', trodAll_mk1 (shut_bool Try.underlying4 _), (trodAll_cons_mk (Below.trod laidOut (by kernel_rfl) (of_decide_eq_true (by kernel_rfl)) k0 bel lt0) (trodAll_cons_mk (shut_string Try.underlying9 w1) trodAll_mk0)), rfl, bel.frame _, fun h => by cases h⟩

theorem over : Rows.walAgainRow.holds Try.pinned (OpenSpec.ofChange Rows.walAgainSpec) :=
  OpenClaim.holds_of_wide 17 Try.f17 rfl rfl rfl rfl rfl rfl rfl ⟨rfl, rfl, rfl, rfl, rfl⟩ rfl rfl rfl rfl rfl (by kernel_rfl) Try.func17 (by kernel_rfl)
    (of_decide_eq_true (by kernel_rfl)) (by unfold Func.isWrapper; first | (rw [if_pos (by decide +kernel)]; kernel_rfl) | (rw [if_neg (by decide +kernel)]; exact ⟨rfl, rfl⟩))
    (fun os started H enc _ => lifted os started H enc)

theorem proved : Rows.WalAgainSaid := over
#print axioms proved
end Go.Proofs.Ytfaniohoplbdoaa.walAgain
