/- The statement WalAgain. -/
import Derived.Test.YtfaniohoplbdoaaLe
import Derived.Test.YtfaniohoplbdoaaRows
import Derived.WalkKit
import Derived.ProofKit
import Derived.OpenShut
import Derived.ShutString
import Derived.ChangeOld
import Derived.Below
import Derived.SizedLaws
import Derived.Test.YtfaniohoplbdoaaWSized
namespace Go.Proofs.Ytfaniohoplbdoaa.My
open Go Go.RowKit Go.Proofs.YtfaniohoplbdoaaW.PrintWords Go.Proofs.YtfaniohoplbdoaaW.PrintLast Go.Proofs.YtfaniohoplbdoaaW.PrintMore Go.Proofs.Ytfaniohoplbdoaa.PDiskActs
set_option linter.unusedVariables false
set_option linter.unusedSimpArgs false
theorem bigW_false {l : List S109} {ops : List S71} (h : bigW l ops = false) : l.length ≤ 20 ∧ ops.length ≤ 40 ∧ byF l + byQ ops ≤ 2000 := by
  unfold bigW at h
  simp only [Bool.or_eq_false_iff, decide_eq_false_iff_not] at h
  omega
theorem large_nil {A : Option Addr} {c : Nat} {l : List S109} {w : World} (h : ArgF w A c l) : Calls Try.prog 39 #[.slice A l.length c, .slice none 0 0] w fun e w' => e = .returned (.bool (bigW l [])) ∧ Below w.heap.size w w' :=
  largeW_calls A c l none 0 [] w h.rd (Kd.C_nil _ _) h.data (by simp)
set_option maxHeartbeats 4000000 in
set_option maxRecDepth 100000 in
theorem law_again (A : Option Addr) (c : Nat) (l : List S109) (nm : ByteArray) (w : World) (hF : ArgF w A c l) (hby : BytF l) (hm : nm.size ≤ maxLen) :
    Calls Try.prog 17 #[.slice A l.length c, .string nm] w (TruePost w) := by
  have HBig := Aside0.mk (fun (W : World) (hB : Below w.heap.size w W) => large_nil (hF.move hB))
  cases hlo : loadOk l with
  | false =>
    have HLo := Aside0.mk (dload_no hF hlo)
    clear hlo hF
    go_enter Try.func17, Try.ntmps17
    go_wp2_with fail
    refine HLo.out.mono ?_
    rintro e w1 ⟨rfl, hB1⟩
    have HB1 := Aside0.mk hB1
    clear hB1
    go_wp2_with fail
    refine (works_wal w1).mono ?_
    rintro e w2 ⟨rfl, hB2⟩
    have HB2 := Aside0.mk (below_then HB1.out HB1.out.size hB2)
    clear hB2
    go_wp2_with fail
    go_ret
    exact ⟨rfl, HB2.out⟩
  | true =>
    have HLo := Aside0.mk (dload_yes hF hlo)
    clear hlo hF
    have hlen := loadL_length l
    have hbts := load_bytes l
    have hbl := hby.load
    obtain ⟨L0, hL0⟩ : ∃ L0, L0 = loadL l := ⟨_, rfl⟩
    rw [← hL0] at HLo hlen hbts hbl
    clear hL0
    have HBl := Aside0.mk hbl
    clear hbl hby
    go_enter Try.func17, Try.ntmps17
    go_wp2_with fail
    refine HLo.out.mono ?_
    rintro e w1 ⟨g, S, rfl, hD1, hS1, hB1⟩
    have HB1 := Aside0.mk hB1
    have HD1 := Aside0.mk hD1
    have HS1 := Aside0.mk hS1
    clear hB1 hD1 hS1 HLo
    go_wp2_with fail
    refine (HBig.out w1 HB1.out).mono ?_
    rintro e w2 ⟨rfl, hB2⟩
    have HD2 := Aside0.mk (HD1.out.move hB2)
    have HB2 := Aside0.mk (below_then HB1.out HB1.out.size hB2)
    clear hB2 HD1 HB1 HBig
    cases hbig : bigW l [] with
    | true =>
      clear hbig
      go_wp2_with fail
      refine (works_wal w2).mono ?_
      rintro e w3 ⟨rfl, hB3⟩
      have HB3 := Aside0.mk (below_then HB2.out HB2.out.size hB3)
      clear hB3
      go_wp2_with fail
      go_ret
      exact ⟨rfl, HB3.out⟩
    | false =>
      have hbd := bigW_false hbig
      have hq0 : byQ [] = 0 := rfl
      have HBd := Aside0.mk (show l.length ≤ 20 ∧ byF l ≤ 2000 by omega)
      have hb0 : byO [] = 0 := rfl
      have HZ0 := Aside0.mk (show Sz L0 [] l.length from ⟨by simp; omega, by simp; omega, by omega⟩)
      have HZo := Aside0.mk (show l.length + ([] : List S123).length + 3 ≤ 1000000 ∧ L0.length + ([] : List S123).length + 3 ≤ 1000000 ∧ 2 * (byF L0 + byO []) ≤ 1000000000 from ⟨by simp; omega, by simp; omega, by omega⟩)
      have HL20 := Aside0.mk (show L0.length ≤ 20 by omega)
      have HB2k := Aside0.mk (show byF L0 + byO [] ≤ 2000 by omega)
      clear hbig hbd hq0 hb0 hlen hbts
      have hv0 : ((([] : List S123).length : Int) == 0) = true := rfl
      cases hno : nameOk nm with
      | false =>
        go_wp2_with fail
        refine (wopen_bad w2 g nm hm hno).mono ?_
        rintro e w3 ⟨rfl, hB3⟩
        have HD3 := Aside0.mk (HD2.out.move hB3)
        have HB3 := Aside0.mk (below_then HB2.out HB2.out.size hB3)
        clear hB3 HD2 HB2
        go_wp2_with fail
        refine (sView w3 S g l.length L0 [] HD3.out HZ0.out).mono ?_
        rw [show viewL L0 [] = L0 from rfl]
        rintro e w4 ⟨⟨A4, c4, rfl, _, hC4⟩, hB4⟩
        have HC4 := Aside0.mk hC4
        have HD4 := Aside0.mk (HD3.out.move hB4)
        have HB4 := Aside0.mk (below_then HB3.out HB3.out.size hB4)
        clear hB4 hC4 HD3 HB3
        go_wp2_with fail
        refine (wopen_bad w4 g nm hm hno).mono ?_
        rintro e w5 ⟨rfl, hB5⟩
        have HD5 := Aside0.mk (HD4.out.move hB5)
        have HC5 := Aside0.mk (Kd.C_below HC4.out hB5)
        have HB5 := Aside0.mk (below_then HB4.out HB4.out.size hB5)
        clear hB5 HD4 HB4 HC4 hno
        go_wp2_with fail
        refine (lists36_true none 0 none 0 [] w5 (Kd.C_nil _ _) (Kd.C_nil _ _)).mono ?_
        rintro e w6 ⟨rfl, hd6⟩
        have hB6 := Drawn0.to_below hd6
        have HD6 := Aside0.mk (HD5.out.move hB6)
        have HC6 := Aside0.mk (Kd.C_below HC5.out hB6)
        have HB6 := Aside0.mk (below_then HB5.out HB5.out.size hB6)
        clear hd6 hB6 HD5 HB5 HC5
        go_wp2_with fail
        refine (sView w6 S g l.length L0 [] HD6.out HZ0.out).mono ?_
        rw [show viewL L0 [] = L0 from rfl]
        rintro e w7 ⟨⟨A7, c7, rfl, _, hC7⟩, hB7⟩
        have HC7 := Aside0.mk hC7
        have HC67 := Aside0.mk (Kd.C_below HC6.out hB7)
        have HD7 := Aside0.mk (HD6.out.move hB7)
        have HB7 := Aside0.mk (below_then HB6.out HB6.out.size hB7)
        clear hB7 hC7 HD6 HB6 HC6
        go_wp2_with fail
        refine (same_true A4 c4 A7 c7 L0 w7 HC67.out HC7.out).mono ?_
        rintro e w8 ⟨rfl, hd8⟩
        have hB8 := Drawn0.to_below hd8
        have HD8 := Aside0.mk (HD7.out.move hB8)
        have HB8 := Aside0.mk (below_then HB7.out HB7.out.size hB8)
        clear hd8 hB8 HD7 HB7 HC7 HC67
        go_wp2_with fail
        refine (sPending w8 S g l.length L0 [] HD8.out).mono ?_
        rintro e w9 ⟨rfl, h9⟩
        rw [h9]
        clear h9 w9
        go_wp2_with fail
        refine (works_wal w8).mono ?_
        rintro e w10 ⟨rfl, hB10⟩
        have HB10 := Aside0.mk (below_then HB8.out HB8.out.size hB10)
        clear hB10
        go_wp2_with fail
        go_ret
        exact ⟨rfl, HB10.out⟩
      | true =>
        have HBc := Aside0.mk (HBl.out.cont BytO.nil nm)
        have HOp := Aside0.mk (wopen_calls w2 S g l.length L0 [] nm HD2.out HZo.out hm hno HBc.out)
        obtain ⟨R, hR⟩ : ∃ R, R = recsL L0 [] nm := ⟨_, rfl⟩
        obtain ⟨r, hr⟩ : ∃ r, r = openL L0 [] l.length nm := ⟨_, rfl⟩
        have hro : r.2.1 = [] := by rw [hr]; exact (wopen_ops L0 [] l.length nm).elim id id
        have hcn := cont_open (n := l.length) hno HBc.out
        have hrs := recs_small (l := L0) (ops := []) (nm := nm) HBc.out
        have hln := open_len L0 [] l.length nm
        rw [← hR, ← hr] at HOp hcn
        rw [← hR] at hrs
        rw [← hr] at hln
        obtain ⟨L1, o1, n1⟩ := r
        replace hro : o1 = [] := hro
        subst hro
        have HAg := Aside0.mk (open_again (n := n1) hcn hrs)
        have HBc1 := Aside0.mk (show Byt (contL L1 [] nm) by
          rw [show contL L1 [] nm = framesL R from hcn]
          have h1 := (scan_full HBc.out).1
          rw [show (scanL (contL L0 [] nm)).1 = R from hR.symm] at h1
          rw [← h1]
          exact HBc.out.take _)
        have hz1 : n1 + ([] : List S123).length + 3 ≤ 1000000 ∧ L1.length + ([] : List S123).length + 3 ≤ 1000000 ∧ 2 * (byF L1 + byO []) ≤ 1000000000 := by
          obtain ⟨p1, p2, p3⟩ := hln
          obtain ⟨q1, q2, q3⟩ := HZo.out
          have h20 := HBd.out
          have h0 := HZ0.out.2.2
          have h3 : byF L0 + byO [] ≤ 2000 := HB2k.out
          have h20' := HL20.out
          dsimp only at p1 p2 p3
          simp only [List.length_nil, Nat.add_zero] at p1 p2 q1 q2 ⊢
          exact ⟨by omega, by omega, by omega⟩
        have HZ1 := Aside0.mk hz1
        have HZs := Aside0.mk (show Sz L1 [] n1 from ⟨by have := hz1.1; omega, by have := hz1.2.1; omega, by have := hz1.2.2; omega⟩)
        clear hcn hrs hln hR hr hz1
        go_wp2_with fail
        refine HOp.out.mono ?_
        rintro e w3 ⟨S3, lg, A3, c3, rfl, hD3, hC3, ⟨hL3, hlg, hnS⟩, hc3, hF3⟩
        have HD3 := Aside0.mk (show DSt w3 S3 g L1 [] n1 from hD3)
        have HB3 := Aside0.mk (wr_below HB2.out HB2.out.size HS1.out hC3.wr)
        have HS3 := Aside0.mk (show ∀ k, S3 k → w.heap.size ≤ k from fun k hk => (hC3.ex k hk).elim (fun h => HS1.out k h) (fun h => Nat.le_trans HB2.out.size h))
        have HF3 := Aside0.mk (Kd.F_bound hF3)
        clear hD3 hC3 hL3 hlg hnS hF3 HOp HD2 HB2 HS1
        go_wp2_with fail
        refine (sViewF w3 S3 g n1 L1 [] HD3.out HZs.out).mono ?_
        rw [show viewL L1 [] = L1 from rfl]
        rintro e w4 ⟨⟨A4, c4, rfl, _, hF4⟩, hB4⟩
        have HV4 := Aside0.mk (Kd.F_bound hF4)
        have HF4 := Aside0.mk (Kd.F_below HF3.out hB4)
        have HD4 := Aside0.mk (HD3.out.move hB4)
        have HB4 := Aside0.mk (below_then HB3.out HB3.out.size hB4)
        have HLt4 := Aside0.mk HD3.out.lt
        clear hB4 hF4 HD3 HB3
        have hop := wopen_calls w4 S3 g n1 L1 [] nm HD4.out HZ1.out hm hno HBc1.out
        rw [HAg.out.1, HAg.out.2] at hop
        have HOp2 := Aside0.mk hop
        clear hop
        go_wp2_with fail
        refine HOp2.out.mono ?_
        rintro e w5 ⟨S5, lg5, A5, c5, rfl, hD5, hC5, ⟨hL5, hlg5, hnS5⟩, hc5, hF5⟩
        have HD5 := Aside0.mk (show DSt w5 S5 g L1 [] n1 from hD5)
        have HB5 := Aside0.mk (wr_below HB4.out HB4.out.size HS3.out hC5.wr)
        have HF5 := Aside0.mk (Kd.F_step HF4.out (fun k hk hl => hC5.wr.2.2.2.2 k hl hk.1.2.1))
        have HV5 := Aside0.mk (Kd.F_step HV4.out (fun k hk hl => hC5.wr.2.2.2.2 k hl (fun h => by have := HLt4.out k h; have h2 : w3.heap.size ≤ k := hk.1; omega)))
        have HR5 := Aside0.mk hF5
        clear hD5 hC5 hL5 hlg5 hnS5 hF5 HOp2 HD4 HB4 HF4 HV4
        go_wp2_with fail
        refine (lists36_true A3 c3 A5 c5 R w5 (Kd.F_now HF5.out) (Kd.F_now HR5.out)).mono ?_
        rintro e w6 ⟨rfl, hd6⟩
        have hB6 := Drawn0.to_below hd6
        have HD6 := Aside0.mk (HD5.out.move hB6)
        have HV6 := Aside0.mk (Kd.F_below HV5.out hB6)
        have HB6 := Aside0.mk (below_then HB5.out HB5.out.size hB6)
        clear hd6 hB6 HD5 HB5 HV5 HF5 HR5
        go_wp2_with fail
        refine (sView w6 S5 g n1 L1 [] HD6.out HZs.out).mono ?_
        rw [show viewL L1 [] = L1 from rfl]
        rintro e w7 ⟨⟨A7, c7, rfl, _, hC7⟩, hB7⟩
        have HC7 := Aside0.mk hC7
        have HV7 := Aside0.mk (Kd.F_below HV6.out hB7)
        have HD7 := Aside0.mk (HD6.out.move hB7)
        have HB7 := Aside0.mk (below_then HB6.out HB6.out.size hB7)
        clear hB7 hC7 HD6 HB6 HV6
        go_wp2_with fail
        refine (same_true A4 c4 A7 c7 L1 w7 (Kd.F_now HV7.out) HC7.out).mono ?_
        rintro e w8 ⟨rfl, hd8⟩
        have hB8 := Drawn0.to_below hd8
        have HD8 := Aside0.mk (HD7.out.move hB8)
        have HB8 := Aside0.mk (below_then HB7.out HB7.out.size hB8)
        clear hd8 hB8 HD7 HB7 HC7 HV7
        go_wp2_with fail
        refine (sPending w8 S5 g n1 L1 [] HD8.out).mono ?_
        rintro e w9 ⟨rfl, h9⟩
        rw [h9]
        clear h9 w9
        go_wp2_with fail
        refine (works_wal w8).mono ?_
        rintro e w10 ⟨rfl, hB10⟩
        have HB10 := Aside0.mk (below_then HB8.out HB8.out.size hB10)
        clear hB10
        go_wp2_with fail
        go_ret
        exact ⟨rfl, HB10.out⟩
end Go.Proofs.Ytfaniohoplbdoaa.My
/- The statement WalOpen. -/
namespace Go.Proofs.Ytfaniohoplbdoaa.My
open Go Go.RowKit Go.Proofs.YtfaniohoplbdoaaW.PrintWords Go.Proofs.YtfaniohoplbdoaaW.PrintLast Go.Proofs.YtfaniohoplbdoaaW.PrintMore Go.Proofs.Ytfaniohoplbdoaa.PDiskActs
set_option linter.unusedVariables false
set_option linter.unusedSimpArgs false
set_option maxHeartbeats 4000000 in
set_option maxRecDepth 100000 in
theorem law_wopen (A : Option Addr) (c : Nat) (l : List S109) (nm : ByteArray) (w : World) (hF : ArgF w A c l) (hby : BytF l) (hm : nm.size ≤ maxLen) :
    Calls Try.prog 8 #[.slice A l.length c, .string nm] w (TruePost w) := by
  have HBig := Aside0.mk (fun (W : World) (hB : Below w.heap.size w W) => large_nil (hF.move hB))
  have hu53 := Try.underlying53
  have hu58 := Try.underlying58
  have HFF := Aside0.mk hF
  have HBL := Aside0.mk hby
  clear hF hby
  go_enter Try.func8, Try.ntmps8
  go_wp2_with (first | (go_at_call 31; with_reducible refine (nil_lsync _).mono ?_; rintro e w2 ⟨rfl, h2⟩; rw [h2]; clear h2 w2) | (go_at_call 32; with_reducible refine (wopen_nil _ _).mono ?_; rintro e w2 ⟨rfl, h2⟩; rw [h2]; clear h2 w2) | (go_at_call 33; with_reducible refine (nil_lappend _ _).mono ?_; rintro e w2 ⟨rfl, h2⟩; rw [h2]; clear h2 w2) | (go_at_call 34; with_reducible refine (nil_llen _).mono ?_; rintro e w2 ⟨rfl, h2⟩; rw [h2]; clear h2 w2) | (go_at_call 35; with_reducible refine (nil_lsize _).mono ?_; rintro e w2 ⟨rfl, h2⟩; rw [h2]; clear h2 w2) | (go_at_call 36; with_reducible refine (nil_lname _).mono ?_; rintro e w2 ⟨rfl, h2⟩; rw [h2]; clear h2 w2) | fail)
  cases hlo : loadOk l with
  | false =>
    refine (dload_no HFF.out hlo).mono ?_
    rintro e w1 ⟨rfl, hB1⟩
    have HB1 := Aside0.mk hB1
    clear hB1
    go_wp2_with fail
    refine (xload_no (HFF.out.move HB1.out) hlo).mono ?_
    rintro e w2 ⟨⟨A2, n2, c2, A3, n3, c3, rfl⟩, hB2⟩
    have HB2 := Aside0.mk (below_then HB1.out HB1.out.size hB2)
    clear hB2 hlo
    go_wp2_with fail
    refine (works_wal _).mono ?_
    rintro e w3 ⟨rfl, hB3⟩
    have HB3 := Aside0.mk (below_then (below_alloc' HB2.out _ HB2.out.size) (by rw [alloc_size]; have := HB2.out.size; omega) hB3)
    clear hB3
    go_wp2_with fail
    go_ret
    exact ⟨rfl, HB3.out⟩
  | true =>
    have hlen := loadL_length l
    have hbts := load_bytes l
    have hbl := HBL.out.load
    have hld := dload_yes HFF.out hlo
    have hlx := fun (W : World) (hB : Below w.heap.size w W) => xload_yes (HFF.out.move hB) hlo
    obtain ⟨L0, hL0⟩ : ∃ L0, L0 = loadL l := ⟨_, rfl⟩
    rw [← hL0] at hlen hbts hbl hld
    simp only [← hL0] at hlx
    have HBl := Aside0.mk hbl
    have HLx := Aside0.mk hlx
    clear hL0 hbl hlx hlo
    refine hld.mono ?_
    rintro e w1 ⟨g, S, rfl, hD1, hS1, hB1⟩
    have HB1 := Aside0.mk hB1
    have HD1 := Aside0.mk hD1
    have HS1 := Aside0.mk hS1
    clear hB1 hD1 hS1 hld
    go_wp2_with fail
    refine (HLx.out _ HB1.out).mono ?_
    rintro e w2 ⟨u, v, rfl, hx, hB2⟩
    obtain ⟨A2, c2, A3, c3, rfl, rfl, hP⟩ := Pair.made (w3 := w2.alloc (.cells #[u, v] 53)) HD1.out HS1.out HB1.out.size hx hB2 rfl (below_alloc (Below.refl _ _) _) (blk_new _ _)
    have HB2 := Aside0.mk (below_then HB1.out HB1.out.size hB2)
    have HBx := Aside0.mk (below_alloc' HB2.out (.cells #[.slice A2 L0.length c2, .slice A3 0 c3] 53) HB2.out.size)
    replace hP : Pair w.heap.size (w2.alloc (.cells #[.slice A2 L0.length c2, .slice A3 0 c3] 53)) g w2.heap.size S (ext (fun _ => False) w1 w2) A2 c2 A3 c3 L0 [] l.length (max l.length L0.length) (byF L0) := hP
    obtain ⟨T, hTT⟩ : ∃ T, T = ext (fun _ => False) w1 w2 := ⟨_, rfl⟩
    rw [← hTT] at hP
    have HPr := Aside0.mk hP
    clear hx hB2 hP hTT HLx
    go_wp2_with fail
    obtain ⟨xb, hxb⟩ : ∃ xb, xb = w2.heap.size := ⟨_, rfl⟩
    obtain ⟨wx, hwx⟩ : ∃ wx, wx = w2.alloc (.cells #[.slice A2 L0.length c2, .slice A3 0 c3] 53) := ⟨_, rfl⟩
    rw [← hwx, ← hxb] at HPr
    rw [← hwx] at HBx ⊢
    rw [← hxb]
    clear hxb hwx HB1 HD1 HS1 HB2
    refine (HBig.out _ HBx.out).mono ?_
    rintro e w3 ⟨rfl, hB3⟩
    have HP3 := Aside0.mk (HPr.out.move hB3)
    have HB3 := Aside0.mk (below_then HBx.out HBx.out.size hB3)
    clear hB3 HPr HBx HBig
    cases hbig : bigW l [] with
    | true =>
      clear hbig
      go_wp2_with fail
      refine (works_wal w3).mono ?_
      rintro e w4 ⟨rfl, hB4⟩
      have HB4 := Aside0.mk (below_then HB3.out HB3.out.size hB4)
      clear hB4
      go_wp2_with fail
      go_ret
      exact ⟨rfl, HB4.out⟩
    | false =>
      have hbd := bigW_false hbig
      have hq0 : byQ [] = 0 := rfl
      have hb0 : byO [] = 0 := rfl
      have HZ0 := Aside0.mk (show Sz L0 [] l.length from ⟨by simp; omega, by simp; omega, by omega⟩)
      have HZo := Aside0.mk (show l.length + ([] : List S123).length + 3 ≤ 1000000 ∧ L0.length + ([] : List S123).length + 3 ≤ 1000000 ∧ 2 * (byF L0 + byO []) ≤ 1000000000 from ⟨by simp; omega, by simp; omega, by omega⟩)
      have HZl := Aside0.mk (show l.length ≤ 20 ∧ L0.length ≤ 20 ∧ byF L0 + byO [] ≤ 2000 from ⟨by omega, by omega, by omega⟩)
      clear hbig hbd hq0 hb0 hlen hbts
      cases hno : nameOk nm with
      | false =>
        go_wp2_with fail
        refine (wopen_bad w3 g nm hm hno).mono ?_
        rintro e w4 ⟨rfl, hB4⟩
        have HP4 := Aside0.mk (HP3.out.move hB4)
        have HB4 := Aside0.mk (below_then HB3.out HB3.out.size hB4)
        have hz0 : w4.cell? ⟨xb, 0, none⟩ = some (.slice A2 L0.length c2) := (blk_cell HP4.out.blk 0).trans rfl
        have hz1 : w4.cell? ⟨xb, 1, none⟩ = some (.slice A3 ([] : List S123).length c3) := (blk_cell HP4.out.blk 1).trans rfl
        clear hB4 HP3 HB3
        go_wp2_with fail
        refine (xopen_bad w4 T A2 c2 A3 c3 l.length L0 [] nm HP4.out.xst hm hno).mono ?_
        rintro e w5 ⟨rfl, hB5⟩
        have HP5 := Aside0.mk (HP4.out.move hB5)
        have HB5 := Aside0.mk (below_then HB4.out HB4.out.size hB5)
        clear hB5 HP4 HB4 hz0 hz1 hno
        go_wp2_with fail
        obtain ⟨w6, hw6⟩ : ∃ w6, w6 = (w5.alloc (.cells #[.slice A2 L0.length c2, .slice A3 0 c3] 53)).alloc (.cells #[.string ⟨#[]⟩] 58) := ⟨_, rfl⟩
        have hB6 : Below w5.heap.size w5 w6 := by rw [hw6]; exact below_alloc (below_alloc (Below.refl _ _) _) _
        have hy : w6.heap[w5.heap.size]? = some (.cells #[.slice A2 L0.length c2, .slice A3 0 c3] 53 (0, 0)) := by
          rw [hw6]
          exact (Below.heap_alloc _ _ _ (by rw [alloc_size]; omega)).trans (blk_new _ _)
        have HD6 := Aside0.mk (HP5.out.dst.move hB6)
        have HX6 := Aside0.mk (HP5.out.xst.move hB6)
        have HY := Aside0.mk hy
        have HB6 := Aside0.mk (below_then HB5.out HB5.out.size hB6)
        rw [← hw6]
        clear hw6 hB6 hy HP5 HB5
        refine (lists36_true none 0 none 0 [] w6 (Kd.C_nil _ _) (Kd.C_nil _ _)).mono ?_
        rintro e w7 ⟨rfl, hd7⟩
        have hB7 := Drawn0.to_below hd7
        have HD7 := Aside0.mk (HD6.out.move hB7)
        have HX7 := Aside0.mk (HX6.out.move hB7)
        have hy7 := (hB7.block _ (blk_lt HY.out)).trans HY.out
        have hz0 : w7.cell? ⟨w5.heap.size, 0, none⟩ = some (.slice A2 L0.length c2) := (blk_cell hy7 0).trans rfl
        have hz1 : w7.cell? ⟨w5.heap.size, 1, none⟩ = some (.slice A3 0 c3) := (blk_cell hy7 1).trans rfl
        have HB7 := Aside0.mk (below_then HB6.out HB6.out.size hB7)
        clear hd7 hB7 hy7 HD6 HX6 HB6
        go_wp2_with fail
        refine (same36_calls w7 S T g l.length L0 [] A2 c2 A3 c3 HD7.out HX7.out HZ0.out).mono ?_
        rintro e w8 ⟨rfl, hB8⟩
        have HB8 := Aside0.mk (below_then HB7.out HB7.out.size hB8)
        clear hB8 hz0 hz1
        go_wp2_with fail
        refine (works_wal w8).mono ?_
        rintro e w9 ⟨rfl, hB9⟩
        have HB9 := Aside0.mk (below_then HB8.out HB8.out.size hB9)
        clear hB9
        go_wp2_with fail
        go_ret
        exact ⟨rfl, HB9.out⟩
      | true =>
        have HBc := Aside0.mk (HBl.out.cont BytO.nil nm)
        obtain ⟨R, hR⟩ : ∃ R, R = recsL L0 [] nm := ⟨_, rfl⟩
        obtain ⟨r, hr⟩ : ∃ r, r = openL L0 [] l.length nm := ⟨_, rfl⟩
        have hln := open_len L0 [] l.length nm
        have HOp := Aside0.mk (wopen_calls w3 S g l.length L0 [] nm HP3.out.dst HZo.out hm hno HBc.out)
        have HXo := Aside0.mk (fun (W : World) (hX : XSt W T (.slice A2 L0.length c2) (.slice A3 ([] : List S123).length c3) L0 []) => xopen_calls W T A2 c2 A3 c3 l.length L0 [] nm hX hm HZo.out hno HBc.out)
        rw [← hR, ← hr] at HOp
        simp only [← hR, ← hr] at HXo
        rw [← hr] at hln
        have HZr := Aside0.mk (show Sz r.1 r.2.1 r.2.2 from by
          obtain ⟨p1, p2, p3⟩ := hln
          have h := HZl.out
          simp only [List.length_nil, Nat.add_zero] at p1 p2
          exact ⟨by omega, by omega, by omega⟩)
        clear hln hr hR
        go_wp2_with fail
        refine HOp.out.mono ?_
        rintro e w4 ⟨S4, lg, A4, c4, rfl, hD4, hC4, ⟨hL4, hlg, hnS⟩, hc4, hF4⟩
        have hxb4 := (hC4.wr.2.2.2.2 _ (blk_lt HP3.out.blk) (fun h => (HP3.out.sb _ h).2 rfl)).trans HP3.out.blk
        have hz0 : w4.cell? ⟨xb, 0, none⟩ = some (.slice A2 L0.length c2) := (blk_cell hxb4 0).trans rfl
        have hz1 : w4.cell? ⟨xb, 1, none⟩ = some (.slice A3 ([] : List S123).length c3) := (blk_cell hxb4 1).trans rfl
        have HX4 := Aside0.mk (HP3.out.xst.off hC4.wr (fun k hk hs => HP3.out.dis k hs hk))
        have HD4 := Aside0.mk hD4
        have HL4 := Aside0.mk hL4
        have HF4 := Aside0.mk hF4
        have HB4 := Aside0.mk (wr_below HB3.out HB3.out.size (fun k hk => (HP3.out.sb k hk).1) hC4.wr)
        clear hD4 hC4 hL4 hlg hnS hF4 hxb4 HOp HP3 HB3
        go_wp2_with fail
        refine (HXo.out w4 HX4.out).mono ?_
        rintro e w5 ⟨T5, u5, v5, A5, c5, rfl, hx5, hT5, hB5, hc5, hC5⟩
        obtain ⟨A6, c6, A7, c7, rfl, rfl⟩ := hx5.slices
        have HX5 := Aside0.mk hx5
        have HD5 := Aside0.mk (HD4.out.move hB5)
        have HL5 := Aside0.mk ((hB5.block _ (blk_lt HL4.out)).trans HL4.out)
        have HC4 := Aside0.mk (Kd.F_now (Kd.F_below HF4.out hB5))
        have HC5 := Aside0.mk hC5
        have HB5 := Aside0.mk (below_then HB4.out HB4.out.size hB5)
        clear hx5 hT5 hB5 hC5 hz0 hz1 HX4 HD4 HL4 HF4 HB4 HXo
        go_wp2_with fail
        obtain ⟨w6, hw6⟩ : ∃ w6, w6 = (w5.alloc (.cells #[.slice A6 r.1.length c6, .slice A7 r.2.1.length c7] 53)).alloc (.cells #[.string nm] 58) := ⟨_, rfl⟩
        have hB6 : Below w5.heap.size w5 w6 := by rw [hw6]; exact below_alloc (below_alloc (Below.refl _ _) _) _
        have hy : w6.heap[w5.heap.size]? = some (.cells #[.slice A6 r.1.length c6, .slice A7 r.2.1.length c7] 53 (0, 0)) := by
          rw [hw6]
          exact (Below.heap_alloc _ _ _ (by rw [alloc_size]; omega)).trans (blk_new _ _)
        have HD6 := Aside0.mk (HD5.out.move hB6)
        have HX6 := Aside0.mk (HX5.out.move hB6)
        have HL6 := Aside0.mk ((hB6.block _ (blk_lt HL5.out)).trans HL5.out)
        have HC46 := Aside0.mk (Kd.C_below HC4.out hB6)
        have HC56 := Aside0.mk (Kd.C_below HC5.out hB6)
        have HY := Aside0.mk hy
        have HB6 := Aside0.mk (below_then HB5.out HB5.out.size hB6)
        rw [← hw6]
        clear hw6 hB6 hy HD5 HX5 HL5 HC4 HC5 HB5
        refine (lists36_true A4 c4 A5 c5 R w6 HC46.out HC56.out).mono ?_
        rintro e w7 ⟨rfl, hd7⟩
        have hB7 := Drawn0.to_below hd7
        have HD7 := Aside0.mk (HD6.out.move hB7)
        have HX7 := Aside0.mk (HX6.out.move hB7)
        have HL7 := Aside0.mk ((hB7.block _ (blk_lt HL6.out)).trans HL6.out)
        have hy7 := (hB7.block _ (blk_lt HY.out)).trans HY.out
        have hz0 : w7.cell? ⟨w5.heap.size, 0, none⟩ = some (.slice A6 r.1.length c6) := (blk_cell hy7 0).trans rfl
        have hz1 : w7.cell? ⟨w5.heap.size, 1, none⟩ = some (.slice A7 r.2.1.length c7) := (blk_cell hy7 1).trans rfl
        have HB7 := Aside0.mk (below_then HB6.out HB6.out.size hB7)
        clear hd7 hB7 hy7 HD6 HX6 HL6 HB6 HC46 HC56
        go_wp2_with fail
        refine (same36_calls w7 S4 T5 g r.2.2 r.1 r.2.1 A6 c6 A7 c7 HD7.out HX7.out HZr.out).mono ?_
        rintro e w8 ⟨rfl, hB8⟩
        have HL8 := Aside0.mk ((hB8.block _ (blk_lt HL7.out)).trans HL7.out)
        have HB8 := Aside0.mk (below_then HB7.out HB7.out.size hB8)
        have heq : ((R.length : Int) == (R.length : Int)) = true := by simp
        have hne : (nm.toList == nm.toList) = true := by simp
        clear hB8 hz0 hz1 HD7 HX7 HL7 HB7
        go_wp2_with fail
        refine (llen_calls w8 lg R.length (framesL R).length g nm HL8.out).mono ?_
        rintro e w9 ⟨rfl, h9⟩
        rw [h9]
        clear h9 w9
        go_wp2_with fail
        refine (lname_calls w8 lg R.length (framesL R).length g nm HL8.out).mono ?_
        rintro e w9 ⟨rfl, h9⟩
        rw [h9]
        clear h9 w9
        go_wp2_with fail
        refine (works_wal w8).mono ?_
        rintro e w9 ⟨rfl, hB9⟩
        have HB9 := Aside0.mk (below_then HB8.out HB8.out.size hB9)
        clear hB9
        go_wp2_with fail
        go_ret
        exact ⟨rfl, HB9.out⟩
end Go.Proofs.Ytfaniohoplbdoaa.My
/- The statement WalOpen returns true for all files and names, and these read as before. Conditions: none. -/
namespace Go.Proofs.Ytfaniohoplbdoaa.walOpen
open Go.ChangeShapes Go.WideShapes Go.ChangeAt Go.RowKit
open Go.ChangeMaps (open_string shut_string)
open Go.Proofs.Ytfaniohoplbdoaa.My
set_option linter.unusedVariables false
set_option linter.unusedSimpArgs false

theorem own : ownKnob Try.prog.godebug = none := by kernel_rfl
theorem laidOut : laidOutB Try.prog = true := by kernel_rfl

set_option maxRecDepth 100000 in
theorem lifted (os : Os) (started : os.Started) (H : Type) (enc : TypeId × Value → H) :
    ReturnsInHanded {} Try.checked os 8 .any (Rows.walOpenSpec.pre6 enc Try.prog Try.f8 Rows.walOpenRow.domain false) (Rows.walOpenSpec.post enc Try.prog Try.f8 false true false false) := by
  refine returnsInHanded_of_change_sized (C := Try.checked) own started (by kernel_rfl) Try.func8
    (ChangeSpec.witness6 (enc := enc) (C := Try.checked) false ⟨#[], #[.slice none 0 0, .string ⟨#[]⟩], []⟩ 8 (by kernel_rfl) (by kernel_rfl) (by kernel_rfl) (by kernel_rfl)) ?_
  intro W base args ds gs before hval0 hW hcnd hsz0 _
  have hsz : (DataW.weightsEach Try.prog (Try.f8.params.toList ++ Rows.walOpenSpec.plain.varTypes Try.prog) (ds ++ gs)).all (· ≤ reachBytes) = true := hsz0
  have hval : ∀ (j : Nat) t v, Try.f8.params[j]? = some t → args[j]? = some v → Value.okWide Try.prog W .any base t v := hval0
  have hW' := hW
  obtain ⟨p, q, hA0, hV, rfl, hfz, hnd⟩ := hW
  have hA : DataW.TrodAll enc Try.prog W 0 (fun _ => true) true Try.f8.params.toList args.toList ds p := hA0
  rw [Try.params8] at hA hval hsz
  obtain ⟨v0, vs0, d0, ds0, p0, q0, hargs, rfl, rfl, h0, r0⟩ := trodAll_cons hA
  obtain ⟨v1, vs1, d1, ds1, p1, q1, rfl, rfl, rfl, h1, r1⟩ := trodAll_cons r0
  obtain ⟨rfl, rfl, rfl⟩ := trodAll_nil r1
  obtain rfl : args = #[v0, v1] := by cases args; simp_all
  obtain ⟨rfl, rfl⟩ := trodVars_none hV
  obtain ⟨a0, len0, cap0, rfl⟩ := okWide_slice Try.underlying42 (hval 0 42 v0 rfl rfl)
  obtain ⟨s1, rfl, rfl, rfl, w1⟩ := open_string Try.underlying9 (hval 1 9 v1 rfl rfl) h1
  have k0 := h0
  have lt0 : ∀ x ∈ p0, x.block < W.heap.size := by obtain ⟨m, hm⟩ := k0; exact DataW.trod_lt m _ _ _ hm
  obtain ⟨l, rfl, hF, hby⟩ := open_files_sized_b hsz (j := 0) rfl rfl h0
  clear hA0 hval0 hsz0 hsz
  refine (law_wopen a0 cap0 l s1 W hF hby w1).mono fun e W' ⟨he, bel⟩ => ?_
  subst he
  exact ⟨_, rfl, _, _, _, [], _, [], hW', trodAll_mk1 (shut_bool Try.underlying4 _), (trodAll_cons_mk (Below.trod laidOut (by kernel_rfl) (of_decide_eq_true (by kernel_rfl)) k0 bel lt0) (trodAll_cons_mk (shut_string Try.underlying9 w1) trodAll_mk0)), rfl, bel.frame _, fun h => by cases h⟩

theorem over : Rows.walOpenRow.holds Try.pinned (OpenSpec.ofChange Rows.walOpenSpec) :=
  OpenClaim.holds_of_wide 8 Try.f8 rfl rfl rfl rfl rfl rfl rfl ⟨rfl, rfl, rfl, rfl, rfl⟩ rfl rfl rfl rfl rfl (by kernel_rfl) Try.func8 (by kernel_rfl)
    (of_decide_eq_true (by kernel_rfl)) (by unfold Func.isWrapper; first | (rw [if_pos (by decide +kernel)]; kernel_rfl) | (rw [if_neg (by decide +kernel)]; exact ⟨rfl, rfl⟩))
    (fun os started H enc _ => lifted os started H enc)

theorem proved : Rows.WalOpenSaid := over
#print axioms proved
end Go.Proofs.Ytfaniohoplbdoaa.walOpen
