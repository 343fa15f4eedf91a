/- The statement WalAgain. -/
import Derived.Test.YtfaniohoplbdoaaLe
import Derived.Test.YtfaniohoplbdoaaRows
import Derived.WalkKit
import Derived.ProofKit
import Derived.OpenShut
import Derived.ShutString
import Derived.ChangeOld
import Derived.Below
import Derived.SizedLaws
import Derived.Test.YtfaniohoplbdoaaWSized
namespace Go.Proofs.Ytfaniohoplbdoaa.My
open Go Go.RowKit Go.Proofs.YtfaniohoplbdoaaW.PrintWords Go.Proofs.YtfaniohoplbdoaaW.PrintLast Go.Proofs.YtfaniohoplbdoaaW.PrintMore Go.Proofs.Ytfaniohoplbdoaa.PDiskActs
set_option linter.unusedVariables false
set_option linter.unusedSimpArgs false
theorem bigW_false {l : List S109} {ops : List S71} (h : bigW l ops = false) : l.length ≤ 20 ∧ ops.length ≤ 40 ∧ byF l + byQ ops ≤ 2000 := by
  unfold bigW at h
  simp only [Bool.or_eq_false_iff, decide_eq_false_iff_not] at h
  omega
theorem large_nil {A : Option Addr} {c : Nat} {l : List S109} {w : World} (h : ArgF w A c l) : Calls Try.prog 39 #[.slice A l.length c, .slice none 0 0] w fun e w' => e = .returned (.bool (bigW l [])) ∧ Below w.heap.size w w' :=
  largeW_calls A c l none 0 [] w h.rd (Kd.C_nil _ _) h.data (by simp)
set_option maxHeartbeats 4000000 in
set_option maxRecDepth 100000 in
theorem law_again (A : Option Addr) (c : Nat) (l : List S109) (nm : ByteArray) (w : World) (hF : ArgF w A c l) (hby : BytF l) (hm : nm.size ≤ maxLen) :
    Calls Try.prog 17 #[.slice A l.length c, .string nm] w (TruePost w) := by
  have HBig := Aside0.mk (fun (W : World) (hB : Below w.heap.size w W) => large_nil (hF.move hB))
  cases hlo : loadOk l with
  | false =>
    have HLo := Aside0.mk (dload_no hF hlo)
    clear hlo hF
    go_enter Try.func17, Try.ntmps17
    go_wp2_with fail
    refine HLo.out.mono ?_
    rintro e w1 ⟨rfl, hB1⟩
    have HB1 := Aside0.mk hB1
    clear hB1
    go_wp2_with fail
    refine (works_wal w1).mono ?_
    rintro e w2 ⟨rfl, hB2⟩
    have HB2 := Aside0.mk (below_then HB1.out HB1.out.size hB2)
    clear hB2
    go_wp2_with fail
    go_ret
    exact ⟨rfl, HB2.out⟩
  | true =>
    have HLo := Aside0.mk (dload_yes hF hlo)
    clear hlo hF
    have hlen := loadL_length l
    have hbts := load_bytes l
    have hbl := hby.load
    obtain ⟨L0, hL0⟩ : ∃ L0, L0 = loadL l := ⟨_, rfl⟩
    rw [← hL0] at HLo hlen hbts hbl
    clear hL0
    have HBl := Aside0.mk hbl
    clear hbl hby
    go_enter Try.func17, Try.ntmps17
    go_wp2_with fail
    refine HLo.out.mono ?_
    rintro e w1 ⟨g, S, rfl, hD1, hS1, hB1⟩
    have HB1 := Aside0.mk hB1
    have HD1 := Aside0.mk hD1
    have HS1 := Aside0.mk hS1
    clear hB1 hD1 hS1 HLo
    go_wp2_with fail
    refine (HBig.out w1 HB1.out).mono ?_
    rintro e w2 ⟨rfl, hB2⟩
    have HD2 := Aside0.mk (HD1.out.move hB2)
    have HB2 := Aside0.mk (below_then HB1.out HB1.out.size hB2)
    clear hB2 HD1 HB1 HBig
    cases hbig : bigW l [] with
    | true =>
      clear hbig
      go_wp2_with fail
      refine (works_wal w2).mono ?_
      rintro e w3 ⟨rfl, hB3⟩
      have HB3 := Aside0.mk (below_then HB2.out HB2.out.size hB3)
      clear hB3
      go_wp2_with fail
      go_ret
      exact ⟨rfl, HB3.out⟩
    | false =>
      have hbd := bigW_false hbig
      have hq0 : byQ [] = 0 := rfl
      have HBd := Aside0.mk (show l.length ≤ 20 ∧ byF l ≤ 2000 by omega)
      have hb0 : byO [] = 0 := rfl
      have HZ0 := Aside0.mk (show Sz L0 [] l.length from ⟨by simp; omega, by simp; omega, by omega⟩)
      have HZo := Aside0.mk (show l.length + ([] : List S123).length + 3 ≤ 1000000 ∧ L0.length + ([] : List S123).length + 3 ≤ 1000000 ∧ 2 * (byF L0 + byO []) ≤ 1000000000 from ⟨by simp; omega, by simp; omega, by omega⟩)
      have HL20 := Aside0.mk (show L0.length ≤ 20 by omega)
      have HB2k := Aside0.mk (show byF L0 + byO [] ≤ 2000 by omega)
      clear hbig hbd hq0 hb0 hlen hbts
      have hv0 : ((([] : List S123).length : Int) == 0) = true := rfl
      cases hno : nameOk nm with
      | false =>
        go_wp2_with fail
        refine (wopen_bad w2 g nm hm hno).mono ?_
        rintro e w3 ⟨rfl, hB3⟩
        have HD3 := Aside0.mk (HD2.out.move hB3)
        have HB3 := Aside0.mk (below_then HB2.out HB2.out.size hB3)
        clear hB3 HD2 HB2
        go_wp2_with fail
        refine (sView w3 S g l.length L0 [] HD3.out HZ0.out).mono ?_
        rw [show viewL L0 [] = L0 from rfl]
        rintro e w4 ⟨⟨A4, c4, rfl, _, hC4⟩, hB4⟩
        have HC4 := Aside0.mk hC4
        have HD4 := Aside0.mk (HD3.out.move hB4)
        have HB4 := Aside0.mk (below_then HB3.out HB3.out.size hB4)
        clear hB4 hC4 HD3 HB3
        go_wp2_with fail
        refine (wopen_bad w4 g nm hm hno).mono ?_
        rintro e w5 ⟨rfl, hB5⟩
        have HD5 := Aside0.mk (HD4.out.move hB5)
        have HC5 := Aside0.mk (Kd.C_below HC4.out hB5)
        have HB5 := Aside0.mk (below_then HB4.out HB4.out.size hB5)
        clear hB5 HD4 HB4 HC4 hno
        go_wp2_with fail
        refine (lists36_true none 0 none 0 [] w5 (Kd.C_nil _ _) (Kd.C_nil _ _)).mono ?_
        rintro e w6 ⟨rfl, hd6⟩
        have hB6 := Drawn0.to_below hd6
        have HD6 := Aside0.mk (HD5.out.move hB6)
        have HC6 := Aside0.mk (Kd.C_below HC5.out hB6)
        have HB6 := Aside0.mk (below_then HB5.out HB5.out.size hB6)
        clear hd6 hB6 HD5 HB5 HC5
        go_wp2_with fail
        refine (sView w6 S g l.length L0 [] HD6.out HZ0.out).mono ?_
        rw [show viewL L0 [] = L0 from rfl]
        rintro e w7 ⟨⟨A7, c7, rfl, _, hC7⟩, hB7⟩
        have HC7 := Aside0.mk hC7
        have HC67 := Aside0.mk (Kd.C_below HC6.out hB7)
        have HD7 := Aside0.mk (HD6.out.move hB7)
        have HB7 := Aside0.mk (below_then HB6.out HB6.out.size hB7)
        clear hB7 hC7 HD6 HB6 HC6
        go_wp2_with fail
        refine (same_true A4 c4 A7 c7 L0 w7 HC67.out HC7.out).mono ?_
        rintro e w8 ⟨rfl, hd8⟩
        have hB8 := Drawn0.to_below hd8
        have HD8 := Aside0.mk (HD7.out.move hB8)
        have HB8 := Aside0.mk (below_then HB7.out HB7.out.size hB8)
        clear hd8 hB8 HD7 HB7 HC7 HC67
        go_wp2_with fail
        refine (sPending w8 S g l.length L0 [] HD8.out).mono ?_
        rintro e w9 ⟨rfl, h9⟩
        rw [h9]
        clear h9 w9
        go_wp2_with fail
        refine (works_wal w8).mono ?_
        rintro e w10 ⟨rfl, hB10⟩
        have HB10 := Aside0.mk (below_then HB8.out HB8.out.size hB10)
        clear hB10
        go_wp2_with fail
        go_ret
        exact ⟨rfl, HB10.out⟩
      | true =>
        have HBc := Aside0.mk (HBl.out.cont BytO.nil nm)
        have HOp := Aside0.mk (wopen_calls w2 S g l.length L0 [] nm HD2.out HZo.out hm hno HBc.out)
        obtain ⟨R, hR⟩ : ∃ R, R = recsL L0 [] nm := ⟨_, rfl⟩
        obtain ⟨r, hr⟩ : ∃ r, r = openL L0 [] l.length nm := ⟨_, rfl⟩
        have hro : r.2.1 = [] := by rw [hr]; exact (wopen_ops L0 [] l.length nm).elim id id
        have hcn := cont_open (n := l.length) hno HBc.out
        have hrs := recs_small (l := L0) (ops := []) (nm := nm) HBc.out
        have hln := open_len L0 [] l.length nm
        rw [← hR, ← hr] at HOp hcn
        rw [← hR] at hrs
        rw [← hr] at hln
        obtain ⟨L1, o1, n1⟩ := r
        replace hro : o1 = [] := hro
        subst hro
        have HAg := Aside0.mk (open_again (n := n1) hcn hrs)
        have HBc1 := Aside0.mk (show Byt (contL L1 [] nm) by
          rw [show contL L1 [] nm = framesL R from hcn]
          have h1 := (scan_full HBc.out).1
          rw [show (scanL (contL L0 [] nm)).1 = R from hR.symm] at h1
          rw [← h1]
          exact HBc.out.take _)
        have hz1 : n1 + ([] : List S123).length + 3 ≤ 1000000 ∧ L1.length + ([] : List S123).length + 3 ≤ 1000000 ∧ 2 * (byF L1 + byO []) ≤ 1000000000 := by
          obtain ⟨p1, p2, p3⟩ := hln
          obtain ⟨q1, q2, q3⟩ := HZo.out
          have h20 := HBd.out
          have h0 := HZ0.out.2.2
          have h3 : byF L0 + byO [] ≤ 2000 := HB2k.out
          have h20' := HL20.out
          dsimp only at p1 p2 p3
          simp only [List.length_nil, Nat.add_zero] at p1 p2 q1 q2 ⊢
          exact ⟨by omega, by omega, by omega⟩
        have HZ1 := Aside0.mk hz1
        have HZs := Aside0.mk (show Sz L1 [] n1 from ⟨by have := hz1.1; omega, by have := hz1.2.1; omega, by have := hz1.2.2; omega⟩)
        clear hcn hrs hln hR hr hz1
        go_wp2_with fail
        refine HOp.out.mono ?_
        rintro e w3 ⟨S3, lg, A3, c3, rfl, hD3, hC3, ⟨hL3, hlg, hnS⟩, hc3, hF3⟩
        have HD3 := Aside0.mk (show DSt w3 S3 g L1 [] n1 from hD3)
        have HB3 := Aside0.mk (wr_below HB2.out HB2.out.size HS1.out hC3.wr)
        have HS3 := Aside0.mk (show ∀ k, S3 k → w.heap.size ≤ k from fun k hk => (hC3.ex k hk).elim (fun h => HS1.out k h) (fun h => Nat.le_trans HB2.out.size h))
        have HF3 := Aside0.mk (Kd.F_bound hF3)
        clear hD3 hC3 hL3 hlg hnS hF3 HOp HD2 HB2 HS1
        go_wp2_with fail
        refine (sViewF w3 S3 g n1 L1 [] HD3.out HZs.out).mono ?_
        rw [show viewL L1 [] = L1 from rfl]
        rintro e w4 ⟨⟨A4, c4, rfl, _, hF4⟩, hB4⟩
        have HV4 := Aside0.mk (Kd.F_bound hF4)
        have HF4 := Aside0.mk (Kd.F_below HF3.out hB4)
        have HD4 := Aside0.mk (HD3.out.move hB4)
        have HB4 := Aside0.mk (below_then HB3.out HB3.out.size hB4)
        have HLt4 := Aside0.mk HD3.out.lt
        clear hB4 hF4 HD3 HB3
        have hop := wopen_calls w4 S3 g n1 L1 [] nm HD4.out HZ1.out hm hno HBc1.out
        rw [HAg.out.1, HAg.out.2] at hop
        have HOp2 := Aside0.mk hop
        clear hop
        go_wp2_with fail
        refine HOp2.out.mono ?_
        rintro e w5 ⟨S5, lg5, A5, c5, rfl, hD5, hC5, ⟨hL5, hlg5, hnS5⟩, hc5, hF5⟩
        have HD5 := Aside0.mk (show DSt w5 S5 g L1 [] n1 from hD5)
        have HB5 := Aside0.mk (wr_below HB4.out HB4.out.size HS3.out hC5.wr)
        have HF5 := Aside0.mk (Kd.F_step HF4.out (fun k hk hl => hC5.wr.2.2.2.2 k hl hk.1.2.1))
        have HV5 := Aside0.mk (Kd.F_step HV4.out (fun k hk hl => hC5.wr.2.2.2.2 k hl (fun h => by have := HLt4.out k h; have h2 : w3.heap.size ≤ k := hk.1; omega)))
        have HR5 := Aside0.mk hF5
        clear hD5 hC5 hL5 hlg5 hnS5 hF5 HOp2 HD4 HB4 HF4 HV4
        go_wp2_with fail
        refine (lists36_true A3 c3 A5 c5 R w5 (Kd.F_now HF5.out) (Kd.F_now HR5.out)).mono ?_
        rintro e w6 ⟨rfl, hd6⟩
        have hB6 := Drawn0.to_below hd6
        have HD6 := Aside0.mk (HD5.out.move hB6)
        have HV6 := Aside0.mk (Kd.F_below HV5.out hB6)
        have HB6 := Aside0.mk (below_then HB5.out HB5.out.size hB6)
        clear hd6 hB6 HD5 HB5 HV5 HF5 HR5
        go_wp2_with fail
        refine (sView w6 S5 g n1 L1 [] HD6.out HZs.out).mono ?_
        rw [show viewL L1 [] = L1 from rfl]
        rintro e w7 ⟨⟨A7, c7, rfl, _, hC7⟩, hB7⟩
        have HC7 := Aside0.mk hC7
        have HV7 := Aside0.mk (Kd.F_below HV6.out hB7)
        have HD7 := Aside0.mk (HD6.out.move hB7)
        have HB7 := Aside0.mk (below_then HB6.out HB6.out.size hB7)
        clear hB7 hC7 HD6 HB6 HV6
        go_wp2_with fail
        refine (same_true A4 c4 A7 c7 L1 w7 (Kd.F_now HV7.out) HC7.out).mono ?_
        rintro e w8 ⟨rfl, hd8⟩
        have hB8 := Drawn0.to_below hd8
        have HD8 := Aside0.mk (HD7.out.move hB8)
        have HB8 := Aside0.mk (below_then HB7.out HB7.out.size hB8)
        clear hd8 hB8 HD7 HB7 HC7 HV7
        go_wp2_with fail
        refine (sPending w8 S5 g n1 L1 [] HD8.out).mono ?_
        rintro e w9 ⟨rfl, h9⟩
        rw [h9]
        clear h9 w9
        go_wp2_with fail
        refine (works_wal w8).mono ?_
        rintro e w10 ⟨rfl, hB10⟩
        have HB10 := Aside0.mk (below_then HB8.out HB8.out.size hB10)
        clear hB10
        go_wp2_with fail
        go_ret
        exact ⟨rfl, HB10.out⟩
end Go.Proofs.Ytfaniohoplbdoaa.My
/- Logs in a loop: plain facts. -/
namespace Go.Proofs.Ytfaniohoplbdoaa.My
open Go Go.RowKit Go.Proofs.YtfaniohoplbdoaaW.PrintWords Go.Proofs.YtfaniohoplbdoaaW.PrintLast Go.Proofs.YtfaniohoplbdoaaW.PrintMore Go.Proofs.Ytfaniohoplbdoaa.PDiskActs
set_option linter.unusedVariables false
set_option linter.unusedSimpArgs false
theorem find_cons (x : S109) (l : List S109) (nm : ByteArray) : findL (x :: l) nm = if x.f0.toList == nm.toList then some x.f1 else findL l nm := by
  unfold findL
  rw [List.find?_cons]
  split <;> simp_all
theorem find_without_ne {nm tn : ByteArray} (h : nm.toList ≠ tn.toList) : ∀ l : List S109, findL (withoutL l tn) nm = findL l nm
  | [] => rfl
  | x :: r => by
    have ih := find_without_ne h r
    unfold withoutL at ih ⊢
    rw [List.filter_cons]
    by_cases hx : x.f0.toList = tn.toList
    · rw [if_neg (by simp [hx]), ih, find_cons, if_neg (by rw [hx]; simp; exact fun e => h e.symm)]
    · rw [if_pos (by simp [hx]), find_cons, find_cons, ih]
theorem find_ins_ne {f : S109} {nm : ByteArray} (h : f.f0.toList ≠ nm.toList) : ∀ l : List S109, findL (insL f l) nm = findL l nm
  | [] => by
    unfold insL
    rw [find_cons, if_neg (by simpa using h)]
  | x :: r => by
    unfold insL
    split
    · rw [find_cons, if_neg (by simpa using h)]
    · rw [find_cons, find_cons, find_ins_ne h r]
theorem find_with_ne {f : S109} {nm : ByteArray} (h : f.f0.toList ≠ nm.toList) (l : List S109) : findL (withL l f) nm = findL l nm := by
  unfold withL
  rw [find_ins_ne h, find_without_ne (fun e => h e.symm)]
theorem byF_with (l : List S109) (f : S109) : byF (withL l f) = f.f1.length + byF (withoutL l f.f0) := byF_insL f _
/-- What was repaired is not longer than it was. -/
theorem repair_bytes (l : List S109) (nm : ByteArray) (y : List Int) (hn : nameOk nm = true) (hy : y.length ≤ (contL l [] nm).length) : byF (viewL l (repairL l [] nm y)) ≤ byF l := by
  have e2 : (appendL (rep1 l []) nT y).1 = rep1 l [] ++ [⟨0, nT, ⟨#[]⟩, y⟩] := by unfold appendL; rw [nameT]; rfl
  have v2 : viewL l (appendL (rep1 l []) nT y).1 = withL (viewL l (rep1 l [])) ⟨nT, y⟩ := by
    rw [e2, view_snoc]
    show withL _ ⟨nT, (findL (viewL l (rep1 l [])) nT).getD [] ++ y⟩ = _
    rw [rep1_none]
    rfl
  have v1 : byF (viewL l (rep1 l [])) ≤ byF l ∧ (nT.toList ≠ nm.toList → findL (viewL l (rep1 l [])) nm = findL l nm) ∧ byF (viewL l (rep1 l [])) + ((findL l nT).getD []).length ≤ byF l := by
    unfold rep1
    split
    · rename_i h
      unfold removeL
      rw [if_pos h, view_snoc]
      show byF (withoutL l nT) ≤ _ ∧ (_ → findL (withoutL l nT) nm = _) ∧ byF (withoutL l nT) + _ ≤ _
      have := byF_find nT l
      exact ⟨byF_without nT l, fun hne => find_without_ne (fun e => hne e.symm) l, by omega⟩
    · rename_i h
      have : findL l nT = none := by
        have h' : findL (viewL l []) nT = none := by simpa using h
        exact h'
      rw [this]
      exact ⟨Nat.le_refl _, fun _ => rfl, Nat.le_refl _⟩
  obtain ⟨V, hV⟩ : ∃ V, V = viewL l (rep1 l []) := ⟨_, rfl⟩
  have hVn : findL V nT = none := by rw [hV]; exact rep1_none l []
  rw [← hV] at v1 v2
  obtain ⟨V1, hV1⟩ : ∃ V1, V1 = viewL l (appendL (rep1 l []) nT y).1 := ⟨_, rfl⟩
  have f2 : findL V1 nT = some y := by rw [hV1, v2]; exact find_with _ ⟨nT, y⟩
  have b1 : byF V1 = y.length + byF (withoutL V nT) := by rw [hV1, v2]; exact byF_with _ _
  have b0 := byF_without nT V
  unfold repairL renameL
  rw [← hV1, f2]
  simp only [Option.isSome_some, if_true, hn]
  rw [view_snoc, ← hV1]
  show byF (match findL V1 nT with
    | none => _
    | some b => _) ≤ _
  rw [f2]
  show byF (if nT.toList == nm.toList then V1 else withL (withoutL V1 nT) ⟨nm, y⟩) ≤ _
  split
  · rename_i h
    have hnm : nT = nm := toList_inj (by simpa using h)
    have hc : contL l [] nm = (findL l nT).getD [] := by rw [← hnm]; rfl
    rw [hc] at hy
    omega
  · rename_i h
    have hne : nT.toList ≠ nm.toList := by simpa using h
    have c1 := byF_find nT V1
    rw [f2] at c1
    have c2 := byF_find nm (withoutL V1 nT)
    have c3 : findL (withoutL V1 nT) nm = findL l nm := by
      rw [find_without_ne (fun e => hne e.symm), hV1, v2, find_with_ne (f := ⟨nT, y⟩) hne, v1.2.1 hne]
    rw [c3] at c2
    have hc : contL l [] nm = (findL l nm).getD [] := rfl
    rw [hc] at hy
    rw [byF_with]
    show y.length + byF (withoutL (withoutL V1 nT) nm) ≤ _
    have c4 : ((some y : Option (List Int)).getD []).length = y.length := rfl
    omega
theorem open_bytes (l : List S109) (n : Nat) (nm : ByteArray) (hn : nameOk nm = true) : byF (openL l [] n nm).1 ≤ byF l := by
  unfold openL
  split
  · exact repair_bytes l nm _ hn (by rw [List.length_take]; omega)
  · exact Nat.le_refl _
theorem open_len' (l : List S109) (n : Nat) (nm : ByteArray) : (openL l [] n nm).2.1 = [] ∧ (openL l [] n nm).2.2 ≤ n + 3 ∧ (openL l [] n nm).1.length ≤ l.length + 3 := by
  have h := open_len l [] n nm
  have h0 : (openL l [] n nm).2.1 = [] := (wopen_ops l [] n nm).elim id id
  rw [h0] at h
  simp only [List.length_nil, Nat.add_zero] at h
  exact ⟨h0, h.1, h.2.1⟩
theorem BytO.app {ops : List S123} (h : BytO ops) {o : S123} (ho : Byt o.f3) : BytO (ops ++ [o]) := fun x hx => (List.mem_append.1 hx).elim (h x) (fun e => by simp at e; rw [e]; exact ho)
theorem BytF.open_ {l : List S109} (h : BytF l) (n : Nat) (nm : ByteArray) : BytF (openL l [] n nm).1 := by
  unfold openL
  split
  · have hy := (h.cont BytO.nil nm).take (scanL (contL l [] nm)).2
    generalize (contL l [] nm).take (scanL (contL l [] nm)).2 = y at hy
    refine h.view _ ?_
    have h1 : BytO (rep1 l []) := by
      unfold rep1 removeL
      split
      · exact BytO.nil.app Byt.nil
      · exact BytO.nil
    have h2 : BytO (appendL (rep1 l []) nT y).1 := by
      unfold appendL
      split
      · exact h1.app hy
      · exact h1
    unfold repairL renameL
    split
    · split
      · exact h2.app Byt.nil
      · exact h2
    · exact h2
  · exact h
theorem BytO.takeN {ops : List S123} (h : BytO ops) (k : Nat) : BytO (ops.take k) := fun x hx => h x (List.mem_of_mem_take hx)
theorem BytF.crash {l : List S109} {ops : List S123} (h : BytF l) (ho : BytO ops) (keep torn : Int) : BytF (crashL l ops keep torn) := by
  have hv := h.view _ (ho.takeN (keepN keep ops.length))
  unfold crashL
  split
  · rename_i hk
    split
    · refine hv.carry ?_
      exact (ho _ (List.getElem_mem hk)).take _
    · exact hv
  · exact hv
theorem app_ok {ops : List S123} {nm : ByteArray} {f : List Int} (hn : nameOk nm = true) : appendL ops nm f = (ops ++ [⟨0, nm, n0, f⟩], 0) := by
  unfold appendL
  rw [hn]
  rfl
theorem cont_app {L : List S109} {ops : List S123} {nm : ByteArray} (f : List Int) (hn : nameOk nm = true) : contL L (appendL ops nm f).1 nm = contL L ops nm ++ f := by
  rw [app_ok hn]
  unfold contL
  rw [view_snoc]
  show (findL (withL (viewL L ops) ⟨nm, (findL (viewL L ops) nm).getD [] ++ f⟩) nm).getD [] = _
  rw [find_with (viewL L ops) ⟨nm, (findL (viewL L ops) nm).getD [] ++ f⟩]
  rfl
/-- Records appended: one more. -/
theorem recs_app {L : List S109} {ops : List S123} {nm : ByteArray} {y : List Int} (hn : nameOk nm = true) (hf : contL L ops nm = framesL (recsL L ops nm)) (hb : Byt (contL L ops nm)) (hy : y.length ≤ 1048576) :
    recsL L (appendL ops nm (frameL y)).1 nm = recsL L ops nm ++ [y] ∧ contL L (appendL ops nm (frameL y)).1 nm = framesL (recsL L (appendL ops nm (frameL y)).1 nm) := by
  have hs := recs_small hb
  have hc := cont_app (L := L) (ops := ops) (frameL y) hn
  have e : contL L (appendL ops nm (frameL y)).1 nm = framesL (recsL L ops nm ++ [y]) := by
    rw [hc, framesL_append, ← hf]
    simp [framesL]
  have hr := (open_again (n := 0) e (fun x hx => (List.mem_append.1 hx).elim (hs x) (fun h => by simp at h; rw [h]; exact hy))).2
  rw [hr]
  exact ⟨rfl, e⟩
end Go.Proofs.Ytfaniohoplbdoaa.My
/- The statement WalActs. -/
namespace Go.Proofs.Ytfaniohoplbdoaa.My
open Go Go.RowKit Go.Proofs.YtfaniohoplbdoaaW.PrintWords Go.Proofs.YtfaniohoplbdoaaW.PrintLast Go.Proofs.YtfaniohoplbdoaaW.PrintMore Go.Proofs.Ytfaniohoplbdoaa.PDiskActs
set_option linter.unusedVariables false
set_option linter.unusedSimpArgs false
/-- What opening leaves, in plain words. -/
structure Opened (L1 : List S109) (n1 : Nat) (R : List (List Int)) (nm : ByteArray) (mn ml my : Nat) : Prop where
  bf : BytF L1
  cont : contL L1 [] nm = framesL R
  recs : recsL L1 [] nm = R
  nb : n1 ≤ mn + 3
  len : L1.length ≤ ml + 3
  byt : byF L1 ≤ my
structure Starts (L0 : List S109) (n : Nat) (L1 : List S109) (n1 : Nat) (R : List (List Int)) (nm : ByteArray) : Prop extends Opened L1 n1 R nm n L0.length (byF L0) where
  opn : ∀ (w : World) (S : Nat → Prop) (g : Nat), DSt w S g L0 [] n → nm.size ≤ maxLen → Calls Try.prog 32 #[.pointer (some ⟨g, 0, none⟩), .string nm] w (OpenPost w S g (L1, [], n1) R nm)
  xopn : ∀ (w : World) (T : Nat → Prop) (A : Option Addr) (c : Nat) (A' : Option Addr) (c' : Nat), XSt w T (.slice A L0.length c) (.slice A' ([] : List S123).length c') L0 [] → nm.size ≤ maxLen → Calls Try.prog 41 #[dkV A L0.length c A' ([] : List S123).length c', .string nm] w (XOpenPostF w T (L1, [], n1) R nm)
theorem start_facts {L0 : List S109} {n : Nat} {nm : ByteArray} (hb : BytF L0) (hno : nameOk nm = true) (hn : n ≤ 1000) (hl : L0.length ≤ 1000) (hy : byF L0 ≤ 100000) :
    Starts L0 n (openL L0 [] n nm).1 (openL L0 [] n nm).2.2 (recsL L0 [] nm) nm := by
  have hc := hb.cont BytO.nil nm
  have hs := recs_small hc
  have h0 := open_len' L0 n nm
  have hcn := cont_open (n := n) hno hc
  rw [h0.1] at hcn
  have e : openL L0 [] n nm = ((openL L0 [] n nm).1, [], (openL L0 [] n nm).2.2) := by
    conv => lhs; rw [show openL L0 [] n nm = ((openL L0 [] n nm).1, (openL L0 [] n nm).2.1, (openL L0 [] n nm).2.2) from rfl, h0.1]
  have hz : n + ([] : List S123).length + 3 ≤ 1000000 ∧ L0.length + ([] : List S123).length + 3 ≤ 1000000 ∧ 2 * (byF L0 + byO []) ≤ 1000000000 := ⟨by simp only [List.length_nil]; omega, by simp only [List.length_nil]; omega, by rw [byO_nil]; omega⟩
  refine ⟨⟨hb.open_ n nm, hcn, (open_again (n := 0) hcn hs).2, h0.2.1, h0.2.2, open_bytes L0 n nm hno⟩, fun w S g hD hm => ?_, fun w T A c A' c' hX hm => ?_⟩
  · have h := wopen_calls w S g n L0 [] nm hD hz hm hno hc
    rw [e] at h
    exact h
  · have h := xopen_callsF w T A c A' c' n L0 [] nm hX hm hz hno hc
    rw [e] at h
    exact h
theorem frame_size (z : List Int) : (frameL z).length = z.length + 8 := by
  have h := framesL_length [z]
  simp [framesL, tot] at h
  omega
/-- A disk, the reference's in xb, a log, the reference's in yb. -/
structure WP (base : Nat) (w : World) (g lg xb yb : Nat) (S T : Nat → Prop) (A : Option Addr) (c : Nat) (A' : Option Addr) (c' : Nat) (L : List S109) (O : List S123) (n m y : Nat) (nm : ByteArray) (R : List (List Int)) : Prop where
  p : Pair base w g xb S T A c A' c' L O n m y
  lgb : w.heap[lg]? = some (.cells (logC R.length (framesL R).length g nm) 105 (0, 0))
  ybb : w.heap[yb]? = some (.cells #[.string nm] 58 (0, 0))
  off : ∀ k, S k ∨ T k → k ≠ lg ∧ k ≠ yb
  lx : lg ≠ xb ∧ lg ≠ yb ∧ yb ≠ xb ∧ base ≤ lg ∧ base ≤ yb
  cont : contL L O nm = framesL R
  recs : recsL L O nm = R
  bf : BytF L
  bo : BytO O
section
variable {base : Nat} {w : World} {g lg xb yb : Nat} {S T : Nat → Prop} {A : Option Addr} {c : Nat} {A' : Option Addr} {c' : Nat} {L : List S109} {O : List S123} {n m y : Nat} {nm : ByteArray} {R : List (List Int)}
theorem WP.move {w' : World} (h : WP base w g lg xb yb S T A c A' c' L O n m y nm R) (hB : Below w.heap.size w w') : WP base w' g lg xb yb S T A c A' c' L O n m y nm R :=
  ⟨h.p.move hB, (hB.block _ (blk_lt h.lgb)).trans h.lgb, (hB.block _ (blk_lt h.ybb)).trans h.ybb, h.off, h.lx, h.cont, h.recs, h.bf, h.bo⟩
theorem WP.byt (h : WP base w g lg xb yb S T A c A' c' L O n m y nm R) : Byt (contL L O nm) := h.bf.cont h.bo nm
theorem WP.cells (h : WP base w g lg xb yb S T A c A' c' L O n m y nm R) : w.cell? ⟨xb, 0, none⟩ = some (.slice A L.length c) ∧ w.cell? ⟨xb, 1, none⟩ = some (.slice A' O.length c') ∧ w.cell? ⟨yb, 0, none⟩ = some (.string nm) :=
  ⟨(blk_cell h.p.blk 0).trans rfl, (blk_cell h.p.blk 1).trans rfl, (blk_cell h.ybb 0).trans rfl⟩
theorem WP.small (h : WP base w g lg xb yb S T A c A' c' L O n m y nm R) : (framesL R).length ≤ y ∧ R.length ≤ y := by
  have h1 := cont_le L O nm
  have h2 := h.p.s3
  have h3 := framesL_length R
  rw [h.cont] at h1
  omega
/-- Opened anew. -/
theorem wp_opened {w4 w5 w6 wf : World} {S5 T6 : Nat → Prop} {n1 mn ml my : Nat} {A7 : Option Addr} {c7 : Nat} {A8 : Option Addr} {c8 : Nat} {L1 : List S109}
    (hb : base ≤ w4.heap.size) (hS : ∀ k, S k → base ≤ k ∧ k ≠ xb) (hT : ∀ k, T k → base ≤ k ∧ k ≠ xb) (hd : ∀ k, S k → ¬ T k) (hTl : ∀ k, T k → k < w4.heap.size) (hx : xb < w4.heap.size) (hxb : base ≤ xb)
    (hD : DSt w5 S5 g L1 [] n1) (hC : Chn w4 w5 S S5) (hl : w5.heap[lg]? = some (.cells (logC R.length (framesL R).length g nm) 105 (0, 0))) (hlS : w4.heap.size ≤ lg ∧ ¬ S5 lg)
    (hX : XSt w6 T6 (.slice A7 L1.length c7) (.slice A8 ([] : List S123).length c8) L1 []) (hT6 : ∀ k, T6 k → T k ∨ w5.heap.size ≤ k) (hB : Below w5.heap.size w5 w6)
    (hW : Wr w6 wf (fun k => k = xb ∨ k = yb)) (hxf : wf.heap[xb]? = some (.cells #[.slice A7 L1.length c7, .slice A8 ([] : List S123).length c8] 53 (0, 0))) (hyf : wf.heap[yb]? = some (.cells #[.string nm] 58 (0, 0)))
    (hSy : ∀ k, S5 k → k ≠ yb) (hTy : ∀ k, T6 k → k ≠ yb) (hly : lg ≠ yb) (hyx : yb ≠ xb) (hyb : base ≤ yb)
    (ho : Opened L1 n1 R nm mn ml my) (h1 : mn + 3 ≤ m) (h2 : ml + 3 ≤ m) (h3 : my ≤ y) :
    WP base wf g lg xb yb S5 T6 A7 c7 A8 c8 L1 [] n1 m y nm R := by
  have hs5 := hC.wr.size
  have hl5 := blk_lt hl
  have hS5 : ∀ k, S5 k → base ≤ k ∧ k ≠ xb := fun k hk => (hC.ex k hk).elim (hS k) (fun h => ⟨by omega, by omega⟩)
  have hT5 : ∀ k, T6 k → base ≤ k ∧ k ≠ xb := fun k hk => (hT6 k hk).elim (hT k) (fun h => ⟨by omega, by omega⟩)
  have hnb := ho.nb
  have hlen := ho.len
  have hby := ho.byt
  refine ⟨⟨(hD.move hB).off hW (fun k hk e => e.elim (hS5 k hk).2 (hSy k hk)), hX.off hW (fun k hk e => e.elim (hT5 k hk).2 (hTy k hk)), fun k hk ht => ?_, hS5, hT5, hxf, hxb, by simp only [List.length_nil]; omega, by simp only [List.length_nil]; omega, by rw [byO_nil]; omega⟩, ?_, hyf, fun k hk => ?_, ⟨by omega, hly, hyx, by omega, hyb⟩, ho.cont, ho.recs, ho.bf, BytO.nil⟩
  · have hlt := hD.lt k hk
    rcases hT6 k ht with h | h
    · rcases hC.ex k hk with h' | h'
      · exact hd k h' h
      · have := hTl k h; omega
    · omega
  · exact (hW.2.2.2.2 lg (Nat.lt_of_lt_of_le hl5 hB.size) (fun e => e.elim (fun e => by omega) hly)).trans ((hB.block _ hl5).trans hl)
  · rcases hk with hk | hk
    · exact ⟨fun e => hlS.2 (e ▸ hk), hSy k hk⟩
    · refine ⟨fun e => ?_, hTy k hk⟩
      rcases hT6 k hk with h | h
      · have := hTl k h; omega
      · omega
/-- The reference's record appended, its disk stored: the disk and the log are as they were. -/
theorem WP.app_pre {w2 wf : World} {T2 : Nat → Prop} {u v : Value} {O' : List S123} (h : WP base w g lg xb yb S T A c A' c' L O n m y nm R) (hB2 : Below w.heap.size w w2) (hW : Wr w2 wf (fun k => k = xb)) :
    DSt wf S g L O n ∧ wf.heap[lg]? = some (.cells (logC R.length (framesL R).length g nm) 105 (0, 0)) ∧ ¬ S lg ∧ wf.heap[yb]? = some (.cells #[.string nm] 58 (0, 0)) := by
  have hl := blk_lt h.lgb
  have hy := blk_lt h.ybb
  have hs := hB2.size
  exact ⟨(h.p.dst.move hB2).off hW (fun k hk e => (h.p.sb k hk).2 e), (hW.2.2.2.2 lg (by omega) h.lx.1).trans ((hB2.block _ hl).trans h.lgb), fun hk => (h.off lg (.inl hk)).1 rfl, (hW.2.2.2.2 yb (by omega) h.lx.2.2.1).trans ((hB2.block _ hy).trans h.ybb)⟩
theorem WP.app_post {w2 wf w5 : World} {T2 S5 : Nat → Prop} {A2 : Option Addr} {c2 : Nat} {A3 : Option Addr} {c3 : Nat} {z : List Int} (h : WP base w g lg xb yb S T A c A' c' L O n m y nm R) (hno : nameOk nm = true) (hz : z.length ≤ 1048576) (hzb : Byt z) (hb : base ≤ w.heap.size)
    (hX : XSt w2 T2 (.slice A2 L.length c2) (.slice A3 (appendL O nm (frameL z)).1.length c3) L (appendL O nm (frameL z)).1) (hT : ∀ k, T2 k → T k ∨ w.heap.size ≤ k) (hB2 : Below w.heap.size w w2) (hW : Wr w2 wf (fun k => k = xb))
    (hxf : wf.heap[xb]? = some (.cells #[.slice A2 L.length c2, .slice A3 (appendL O nm (frameL z)).1.length c3] 53 (0, 0)))
    (hD5 : DSt w5 S5 g L (appendL O nm (frameL z)).1 n) (hl5 : w5.heap[lg]? = some (.cells (logC (R.length + 1) ((framesL R).length + (z.length + 8)) g nm) 105 (0, 0))) (hs5 : ∀ k, S5 k → S k ∨ wf.heap.size ≤ k) (hW5 : Wr wf w5 (fun k => S k ∨ k = lg)) (hn5 : ¬ S5 lg) :
    WP base w5 g lg xb yb S5 T2 A2 c2 A3 c3 L (appendL O nm (frameL z)).1 n (m + 1) (y + (z.length + 8)) nm (R ++ [z]) := by
  obtain ⟨r1, r2⟩ := recs_app (L := L) (ops := O) hno (by rw [h.recs]; exact h.cont) h.byt hz
  rw [h.recs] at r1
  rw [r1] at r2
  have hlt := hX.lt
  have hw2 := hB2.size
  have hwf := hW.size
  have hxl := blk_lt h.p.blk
  have hyl := blk_lt h.ybb
  have hll := blk_lt h.lgb
  have hSl := h.p.dst.lt
  have hTl := h.p.xst.lt
  have hxs : ∀ k, S k → k ≠ xb := fun k hk => (h.p.sb k hk).2
  have htx : ∀ k, T2 k → base ≤ k ∧ k ≠ xb := fun k hk => (hT k hk).elim (h.p.tb k) (fun h' => ⟨by omega, by omega⟩)
  have htl : ∀ k, T2 k → k ≠ lg ∧ k ≠ yb := fun k hk => (hT k hk).elim (fun h' => h.off k (.inr h')) (fun h' => ⟨by omega, by omega⟩)
  have e1 : (appendL O nm (frameL z)).1.length = O.length + 1 := by rw [app_ok hno]; simp
  have e2 : byO (appendL O nm (frameL z)).1 = byO O + (z.length + 8) := by rw [app_ok hno, byO_snoc]; show byO O + (frameL z).length = _; rw [frame_size]
  have s1 := h.p.s1
  have s2 := h.p.s2
  have s3 := h.p.s3
  have hnx : ¬ (S xb ∨ xb = lg) := fun e => e.elim (fun h' => hxs xb h' rfl) (fun e => h.lx.1 e.symm)
  have hny : ¬ (S yb ∨ yb = lg) := fun e => e.elim (fun h' => (h.off yb (.inl h')).2 rfl) (fun e => h.lx.2.1 e.symm)
  refine ⟨⟨hD5, (hX.off hW (fun k hk e => (htx k hk).2 e)).off hW5 (fun k hk e => ?_), fun k hk ht => ?_, fun k hk => ?_, htx, (hW5.2.2.2.2 xb (by omega) hnx).trans hxf, h.p.xbb, by rw [e1]; omega, by rw [e1]; omega, by rw [e2]; omega⟩, ?_, ?_, fun k hk => ?_, h.lx, r2, r1, h.bf, ?_⟩
  · rcases e with e | e
    · rcases hT k hk with h' | h'
      · exact h.p.dis k e h'
      · have := hSl k e; omega
    · exact (htl k hk).1 e
  · have h2 := hlt k ht
    rcases hs5 k hk with h' | h'
    · rcases hT k ht with h'' | h''
      · exact h.p.dis k h' h''
      · have := hSl k h'; omega
    · omega
  · rcases hs5 k hk with h' | h'
    · exact h.p.sb k h'
    · exact ⟨by omega, by omega⟩
  · rw [hl5, framesL_append, List.length_append, List.length_append]
    show _ = some (Obj.cells (logC (R.length + 1) ((framesL R).length + (framesL [z]).length) g nm) 105 (0, 0))
    rw [show (framesL [z]).length = z.length + 8 by rw [framesL_length]; simp [tot]; omega]
  · exact (hW5.2.2.2.2 yb (by omega) hny).trans ((hW.2.2.2.2 yb (by omega) h.lx.2.2.1).trans ((hB2.block _ hyl).trans h.ybb))
  · rcases hk with hk | hk
    · refine ⟨fun e => hn5 (e ▸ hk), ?_⟩
      rcases hs5 k hk with h' | h'
      · exact (h.off k (.inl h')).2
      · omega
    · exact htl k hk
  · rw [app_ok hno]
    exact h.bo.app (frameL_byt hzb)
/-- Both synced. -/
theorem WP.synced {w2 w3 wf : World} {A2 : Option Addr} {c2 : Nat} {A3 : Option Addr} {c3 : Nat} (h : WP base w g lg xb yb S T A c A' c' L O n m y nm R) (hb : base ≤ w.heap.size)
    (hD : DSt w2 (ext S w w2) g (viewL L O) [] (n + O.length)) (hW2 : Wr w w2 S) (hX : XSt w3 (ext T w2 w3) (.slice A2 (viewL L O).length c2) (.slice A3 ([] : List S123).length c3) (viewL L O) []) (hB3 : Below w2.heap.size w2 w3) (hW : Wr w3 wf (fun k => k = xb))
    (hxf : wf.heap[xb]? = some (.cells #[.slice A2 (viewL L O).length c2, .slice A3 ([] : List S123).length c3] 53 (0, 0))) :
    WP base wf g lg xb yb (ext S w w2) (ext T w2 w3) A2 c2 A3 c3 (viewL L O) [] (n + O.length) m y nm R := by
  have hs2 := hW2.size
  have hs3 := hB3.size
  have hxl := blk_lt h.p.blk
  have hyl := blk_lt h.ybb
  have hll := blk_lt h.lgb
  have hSl := h.p.dst.lt
  have hTl := h.p.xst.lt
  have v1 := viewL_length O L
  have v2 := byF_viewL O L
  have s1 := h.p.s1
  have s2 := h.p.s2
  have s3 := h.p.s3
  have hse : ∀ k, ext S w w2 k → base ≤ k ∧ k ≠ xb ∧ k ≠ lg ∧ k ≠ yb := fun k hk => hk.1.elim (fun h' => ⟨(h.p.sb k h').1, (h.p.sb k h').2, h.off k (.inl h')⟩) (fun h' => ⟨by omega, by omega, by omega, by omega⟩)
  have hte : ∀ k, ext T w2 w3 k → base ≤ k ∧ k ≠ xb ∧ k ≠ lg ∧ k ≠ yb := fun k hk => hk.1.elim (fun h' => ⟨(h.p.tb k h').1, (h.p.tb k h').2, h.off k (.inr h')⟩) (fun h' => ⟨by omega, by omega, by omega, by omega⟩)
  have keep : ∀ k, k < w.heap.size → ¬ S k → k ≠ xb → wf.heap[k]? = w.heap[k]? := fun k h1 h2 h3 => (hW.2.2.2.2 k (by omega) h3).trans ((hB3.block k (by omega)).trans (hW2.2.2.2.2 k h1 h2))
  refine ⟨⟨(hD.move hB3).off hW (fun k hk e => (hse k hk).2.1 e), hX.off hW (fun k hk e => (hte k hk).2.1 e), fun k hk ht => ?_, fun k hk => ⟨(hse k hk).1, (hse k hk).2.1⟩, fun k hk => ⟨(hte k hk).1, (hte k hk).2.1⟩, hxf, h.p.xbb, by simp only [List.length_nil]; omega, by simp only [List.length_nil]; omega, by rw [byO_nil]; omega⟩, ?_, ?_, fun k hk => hk.elim (fun h' => (hse k h').2.2) (fun h' => (hte k h').2.2), h.lx, h.cont, h.recs, h.bf.view O h.bo, BytO.nil⟩
  · rcases hk.1 with h1 | h1
    · rcases ht.1 with h2 | h2
      · exact h.p.dis k h1 h2
      · have := hSl k h1; omega
    · rcases ht.1 with h2 | h2
      · have := hTl k h2; omega
      · have := hk.2; omega
  · exact (keep lg hll (fun hk => (h.off lg (.inl hk)).1 rfl) h.lx.1).trans h.lgb
  · exact (keep yb hyl (fun hk => (h.off yb (.inl hk)).2 rfl) h.lx.2.2.1).trans h.ybb
end
theorem WP.mono {base : Nat} {w : World} {g lg xb yb : Nat} {S T : Nat → Prop} {A : Option Addr} {c : Nat} {A' : Option Addr} {c' : Nat} {L : List S109} {O : List S123} {n m y m' y' : Nat} {nm : ByteArray} {R : List (List Int)} (h : WP base w g lg xb yb S T A c A' c' L O n m y nm R) (hm : m ≤ m') (hy : y ≤ y') : WP base w g lg xb yb S T A c A' c' L O n m' y' nm R :=
  ⟨⟨h.p.dst, h.p.xst, h.p.dis, h.p.sb, h.p.tb, h.p.blk, h.p.xbb, Nat.le_trans h.p.s1 hm, Nat.le_trans h.p.s2 hm, Nat.le_trans h.p.s3 hy⟩, h.lgb, h.ybb, h.off, h.lx, h.cont, h.recs, h.bf, h.bo⟩
theorem CQ.all_ {w : World} {A : Option Addr} {l : List S71} (h : CQ w A l) (j : Nat) (hj : j < l.length) :
    ∃ ad A3 c3, A = some ad ∧ l[j].f1.length ≤ c3 ∧ ∀ W, Below w.heap.size w W → (W.cell? (ad.add (j * 4)) = some (.int .i64 l[j].f0) ∧ W.cell? ⟨(ad.add (j * 4)).block, (ad.add (j * 4)).off + 1, none⟩ = some (.slice A3 l[j].f1.length c3) ∧ W.cell? ⟨(ad.add (j * 4)).block, (ad.add (j * 4)).off + 2, none⟩ = some (.int .i64 l[j].f2) ∧ W.cell? ⟨(ad.add (j * 4)).block, (ad.add (j * 4)).off + 3, none⟩ = some (.int .i64 l[j].f3)) ∧ CB W A3 l[j].f1 := by
  obtain ⟨ad, A3, c3, e, h0, h1, h2, h3, hd, hC⟩ := h.at_ j hj
  exact ⟨ad, A3, c3, e, hd, fun W hB => ⟨⟨cell_of_below hB h0, cell_of_below hB h1, cell_of_below hB h2, cell_of_below hB h3⟩, Kd.C_below hC hB⟩⟩
theorem wr_set2a (w : World) (b : Nat) (x y : Value) (o : Obj) : Wr w (((w.setCell ⟨b, 0, none⟩ x).setCell ⟨b, 1, none⟩ y).alloc o) (fun k => k = b) :=
  Wr.trans (wr_set2 w b x y) (Wr.of_below (fun _ => False) (below_alloc (Below.refl _ _) _)) (fun k hk => hk.elim)
theorem blk_put2a {w : World} {g t : Nat} {x y : Value} (h : w.heap[g]? = some (.cells #[x, y] t (0, 0))) (a b : Value) (o : Obj) : (((w.setCell ⟨g, 0, none⟩ a).setCell ⟨g, 1, none⟩ b).alloc o).heap[g]? = some (.cells #[a, b] t (0, 0)) :=
  (Below.heap_alloc _ _ _ (by simp only [World.setCell]; simpa using blk_lt h)).trans (blk_put2 h _ _)
theorem wr_set3 (w : World) (xb yb : Nat) (x y z : Value) : Wr w (((w.setCell ⟨xb, 0, none⟩ x).setCell ⟨xb, 1, none⟩ y).setCell ⟨yb, 0, none⟩ z) (fun k => k = xb ∨ k = yb) := by
  have h1 := wr_set2 w xb x y
  have h2 : Wr ((w.setCell ⟨xb, 0, none⟩ x).setCell ⟨xb, 1, none⟩ y) (((w.setCell ⟨xb, 0, none⟩ x).setCell ⟨xb, 1, none⟩ y).setCell ⟨yb, 0, none⟩ z) (fun k => k = yb) := ⟨rfl, rfl, rfl, by simp [World.setCell], fun k hk hn => Below.heap_setCell _ ⟨yb, 0, none⟩ _ k hn⟩
  exact Wr.trans ⟨h1.1, h1.2.1, h1.2.2.1, h1.2.2.2.1, fun k hk hn => h1.2.2.2.2 k hk (fun e => hn (.inl e))⟩ h2 (fun k e => .inl (.inr e))
set_option maxHeartbeats 4000000 in
set_option maxRecDepth 100000 in
theorem law_wacts (A : Option Addr) (c : Nat) (l : List S109) (nm : ByteArray) (A' : Option Addr) (c' : Nat) (ops : List S71) (w : World) (hF : ArgF w A c l) (hby : BytF l) (hm : nm.size ≤ maxLen) (hQ : CQ w A' ops) (hqb : ∀ o ∈ ops, Byt o.f1) (hql : ∀ o ∈ ops, o.f1.length ≤ 140737488351232) :
    Calls Try.prog 10 #[.slice A l.length c, .string nm, .slice A' ops.length c'] w (TruePost w) := by
  have HBig := Aside0.mk (fun (W : World) (hB : Below w.heap.size w W) => largeW_calls A c l A' c' ops W (hF.move hB).rd (Kd.C_below hQ hB) hF.data hql)
  have hqm := Kd.C_max hQ
  have HNa := Aside0.mk (fun (W : World) => name_calls nm W (by unfold maxLen at hm; omega))
  have HQ := Aside0.mk (fun (W : World) (hB : Below w.heap.size w W) => (Kd.C_below hQ hB : CQ W A' ops))
  have HQb := Aside0.mk hqb
  have hu53 := Try.underlying53
  have hu58 := Try.underlying58
  have hu71 := Try.underlying71
  have HFF := Aside0.mk hF
  have HBL := Aside0.mk hby
  clear hF hby hQ hqb hql
  go_enter Try.func10, Try.ntmps10
  go_wp2_with fail
  cases hlo : loadOk l with
  | false =>
    refine (dload_no HFF.out hlo).mono ?_
    rintro e w1 ⟨rfl, hB1⟩
    have HB1 := Aside0.mk hB1
    clear hB1
    go_wp2_with fail
    refine (xload_no (HFF.out.move HB1.out) hlo).mono ?_
    rintro e w2 ⟨⟨A2, n2, c2, A3, n3, c3, rfl⟩, hB2⟩
    have HB2 := Aside0.mk (below_then HB1.out HB1.out.size hB2)
    clear hB2 hlo
    go_wp2_with fail
    refine (works_wal _).mono ?_
    rintro e w3 ⟨rfl, hB3⟩
    have HB3 := Aside0.mk (below_then (below_alloc' HB2.out _ HB2.out.size) (by rw [alloc_size]; have := HB2.out.size; omega) hB3)
    clear hB3
    go_wp2_with fail
    go_ret
    exact ⟨rfl, HB3.out⟩
  | true =>
    have hlen := loadL_length l
    have hbts := load_bytes l
    have hbl := HBL.out.load
    have hld := dload_yes HFF.out hlo
    have hlx := fun (W : World) (hB : Below w.heap.size w W) => xload_yes (HFF.out.move hB) hlo
    obtain ⟨L0, hL0⟩ : ∃ L0, L0 = loadL l := ⟨_, rfl⟩
    rw [← hL0] at hlen hbts hbl hld
    simp only [← hL0] at hlx
    have HBl := Aside0.mk hbl
    have HLx := Aside0.mk hlx
    clear hL0 hbl hlx hlo
    refine hld.mono ?_
    rintro e w1 ⟨g, S, rfl, hD1, hS1, hB1⟩
    have HB1 := Aside0.mk hB1
    have HD1 := Aside0.mk hD1
    have HS1 := Aside0.mk hS1
    clear hB1 hD1 hS1 hld
    go_wp2_with fail
    refine (HLx.out _ HB1.out).mono ?_
    rintro e w2 ⟨u, v, rfl, hx, hB2⟩
    obtain ⟨A2, c2, A3, c3, rfl, rfl, hP⟩ := Pair.made (w3 := w2.alloc (.cells #[u, v] 53)) HD1.out HS1.out HB1.out.size hx hB2 rfl (below_alloc (Below.refl _ _) _) (blk_new _ _)
    have HB2 := Aside0.mk (below_then HB1.out HB1.out.size hB2)
    have HBx := Aside0.mk (below_alloc' HB2.out (.cells #[.slice A2 L0.length c2, .slice A3 0 c3] 53) HB2.out.size)
    replace hP : Pair w.heap.size (w2.alloc (.cells #[.slice A2 L0.length c2, .slice A3 0 c3] 53)) g w2.heap.size S (ext (fun _ => False) w1 w2) A2 c2 A3 c3 L0 [] l.length (max l.length L0.length) (byF L0) := hP
    obtain ⟨T, hTT⟩ : ∃ T, T = ext (fun _ => False) w1 w2 := ⟨_, rfl⟩
    rw [← hTT] at hP
    have HPr := Aside0.mk hP
    clear hx hB2 hP hTT HLx
    go_wp2_with fail
    obtain ⟨xb, hxb⟩ : ∃ xb, xb = w2.heap.size := ⟨_, rfl⟩
    obtain ⟨wx, hwx⟩ : ∃ wx, wx = w2.alloc (.cells #[.slice A2 L0.length c2, .slice A3 0 c3] 53) := ⟨_, rfl⟩
    rw [← hwx, ← hxb] at HPr
    rw [← hwx] at HBx ⊢
    rw [← hxb]
    clear hxb hwx HB1 HD1 HS1 HB2
    refine (HBig.out _ HBx.out).mono ?_
    rintro e w3 ⟨rfl, hB3⟩
    have HP3 := Aside0.mk (HPr.out.move hB3)
    have HB3 := Aside0.mk (below_then HBx.out HBx.out.size hB3)
    clear hB3 HPr HBx HBig
    cases hbig : bigW l ops with
    | true =>
      clear hbig
      go_wp2_with fail
      refine (works_wal w3).mono ?_
      rintro e w4 ⟨rfl, hB4⟩
      have HB4 := Aside0.mk (below_then HB3.out HB3.out.size hB4)
      clear hB4
      go_wp2_with fail
      go_ret
      exact ⟨rfl, HB4.out⟩
    | false =>
      have hbd := bigW_false hbig
      have HZl := Aside0.mk (show l.length ≤ 20 ∧ ops.length ≤ 40 ∧ L0.length ≤ 20 ∧ byF L0 + byQ ops ≤ 2000 by omega)
      clear hbig hbd hlen hbts
      go_wp2_with fail
      refine (HNa.out w3).mono ?_
      cases hno : nameOk nm with
      | false =>
        rintro e w4 ⟨rfl, hd4⟩
        have HB4 := Aside0.mk (below_then HB3.out HB3.out.size (Drawn0.to_below hd4))
        clear hd4 hno
        go_wp2_with fail
        refine (works_wal w4).mono ?_
        rintro e w5 ⟨rfl, hB5⟩
        have HB5 := Aside0.mk (below_then HB4.out HB4.out.size hB5)
        clear hB5
        go_wp2_with fail
        go_ret
        exact ⟨rfl, HB5.out⟩
      | true =>
        rintro e w4 ⟨rfl, hd4⟩
        have hB4 := Drawn0.to_below hd4
        have HP4 := Aside0.mk (HP3.out.move hB4)
        have HB4 := Aside0.mk (below_then HB3.out HB3.out.size hB4)
        clear hd4 hB4 HP3 HB3 HNa
        have HBc := Aside0.mk (HBl.out.cont BytO.nil nm)
        have hst := start_facts (n := l.length) HBl.out hno (show l.length ≤ 1000 by have := HZl.out; omega) (show L0.length ≤ 1000 by have := HZl.out; omega) (show byF L0 ≤ 100000 by have := HZl.out; omega)
        obtain ⟨R, hR⟩ : ∃ R, R = recsL L0 [] nm := ⟨_, rfl⟩
        obtain ⟨L1, hL1⟩ : ∃ L1, L1 = (openL L0 [] l.length nm).1 := ⟨_, rfl⟩
        obtain ⟨n1, hn1⟩ : ∃ n1, n1 = (openL L0 [] l.length nm).2.2 := ⟨_, rfl⟩
        rw [← hR, ← hL1, ← hn1] at hst
        have HOp := Aside0.mk (hst.opn w4 S g HP4.out.dst hm)
        have HXo := Aside0.mk (fun (W : World) (hX : XSt W T (.slice A2 L0.length c2) (.slice A3 ([] : List S123).length c3) L0 []) => hst.xopn W T A2 c2 A3 c3 hX hm)
        have HSt := Aside0.mk hst.toOpened
        clear hst hR hL1 hn1 HBc
        go_wp2_with fail
        refine HOp.out.mono ?_
        rintro e w5 ⟨S5, lg, A5, c5, rfl, hD5, hC5, ⟨hL5, hlg, hnS⟩, hc5, hF5⟩
        have hxb5 := (hC5.wr.2.2.2.2 _ (blk_lt HP4.out.blk) (fun h => (HP4.out.sb _ h).2 rfl)).trans HP4.out.blk
        have hz0 : w5.cell? ⟨xb, 0, none⟩ = some (.slice A2 L0.length c2) := (blk_cell hxb5 0).trans rfl
        have hz1 : w5.cell? ⟨xb, 1, none⟩ = some (.slice A3 ([] : List S123).length c3) := (blk_cell hxb5 1).trans rfl
        have hf0 := blk_frozen hxb5 0
        have hf1 := blk_frozen hxb5 1
        have hxl5 := blk_lt hxb5
        have HX5 := Aside0.mk (HP4.out.xst.off hC5.wr (fun k hk hs => HP4.out.dis k hs hk))
        have hZ := hD5
        have HD5 := Aside0.mk hD5
        have HL5 := Aside0.mk hL5
        have HC5 := Aside0.mk hC5
        have HlS := Aside0.mk (And.intro hlg hnS)
        have HB5 := Aside0.mk (wr_below HB4.out HB4.out.size (fun k hk => (HP4.out.sb k hk).1) hC5.wr)
        have HXB5 := Aside0.mk hxb5
        clear hZ hD5 hC5 hL5 hlg hnS hF5 hxb5 HOp HB4
        go_wp2_with fail
        refine (HXo.out w5 HX5.out).mono ?_
        rintro e w6 ⟨T6, u6, v6, A6, c6, rfl, hx6, hT6, hB6, hc6, hC6⟩
        obtain ⟨A7, c7, A8, c8, rfl, rfl⟩ := hx6.slices
        have hxb6 := (hB6.block _ (blk_lt HXB5.out)).trans HXB5.out
        have hy0 : w6.cell? ⟨xb, 0, none⟩ = some (.slice A2 L0.length c2) := (blk_cell hxb6 0).trans rfl
        have hy1 : w6.cell? ⟨xb, 1, none⟩ = some (.slice A3 ([] : List S123).length c3) := (blk_cell hxb6 1).trans rfl
        have hyf0 := blk_frozen hxb6 0
        have hyf1 := blk_frozen hxb6 1
        have hxl6 := blk_lt hxb6
        have HX6 := Aside0.mk hx6
        have HT6 := Aside0.mk hT6
        have HB6 := Aside0.mk hB6
        clear hx6 hT6 hB6 hC6 hxb6 hz0 hz1 hf0 hf1 hxl5 HXo
        have hopl := HZl.out.2.1
        have hst := HSt.out
        have hw6s := HB6.out.size
        have hx5l := blk_lt HXB5.out
        have hP4l := blk_lt HP4.out.blk
        have h7w : Wr w6 (((w6.setCell ⟨xb, 0, none⟩ (.slice A7 L1.length c7)).setCell ⟨xb, 1, none⟩ (.slice A8 ([] : List S123).length c8)).alloc (.cells #[.string nm] 58)) (fun k => k = xb ∨ k = w6.heap.size) :=
          Wr.trans (let h := wr_set2 w6 xb (.slice A7 L1.length c7) (.slice A8 ([] : List S123).length c8); ⟨h.1, h.2.1, h.2.2.1, h.2.2.2.1, fun k hk hn => h.2.2.2.2 k hk (fun e => hn (.inl e))⟩) (Wr.of_below (fun _ => False) (below_alloc (Below.refl _ _) _)) (fun k hk => hk.elim)
        have h7s : ((w6.setCell ⟨xb, 0, none⟩ (.slice A7 L1.length c7)).setCell ⟨xb, 1, none⟩ (.slice A8 ([] : List S123).length c8)).heap.size = w6.heap.size := by simp [World.setCell]
        have h7x : (((w6.setCell ⟨xb, 0, none⟩ (.slice A7 L1.length c7)).setCell ⟨xb, 1, none⟩ (.slice A8 ([] : List S123).length c8)).alloc (.cells #[.string nm] 58)).heap[xb]? = some (.cells #[.slice A7 L1.length c7, .slice A8 ([] : List S123).length c8] 53 (0, 0)) :=
          (Below.heap_alloc _ _ _ (by rw [h7s]; exact hxl6)).trans (blk_put2 ((HB6.out.block _ hx5l).trans HXB5.out) _ _)
        have h7y : (((w6.setCell ⟨xb, 0, none⟩ (.slice A7 L1.length c7)).setCell ⟨xb, 1, none⟩ (.slice A8 ([] : List S123).length c8)).alloc (.cells #[.string nm] 58)).heap[w6.heap.size]? = some (.cells #[.string nm] 58 (0, 0)) := by
          have := blk_new ((w6.setCell ⟨xb, 0, none⟩ (.slice A7 L1.length c7)).setCell ⟨xb, 1, none⟩ (.slice A8 ([] : List S123).length c8)) (.cells #[.string nm] 58)
          rw [h7s] at this
          exact this
        have hm1 : l.length + 3 ≤ 40 := by have := HZl.out; omega
        have hm2 : L0.length + 3 ≤ 40 := by have := HZl.out; omega
        have h5l := blk_lt HL5.out
        have hbs4 : w.heap.size ≤ w4.heap.size := by have := HP4.out.xbb; omega
        have h45 := HC5.out.wr.size
        have hwp := wp_opened (m := 40) (y := byF L0) hbs4 HP4.out.sb HP4.out.tb HP4.out.dis HP4.out.xst.lt hP4l HP4.out.xbb HD5.out HC5.out HL5.out HlS.out HX6.out HT6.out HB6.out h7w h7x h7y
          (fun k hk e => by have := HD5.out.lt k hk; omega) (fun k hk e => by have := HX6.out.lt k hk; omega) (by omega) (by omega) (by omega) hst hm1 hm2 (Nat.le_refl _)
        have HB7 := Aside0.mk (wr_below (below_then HB5.out HB5.out.size HB6.out) (Nat.le_trans HB5.out.size hw6s) (fun k hk => hk.elim (fun e => by rw [e]; exact HP4.out.xbb) (fun e => by rw [e]; omega)) h7w)
        obtain ⟨yb, hyb⟩ : ∃ yb, yb = w6.heap.size := ⟨_, rfl⟩
        rw [← hyb] at hwp
        have HWP := Aside0.mk hwp
        clear hst hw6s hx5l h7w h7s h7x h7y hm1 hm2 h5l hbs4 h45 hwp hP4l hc5 hc6
        go_wp2_with fail
        rw [← hyb]
        clear hyb hy0 hy1 hyf0 hyf1 hxl6 HX5 HD5 HL5 HC5 HlS HB5 HXB5 HX6 HT6 HB6 HSt HP4
        go_loopw [10, 80] (fun t i wq => ∃ (k lg : Nat), k ≤ ops.length ∧ t = .pointer (some ⟨lg, 0, none⟩) ∧ i = .int .i64 k ∧ Aside0 (Below w.heap.size w wq) ∧ Aside0 (∃ S T A c A' c' L O n R, WP w.heap.size wq g lg xb yb S T A c A' c' L O n (40 + 4 * k) (byF L0 + byQ (ops.take k) + 8 * k) nm R)) (fun _ i _ => ops.length - (intOf i).toNat)
        case atStart => exact ⟨0, lg, by omega, rfl, rfl, HB7, ⟨S5, T6, A7, c7, A8, c8, L1, [], n1, R, HWP.out⟩⟩
        case round =>
          obtain ⟨k, lg, hk, rfl, rfl, HW, HPe⟩ := hrel
          obtain ⟨S, T, A2, c2, A3, c3, L, O, n, R, hpr⟩ := HPe.out
          clear HPe HWP HB7
          by_cases hlt : k < ops.length
          · obtain ⟨ad, B, d, rfl, hd, hall⟩ := CQ.all_ (HQ.out _ (Below.refl _ _)) k hlt
            obtain ⟨⟨hc0, hc1, hc2, hc3⟩, hCB⟩ := hall _ HW.out
            have hyb1 := HQb.out ops[k] (List.getElem_mem hlt)
            have hbq := byQ_take_succ hlt
            have hbq2 := byQ_takeN ops (k + 1)
            have hlz := HZl.out
            have hk40 : k < 40 := by omega
            obtain ⟨o, ho⟩ : ∃ o, o = ops[k] := ⟨_, rfl⟩
            rw [← ho] at hc0 hc1 hc2 hc3 hd hCB hyb1 hbq hall
            have HAll := Aside0.mk (fun (W : World) (hB : Below w.heap.size w W) => (hall W hB).2)
            clear hall
            have hm4 : 40 + 4 * k + 1 ≤ 40 + 4 * (k + 1) ∧ 40 + 4 * k + 3 ≤ 40 + 4 * (k + 1) := by omega
            have hm0 : 40 + 4 * k ≤ 1000 := by omega
            have hy4 : byF L0 + byQ (ops.take k) + 8 * k ≤ 100000 := by omega
            have hol : o.f1.length ≤ 1048576 := by omega
            have HY := Aside0.mk (show byF L0 + byQ (ops.take k) + 8 * k + (o.f1.length + 8) = byF L0 + byQ (ops.take (k + 1)) + 8 * (k + 1) by omega)
            have HY2 := Aside0.mk (show byF L0 + byQ (ops.take k) + 8 * k ≤ byF L0 + byQ (ops.take (k + 1)) + 8 * (k + 1) by omega)
            have HM5 := Aside0.mk (show 40 + 4 * (k + 1) ≤ 1000 by omega)
            have HY5 := Aside0.mk (show byF L0 + byQ (ops.take (k + 1)) + 8 * (k + 1) ≤ 100000 by omega)
            have HM0 := Aside0.mk hm0
            have HY4 := Aside0.mk hy4
            generalize hmm : 40 + 4 * k = mm at hpr hm0 hm4 HM0
            generalize hyy : byF L0 + byQ (ops.take k) + 8 * k = yy at hpr hy4 HY HY2 HY4
            have hm4' := hm4.1
            have HM4 := Aside0.mk hm4
            have HMm := Aside0.mk hmm
            clear ho hbq hbq2 hlz hmm hyy
            have hsz := hpr.p.sz (Nat.le_trans hm0 (by decide)) (Nat.le_trans hy4 (by decide))
            have hsm := hpr.small
            have HPa := Aside0.mk (hpr.move (below_alloc (Below.refl _ _) (.cells #[.int .i64 o.f0, .slice B o.f1.length d, .int .i64 o.f2, .int .i64 o.f3] 71)))
            have HWa := Aside0.mk (below_alloc' HW.out (.cells #[.int .i64 o.f0, .slice B o.f1.length d, .int .i64 o.f2, .int .i64 o.f3] 71) HW.out.size)
            have HBa := Aside0.mk (blk_new wr (.cells #[.int .i64 o.f0, .slice B o.f1.length d, .int .i64 o.f2, .int .i64 o.f3] 71))
            have HCa := Aside0.mk (Kd.C_alloc hCB (.cells #[.int .i64 o.f0, .slice B o.f1.length d, .int .i64 o.f2, .int .i64 o.f3] 71))
            have HSz := Aside0.mk hsz
            have HSm := Aside0.mk hsm
            have HHol := Aside0.mk hol
            have HYb := Aside0.mk hyb1
            obtain ⟨hz0, hz1, hz2⟩ := hpr.cells
            have hxl := blk_lt hpr.p.blk
            have hyl := blk_lt hpr.ybb
            have hyx := hpr.lx.2.2.1
            have HSl := Aside0.mk hpr.p.dst.lt
            have HTl := Aside0.mk hpr.p.xst.lt
            clear hpr hsz hsm hol hyb1 hCB
            cases hb0 : (o.f0 == 0) with
            | true =>
              have hXa := xappend_calls _ T A2 c2 A3 c3 n L O nm HPa.out.p.xst HSz.out B d o.f1 HCa.out hd HYb.out HHol.out hm
              rw [show (appendL O nm (frameL o.f1)).2 = 0 by rw [app_ok hno]] at hXa
              have HXa := Aside0.mk hXa
              clear hXa
              go_wp2_with fail
              refine HXa.out.mono ?_
              rintro e w2 ⟨T2, u2, v2, rfl, hx2, hT2, hB2⟩
              obtain ⟨A4, c4, A5, c5, rfl, rfl⟩ := hx2.slices
              have hxa := HPa.out.move hB2
              obtain ⟨hy0, hy1, hy2⟩ := hxa.cells
              have hyf0 := blk_frozen hxa.p.blk 0
              have hyf1 := blk_frozen hxa.p.blk 1
              have hxl2 := blk_lt hxa.p.blk
              have hyl2 := blk_lt hxa.ybb
              have hbl := (hB2.block _ (by rw [alloc_size]; omega)).trans HBa.out
              have hv1 : w2.cell? ⟨wr.heap.size, 1, none⟩ = some (.slice B o.f1.length d) := (blk_cell hbl 1).trans rfl
              have hbl2 := blk_lt hbl
              have hne : ¬ (wr.heap.size = xb) := by omega
              have hne' : ¬ (xb = wr.heap.size) := by omega
              have HX2 := Aside0.mk hx2
              have HT2 := Aside0.mk hT2
              have HB2 := Aside0.mk hB2
              have hWf := wr_set2a w2 xb (.slice A4 L.length c4) (.slice A5 (appendL O nm (frameL o.f1)).1.length c5) (.cells #[.slice A4 L.length c4, .slice A5 (appendL O nm (frameL o.f1)).1.length c5] 53)
              have hXf := blk_put2a hxa.p.blk (.slice A4 L.length c4) (.slice A5 (appendL O nm (frameL o.f1)).1.length c5) (.cells #[.slice A4 L.length c4, .slice A5 (appendL O nm (frameL o.f1)).1.length c5] 53)
              have hpre := HPa.out.app_pre (T2 := T2) (u := .int .i64 0) (v := .int .i64 0) (O' := []) hB2 hWf
              have HWf := Aside0.mk (wr_below (below_then HWa.out HWa.out.size hB2) (Nat.le_trans HWa.out.size hB2.size) (fun k hk => by rw [hk]; exact hxa.p.xbb) hWf)
              have HAp := Aside0.mk (wappend_calls _ S lg R.length (framesL R).length g n nm L O B d o.f1 hpre.1 HSz.out hpre.2.1 hpre.2.2.1 (HAll.out _ HWf.out) hd HYb.out HHol.out hm (by have := HSm.out; have := HY4.out; omega) (by have := HSm.out; have := HY4.out; omega))
              have HWr := Aside0.mk hWf
              have HXf := Aside0.mk hXf
              clear hx2 hT2 hB2 hxa hbl HXa hWf hXf hpre
              go_wp2_with fail
              refine HAp.out.mono ?_
              rintro e wz ⟨S5, rfl, hD5, hl5, hs5, hW5, hn5⟩
              have HPz := Aside0.mk ((HPa.out.app_post hno HHol.out HYb.out HWa.out.size HX2.out HT2.out HB2.out HWr.out HXf.out hD5 hl5 hs5 hW5 hn5).mono hm4' (Nat.le_of_eq HY.out))
              have HWz := Aside0.mk (wr_below HWf.out HWf.out.size (fun k hk => hk.elim (fun h => (HPa.out.p.sb k h).1) (fun h => by rw [h]; exact HPa.out.lx.2.2.2.1)) hW5)
              clear hD5 hl5 hs5 hW5 hn5 hy0 hy1 hy2 hyf0 hyf1 hxl2 hyl2 hv1 hbl2 hne hne' HX2 HT2 HB2 HWr HXf HWf HAp hb0 hc0 hc1 hc2 hc3 hz0 hz1 hz2
              go_wp2_with fail
              have HHe := Aside0.mk (fun (W : World) (hB : Below wz.heap.size wz W) => (HPz.out.move hB).cells)
              obtain ⟨Lz, hLz⟩ : ∃ Lz, Lz = L := ⟨_, rfl⟩
              obtain ⟨Oz, hOz⟩ : ∃ Oz, Oz = (appendL O nm (frameL o.f1)).1 := ⟨_, rfl⟩
              obtain ⟨Rz, hRz⟩ : ∃ Rz, Rz = (R ++ [o.f1]) := ⟨_, rfl⟩
              obtain ⟨nz, hnz⟩ : ∃ nz, nz = n := ⟨_, rfl⟩
              rw [← hLz, ← hOz] at HHe
              rw [← hLz, ← hOz, ← hRz, ← hnz] at HPz
              clear hLz hOz hRz hnz
              have HSy := Aside0.mk (show Sz Lz Oz nz from HPz.out.p.sz (by have := HM5.out; omega) (by have := HY5.out; omega))
              refine start_ (n := 26) (S := fun W => W.cell? ⟨xb, 0, none⟩ = some (.slice A4 Lz.length c4) ∧ W.cell? ⟨xb, 1, none⟩ = some (.slice A5 Oz.length c5) ∧ W.cell? ⟨yb, 0, none⟩ = some (.string nm)) (ds := []) #[false, false, false, false, false, false, false, false, false, false, false, false, false, false, false, false, false, false, false, false, false, false, false, false, false, false] (by kernel_rfl) rfl rfl ?_ (fun hHeld => ?_)
              · exact HHe.out _ (below_drew (Below.refl _ _))
              refine pure_ (i := 0) (N := some 150) (v := ?_) (a' := ?_) #[true, false, false, false, false, false, false, false, false, false, false, false, false, false, false, false, false, false, false, false, false, false, false, false, false, false] rfl rfl (by kernel_rfl) (fun _ _ _ h => h) (Or.inl ⟨by rfl, ?_⟩) ?_ ?_
              rotate_left
              · intro w'
                go_simp
                with_reducible rfl
              rotate_left
              · simp only [Act.put, List.setIfInBounds_toArray, List.set_cons_zero, List.set_cons_succ, i64_w, i32_w]
                rfl
              refine take_ (i := 1) (N := some 151) (v := ?_) (a' := ?_) #[true, true, false, false, false, false, false, false, false, false, false, false, false, false, false, false, false, false, false, false, false, false, false, false, false, false] rfl rfl (by kernel_rfl) (fun _ _ _ h => h) (Or.inl ⟨by rfl, ?_⟩) hHeld ?_ ?_
              rotate_left
              · rintro w' ⟨s0, s1, s2⟩
                go_simp
                with_reducible rfl
              rotate_left
              · simp only [Act.put, List.setIfInBounds_toArray, List.set_cons_zero, List.set_cons_succ, i64_w, i32_w]
                rfl
              have HB1 := Aside0.mk (below_drew (Below.refl wz.heap.size wz))
              refine one_ (i := 2) (N := some 152) #[true, true, true, false, false, false, false, false, false, false, false, false, false, false, false, false, false, false, false, false, false, false, false, false, false, false] rfl rfl (by kernel_rfl) (by decide) (fun K hK => ?_)
              refine goes_ Try.func43 (by kernel_rfl) rfl #[.pointer (some ⟨g, 0, none⟩), dkV A4 Lz.length c4 A5 Oz.length c5] (by rfl) rfl rfl (by (try simp only [List.map_toArray, List.map_cons, List.map_nil]); first | done | rfl) ?_
              refine (same36_calls wz.drew S5 T2 g nz Lz Oz A4 c4 A5 c5 (HPz.out.move HB1.out).p.dst (HPz.out.move HB1.out).p.xst HSy.out).mono ?_
              rintro e w11 ⟨rfl, hB11⟩
              have HB11 := Aside0.mk (below_then HB1.out HB1.out.size hB11)
              refine ⟨_, rfl, hK.out _ _ (HHe.out _ HB11.out) (fun hHeld => ?_)⟩
              clear hK K hB11
              refine norm_ (a' := ?_) ?_ ?_
              rotate_left
              · show Act.put _ (some 152) _ = _
                simp only [Act.put, List.setIfInBounds_toArray, List.set_cons_zero, List.set_cons_succ, i64_w, i32_w]
                rfl
              refine pure_ (i := 3) (N := some 153) (v := ?_) (a' := ?_) #[true, true, true, true, false, false, false, false, false, false, false, false, false, false, false, false, false, false, false, false, false, false, false, false, false, false] rfl rfl (by kernel_rfl) (fun _ _ _ h => h) (Or.inl ⟨by rfl, ?_⟩) ?_ ?_
              rotate_left
              · intro w'
                go_simp
                with_reducible rfl
              rotate_left
              · simp only [Act.put, List.setIfInBounds_toArray, List.set_cons_zero, List.set_cons_succ, i64_w, i32_w]
                rfl
              refine pure_ (i := 4) (N := some 154) (v := ?_) (a' := ?_) #[true, true, true, true, true, false, false, false, false, false, false, false, false, false, false, false, false, false, false, false, false, false, false, false, false, false] rfl rfl (by kernel_rfl) (fun _ _ _ h => h) (Or.inl ⟨by rfl, ?_⟩) ?_ ?_
              rotate_left
              · intro w'
                go_simp
                with_reducible rfl
              rotate_left
              · simp only [Act.put, List.setIfInBounds_toArray, List.set_cons_zero, List.set_cons_succ, i64_w, i32_w]
                rfl
              refine pure_ (i := 5) (N := some 155) (v := ?_) (a' := ?_) #[true, true, true, true, true, true, false, false, false, false, false, false, false, false, false, false, false, false, false, false, false, false, false, false, false, false] rfl rfl (by kernel_rfl) (fun _ _ _ h => h) (Or.inl ⟨by rfl, ?_⟩) ?_ ?_
              rotate_left
              · intro w'
                go_simp
                with_reducible rfl
              rotate_left
              · simp only [Act.put, List.setIfInBounds_toArray, List.set_cons_zero, List.set_cons_succ, i64_w, i32_w]
                rfl
              refine take_ (i := 7) (N := some 157) (v := ?_) (a' := ?_) #[true, true, true, true, true, true, false, true, false, false, false, false, false, false, false, false, false, false, false, false, false, false, false, false, false, false] rfl rfl (by kernel_rfl) (fun _ _ _ h => h) (Or.inl ⟨by rfl, ?_⟩) hHeld ?_ ?_
              rotate_left
              · rintro w' ⟨s0, s1, s2⟩
                go_simp
                with_reducible rfl
              rotate_left
              · simp only [Act.put, List.setIfInBounds_toArray, List.set_cons_zero, List.set_cons_succ, i64_w, i32_w]
                rfl
              refine take_ (i := 8) (N := some 158) (v := ?_) (a' := ?_) #[true, true, true, true, true, true, false, true, true, false, false, false, false, false, false, false, false, false, false, false, false, false, false, false, false, false] rfl rfl (by kernel_rfl) (fun _ _ _ h => h) (Or.inl ⟨by rfl, ?_⟩) hHeld ?_ ?_
              rotate_left
              · rintro w' ⟨s0, s1, s2⟩
                go_simp
                with_reducible rfl
              rotate_left
              · simp only [Act.put, List.setIfInBounds_toArray, List.set_cons_zero, List.set_cons_succ, i64_w, i32_w]
                rfl
              refine one_ (i := 6) (N := some 156) #[true, true, true, true, true, true, true, true, true, false, false, false, false, false, false, false, false, false, false, false, false, false, false, false, false, false] rfl rfl (by kernel_rfl) (by decide) (fun K hK => ?_)
              refine goes_ Try.func34 (by kernel_rfl) rfl #[.pointer (some ⟨lg, 0, none⟩)] (by rfl) rfl rfl (by (try simp only [List.map_toArray, List.map_cons, List.map_nil]); first | done | rfl) ?_
              refine (llen_calls w11 lg Rz.length (framesL Rz).length g nm (HPz.out.move HB11.out).lgb).mono ?_
              rintro e w12 ⟨rfl, rfl⟩
              refine ⟨_, rfl, hK.out _ _ (HHe.out _ HB11.out) (fun hHeld => ?_)⟩
              clear hK K
              refine norm_ (a' := ?_) ?_ ?_
              rotate_left
              · show Act.put _ (some 156) _ = _
                simp only [Act.put, List.setIfInBounds_toArray, List.set_cons_zero, List.set_cons_succ, i64_w, i32_w]
                rfl
              refine one_ (i := 9) (N := some 159) #[true, true, true, true, true, true, true, true, true, true, false, false, false, false, false, false, false, false, false, false, false, false, false, false, false, false] rfl rfl (by kernel_rfl) (by decide) (fun K hK => ?_)
              refine goes_ Try.func51 (by kernel_rfl) rfl #[dkV A4 Lz.length c4 A5 Oz.length c5, .agg #[.string nm]] (by rfl) rfl rfl (by (try simp only [List.map_toArray, List.map_cons, List.map_nil]); first | done | rfl) ?_
              refine (xlen_calls w12 T2 A4 c4 A5 c5 nz Lz Oz nm (HPz.out.move HB11.out).p.xst HSy.out HPz.out.byt).mono ?_
              rw [HPz.out.recs]
              rintro e w13 ⟨rfl, hB12⟩
              have HB12 := Aside0.mk (below_then HB11.out HB11.out.size hB12)
              refine ⟨_, rfl, hK.out _ _ (HHe.out _ HB12.out) (fun hHeld => ?_)⟩
              clear hK K hB12
              refine norm_ (a' := ?_) ?_ ?_
              rotate_left
              · show Act.put _ (some 159) _ = _
                simp only [Act.put, List.setIfInBounds_toArray, List.set_cons_zero, List.set_cons_succ, i64_w, i32_w]
                rfl
              refine pure_ (i := 10) (N := some 160) (v := ?_) (a' := ?_) #[true, true, true, true, true, true, true, true, true, true, true, false, false, false, false, false, false, false, false, false, false, false, false, false, false, false] rfl rfl (by kernel_rfl) (fun _ _ _ h => h) (Or.inl ⟨by rfl, ?_⟩) ?_ ?_
              rotate_left
              · intro w'
                go_simp
                with_reducible rfl
              rotate_left
              · simp only [Act.put, List.setIfInBounds_toArray, List.set_cons_zero, List.set_cons_succ, i64_w, i32_w]
                rfl
              refine pure_ (i := 11) (N := some 161) (v := ?_) (a' := ?_) #[true, true, true, true, true, true, true, true, true, true, true, true, false, false, false, false, false, false, false, false, false, false, false, false, false, false] rfl rfl (by kernel_rfl) (fun _ _ _ h => h) (Or.inl ⟨by rfl, ?_⟩) ?_ ?_
              rotate_left
              · intro w'
                go_simp
                with_reducible rfl
              rotate_left
              · simp only [Act.put, List.setIfInBounds_toArray, List.set_cons_zero, List.set_cons_succ, i64_w, i32_w]
                rfl
              refine pure_ (i := 12) (N := some 162) (v := ?_) (a' := ?_) #[true, true, true, true, true, true, true, true, true, true, true, true, true, false, false, false, false, false, false, false, false, false, false, false, false, false] rfl rfl (by kernel_rfl) (fun _ _ _ h => h) (Or.inl ⟨by rfl, ?_⟩) ?_ ?_
              rotate_left
              · intro w'
                go_simp
                with_reducible rfl
              rotate_left
              · simp only [Act.put, List.setIfInBounds_toArray, List.set_cons_zero, List.set_cons_succ, i64_w, i32_w]
                rfl
              refine pure_ (i := 13) (N := some 163) (v := ?_) (a' := ?_) #[true, true, true, true, true, true, true, true, true, true, true, true, true, true, false, false, false, false, false, false, false, false, false, false, false, false] rfl rfl (by kernel_rfl) (fun _ _ _ h => h) (Or.inl ⟨by rfl, ?_⟩) ?_ ?_
              rotate_left
              · intro w'
                go_simp
                with_reducible rfl
              rotate_left
              · simp only [Act.put, List.setIfInBounds_toArray, List.set_cons_zero, List.set_cons_succ, i64_w, i32_w]
                rfl
              refine take_ (i := 15) (N := some 165) (v := ?_) (a' := ?_) #[true, true, true, true, true, true, true, true, true, true, true, true, true, true, false, true, false, false, false, false, false, false, false, false, false, false] rfl rfl (by kernel_rfl) (fun _ _ _ h => h) (Or.inl ⟨by rfl, ?_⟩) hHeld ?_ ?_
              rotate_left
              · rintro w' ⟨s0, s1, s2⟩
                go_simp
                with_reducible rfl
              rotate_left
              · simp only [Act.put, List.setIfInBounds_toArray, List.set_cons_zero, List.set_cons_succ, i64_w, i32_w]
                rfl
              refine take_ (i := 16) (N := some 166) (v := ?_) (a' := ?_) #[true, true, true, true, true, true, true, true, true, true, true, true, true, true, false, true, true, false, false, false, false, false, false, false, false, false] rfl rfl (by kernel_rfl) (fun _ _ _ h => h) (Or.inl ⟨by rfl, ?_⟩) hHeld ?_ ?_
              rotate_left
              · rintro w' ⟨s0, s1, s2⟩
                go_simp
                with_reducible rfl
              rotate_left
              · simp only [Act.put, List.setIfInBounds_toArray, List.set_cons_zero, List.set_cons_succ, i64_w, i32_w]
                rfl
              refine one_ (i := 14) (N := some 164) #[true, true, true, true, true, true, true, true, true, true, true, true, true, true, true, true, true, false, false, false, false, false, false, false, false, false] rfl rfl (by kernel_rfl) (by decide) (fun K hK => ?_)
              refine goes_ Try.func35 (by kernel_rfl) rfl #[.pointer (some ⟨lg, 0, none⟩)] (by rfl) rfl rfl (by (try simp only [List.map_toArray, List.map_cons, List.map_nil]); first | done | rfl) ?_
              refine (lsize_calls w13 lg Rz.length (framesL Rz).length g nm (HPz.out.move HB12.out).lgb).mono ?_
              rintro e w14 ⟨rfl, rfl⟩
              refine ⟨_, rfl, hK.out _ _ (HHe.out _ HB12.out) (fun hHeld => ?_)⟩
              clear hK K
              refine norm_ (a' := ?_) ?_ ?_
              rotate_left
              · show Act.put _ (some 164) _ = _
                simp only [Act.put, List.setIfInBounds_toArray, List.set_cons_zero, List.set_cons_succ, i64_w, i32_w]
                rfl
              refine one_ (i := 17) (N := some 167) #[true, true, true, true, true, true, true, true, true, true, true, true, true, true, true, true, true, true, false, false, false, false, false, false, false, false] rfl rfl (by kernel_rfl) (by decide) (fun K hK => ?_)
              refine goes_ Try.func52 (by kernel_rfl) rfl #[dkV A4 Lz.length c4 A5 Oz.length c5, .agg #[.string nm]] (by rfl) rfl rfl (by (try simp only [List.map_toArray, List.map_cons, List.map_nil]); first | done | rfl) ?_
              refine (xsize_calls w14 T2 A4 c4 A5 c5 nz Lz Oz nm (HPz.out.move HB12.out).p.xst HSy.out).mono ?_
              rw [HPz.out.cont]
              rintro e w15 ⟨rfl, hB13⟩
              have HB13 := Aside0.mk (below_then HB12.out HB12.out.size hB13)
              refine ⟨_, rfl, hK.out _ _ (HHe.out _ HB13.out) (fun hHeld => ?_)⟩
              clear hK K hB13
              refine norm_ (a' := ?_) ?_ ?_
              rotate_left
              · show Act.put _ (some 167) _ = _
                simp only [Act.put, List.setIfInBounds_toArray, List.set_cons_zero, List.set_cons_succ, i64_w, i32_w]
                rfl
              refine pure_ (i := 18) (N := some 168) (v := ?_) (a' := ?_) #[true, true, true, true, true, true, true, true, true, true, true, true, true, true, true, true, true, true, true, false, false, false, false, false, false, false] rfl rfl (by kernel_rfl) (fun _ _ _ h => h) (Or.inl ⟨by rfl, ?_⟩) ?_ ?_
              rotate_left
              · intro w'
                go_simp
                with_reducible rfl
              rotate_left
              · simp only [Act.put, List.setIfInBounds_toArray, List.set_cons_zero, List.set_cons_succ, i64_w, i32_w]
                rfl
              refine pure_ (i := 19) (N := some 169) (v := ?_) (a' := ?_) #[true, true, true, true, true, true, true, true, true, true, true, true, true, true, true, true, true, true, true, true, false, false, false, false, false, false] rfl rfl (by kernel_rfl) (fun _ _ _ h => h) (Or.inl ⟨by rfl, ?_⟩) ?_ ?_
              rotate_left
              · intro w'
                go_simp
                with_reducible rfl
              rotate_left
              · simp only [Act.put, List.setIfInBounds_toArray, List.set_cons_zero, List.set_cons_succ, i64_w, i32_w]
                rfl
              refine pure_ (i := 20) (N := some 170) (v := ?_) (a' := ?_) #[true, true, true, true, true, true, true, true, true, true, true, true, true, true, true, true, true, true, true, true, true, false, false, false, false, false] rfl rfl (by kernel_rfl) (fun _ _ _ h => h) (Or.inl ⟨by rfl, ?_⟩) ?_ ?_
              rotate_left
              · intro w'
                go_simp
                with_reducible rfl
              rotate_left
              · simp only [Act.put, List.setIfInBounds_toArray, List.set_cons_zero, List.set_cons_succ, i64_w, i32_w]
                rfl
              refine pure_ (i := 21) (N := some 171) (v := ?_) (a' := ?_) #[true, true, true, true, true, true, true, true, true, true, true, true, true, true, true, true, true, true, true, true, true, true, false, false, false, false] rfl rfl (by kernel_rfl) (fun _ _ _ h => h) (Or.inl ⟨by rfl, ?_⟩) ?_ ?_
              rotate_left
              · intro w'
                go_simp
                with_reducible rfl
              rotate_left
              · simp only [Act.put, List.setIfInBounds_toArray, List.set_cons_zero, List.set_cons_succ, i64_w, i32_w]
                rfl
              refine pure_ (i := 23) (N := some 173) (v := ?_) (a' := ?_) #[true, true, true, true, true, true, true, true, true, true, true, true, true, true, true, true, true, true, true, true, true, true, false, true, false, false] rfl rfl (by kernel_rfl) (fun _ _ _ h => h) (Or.inl ⟨by rfl, ?_⟩) ?_ ?_
              rotate_left
              · intro w'
                go_simp
                with_reducible rfl
              rotate_left
              · simp only [Act.put, List.setIfInBounds_toArray, List.set_cons_zero, List.set_cons_succ, i64_w, i32_w]
                rfl
              refine one_ (i := 22) (N := some 172) #[true, true, true, true, true, true, true, true, true, true, true, true, true, true, true, true, true, true, true, true, true, true, true, true, false, false] rfl rfl (by kernel_rfl) (by decide) (fun K hK => ?_)
              refine goes_ Try.func36 (by kernel_rfl) rfl #[.pointer (some ⟨lg, 0, none⟩)] (by rfl) rfl rfl (by (try simp only [List.map_toArray, List.map_cons, List.map_nil]); first | done | rfl) ?_
              refine (lname_calls w15 lg Rz.length (framesL Rz).length g nm (HPz.out.move HB13.out).lgb).mono ?_
              rintro e w16 ⟨rfl, rfl⟩
              refine ⟨_, rfl, hK.out _ _ (HHe.out _ HB13.out) (fun hHeld => ?_)⟩
              clear hK K
              refine norm_ (a' := ?_) ?_ ?_
              rotate_left
              · show Act.put _ (some 172) _ = _
                simp only [Act.put, List.setIfInBounds_toArray, List.set_cons_zero, List.set_cons_succ, i64_w, i32_w]
                rfl
              refine pure_ (i := 24) (N := some 174) (v := ?_) (a' := ?_) #[true, true, true, true, true, true, true, true, true, true, true, true, true, true, true, true, true, true, true, true, true, true, true, true, true, false] rfl rfl (by kernel_rfl) (fun _ _ _ h => h) (Or.inl ⟨by rfl, ?_⟩) ?_ ?_
              rotate_left
              · intro w'
                go_simp
                with_reducible rfl
              rotate_left
              · simp only [Act.put, List.setIfInBounds_toArray, List.set_cons_zero, List.set_cons_succ, i64_w, i32_w]
                rfl
              refine pure_ (i := 25) (N := some 175) (v := ?_) (a' := ?_) #[true, true, true, true, true, true, true, true, true, true, true, true, true, true, true, true, true, true, true, true, true, true, true, true, true, true] rfl rfl (by kernel_rfl) (fun _ _ _ h => h) (Or.inl ⟨by rfl, ?_⟩) ?_ ?_
              rotate_left
              · intro w'
                go_simp
                with_reducible rfl
              rotate_left
              · simp only [Act.put, List.setIfInBounds_toArray, List.set_cons_zero, List.set_cons_succ, i64_w, i32_w]
                rfl
              refine done_ (by kernel_rfl) ?_
              go_wp2
              go_roundw
              case rel => exact ⟨k + 1, lg, by omega, rfl, by go_num, ⟨below_then HWz.out HWz.out.size HB13.out⟩, ⟨S5, T2, A4, c4, A5, c5, Lz, Oz, nz, Rz, HPz.out.move HB13.out⟩⟩
              case measure => simp [intOf]; omega
            | false =>
              cases hb1 : (o.f0 == 1) with
              | true =>
                have HSc := Aside0.mk (lsync_calls _ lg R.length (framesL R).length g nm HPa.out.lgb S n L O HPa.out.p.dst HSz.out)
                go_wp2_with fail
                refine HSc.out.mono ?_
                rintro e w2 ⟨rfl, hD2, hW2⟩
                have hx2 := HPa.out.p.xst.off hW2 (fun k hk hs => HPa.out.p.dis k hs hk)
                have hxb2 := (hW2.2.2.2.2 _ (blk_lt HPa.out.p.blk) (fun h => (HPa.out.p.sb _ h).2 rfl)).trans HPa.out.p.blk
                have hy0 : w2.cell? ⟨xb, 0, none⟩ = some (.slice A2 L.length c2) := (blk_cell hxb2 0).trans rfl
                have hy1 : w2.cell? ⟨xb, 1, none⟩ = some (.slice A3 O.length c3) := (blk_cell hxb2 1).trans rfl
                have HXs := Aside0.mk (xSync w2 T A2 c2 A3 c3 n L O hx2 HSz.out)
                have HD2 := Aside0.mk hD2
                have HW2 := Aside0.mk hW2
                have HXb2 := Aside0.mk hxb2
                clear hD2 hW2 hx2 hxb2 HSc
                go_wp2_with fail
                refine HXs.out.mono ?_
                rintro e w3 ⟨u3, v3, rfl, hx3, hB3⟩
                obtain ⟨A4, c4, A5, c5, rfl, rfl⟩ := hx3.slices
                have hxb3 := (hB3.block _ (blk_lt HXb2.out)).trans HXb2.out
                have hyf0 := blk_frozen hxb3 0
                have hyf1 := blk_frozen hxb3 1
                have hxl3 := blk_lt hxb3
                have hz0' : w3.cell? ⟨xb, 0, none⟩ = some (.slice A2 L.length c2) := (blk_cell hxb3 0).trans rfl
                have hz1' : w3.cell? ⟨xb, 1, none⟩ = some (.slice A3 O.length c3) := (blk_cell hxb3 1).trans rfl
                have hWf := wr_set2 w3 xb (.slice A4 (viewL L O).length c4) (.slice A5 ([] : List S123).length c5)
                have hXf := blk_put2 hxb3 (.slice A4 (viewL L O).length c4) (.slice A5 ([] : List S123).length c5)
                have HPz := Aside0.mk ((HPa.out.synced HWa.out.size HD2.out HW2.out hx3 hB3 hWf hXf).mono (Nat.le_trans (Nat.le_add_right _ _) HM4.out.1) HY2.out)
                have HWz := Aside0.mk (wr_below (below_then (wr_below HWa.out HWa.out.size (fun k hk => (HPa.out.p.sb k hk).1) HW2.out) (Nat.le_trans HWa.out.size HW2.out.size) hB3) (Nat.le_trans (Nat.le_trans HWa.out.size HW2.out.size) hB3.size) (fun k hk => by rw [hk]; exact HPa.out.p.xbb) hWf)
                clear hx3 hB3 hxb3 hWf hXf HXs HD2 HW2 HXb2 hc0 hc1 hc2 hc3 hz0 hz1 hz2
                go_wp2_with fail
                obtain ⟨wz, hwz⟩ : ∃ wz, wz = (w3.setCell ⟨xb, 0, none⟩ (.slice A4 (viewL L O).length c4)).setCell ⟨xb, 1, none⟩ (.slice A5 ([] : List S123).length c5) := ⟨_, rfl⟩
                rw [← hwz] at HPz HWz
                replace hwz : wz = (w3.setCell ⟨xb, 0, none⟩ (.slice A4 (viewL L O).length c4)).setCell ⟨xb, 1, none⟩ (.slice A5 0 c5) := hwz
                rw [← hwz]
                clear hwz hy0 hy1 hyf0 hyf1 hxl3 hz0' hz1' hb0 hb1
                have HHe := Aside0.mk (fun (W : World) (hB : Below wz.heap.size wz W) => (HPz.out.move hB).cells)
                obtain ⟨Lz, hLz⟩ : ∃ Lz, Lz = (viewL L O) := ⟨_, rfl⟩
                obtain ⟨Oz, hOz⟩ : ∃ Oz, Oz = [] := ⟨_, rfl⟩
                obtain ⟨Rz, hRz⟩ : ∃ Rz, Rz = R := ⟨_, rfl⟩
                obtain ⟨nz, hnz⟩ : ∃ nz, nz = (n + O.length) := ⟨_, rfl⟩
                rw [← hLz, ← hOz] at HHe
                rw [← hLz, ← hOz, ← hRz, ← hnz] at HPz
                clear hLz hOz hRz hnz
                have HSy := Aside0.mk (show Sz Lz Oz nz from HPz.out.p.sz (by have := HM5.out; omega) (by have := HY5.out; omega))
                refine start_ (n := 26) (S := fun W => W.cell? ⟨xb, 0, none⟩ = some (.slice A4 Lz.length c4) ∧ W.cell? ⟨xb, 1, none⟩ = some (.slice A5 Oz.length c5) ∧ W.cell? ⟨yb, 0, none⟩ = some (.string nm)) (ds := []) #[false, false, false, false, false, false, false, false, false, false, false, false, false, false, false, false, false, false, false, false, false, false, false, false, false, false] (by kernel_rfl) rfl rfl ?_ (fun hHeld => ?_)
                · exact HHe.out _ (below_drew (Below.refl _ _))
                refine pure_ (i := 0) (N := some 150) (v := ?_) (a' := ?_) #[true, false, false, false, false, false, false, false, false, false, false, false, false, false, false, false, false, false, false, false, false, false, false, false, false, false] rfl rfl (by kernel_rfl) (fun _ _ _ h => h) (Or.inl ⟨by rfl, ?_⟩) ?_ ?_
                rotate_left
                · intro w'
                  go_simp
                  with_reducible rfl
                rotate_left
                · simp only [Act.put, List.setIfInBounds_toArray, List.set_cons_zero, List.set_cons_succ, i64_w, i32_w]
                  rfl
                refine take_ (i := 1) (N := some 151) (v := ?_) (a' := ?_) #[true, true, false, false, false, false, false, false, false, false, false, false, false, false, false, false, false, false, false, false, false, false, false, false, false, false] rfl rfl (by kernel_rfl) (fun _ _ _ h => h) (Or.inl ⟨by rfl, ?_⟩) hHeld ?_ ?_
                rotate_left
                · rintro w' ⟨s0, s1, s2⟩
                  go_simp
                  with_reducible rfl
                rotate_left
                · simp only [Act.put, List.setIfInBounds_toArray, List.set_cons_zero, List.set_cons_succ, i64_w, i32_w]
                  rfl
                have HB1 := Aside0.mk (below_drew (Below.refl wz.heap.size wz))
                refine one_ (i := 2) (N := some 152) #[true, true, true, false, false, false, false, false, false, false, false, false, false, false, false, false, false, false, false, false, false, false, false, false, false, false] rfl rfl (by kernel_rfl) (by decide) (fun K hK => ?_)
                refine goes_ Try.func43 (by kernel_rfl) rfl #[.pointer (some ⟨g, 0, none⟩), dkV A4 Lz.length c4 A5 Oz.length c5] (by rfl) rfl rfl (by (try simp only [List.map_toArray, List.map_cons, List.map_nil]); first | done | rfl) ?_
                refine (same36_calls wz.drew (ext S _ _) (ext T _ _) g nz Lz Oz A4 c4 A5 c5 (HPz.out.move HB1.out).p.dst (HPz.out.move HB1.out).p.xst HSy.out).mono ?_
                rintro e w11 ⟨rfl, hB11⟩
                have HB11 := Aside0.mk (below_then HB1.out HB1.out.size hB11)
                refine ⟨_, rfl, hK.out _ _ (HHe.out _ HB11.out) (fun hHeld => ?_)⟩
                clear hK K hB11
                refine norm_ (a' := ?_) ?_ ?_
                rotate_left
                · show Act.put _ (some 152) _ = _
                  simp only [Act.put, List.setIfInBounds_toArray, List.set_cons_zero, List.set_cons_succ, i64_w, i32_w]
                  rfl
                refine pure_ (i := 3) (N := some 153) (v := ?_) (a' := ?_) #[true, true, true, true, false, false, false, false, false, false, false, false, false, false, false, false, false, false, false, false, false, false, false, false, false, false] rfl rfl (by kernel_rfl) (fun _ _ _ h => h) (Or.inl ⟨by rfl, ?_⟩) ?_ ?_
                rotate_left
                · intro w'
                  go_simp
                  with_reducible rfl
                rotate_left
                · simp only [Act.put, List.setIfInBounds_toArray, List.set_cons_zero, List.set_cons_succ, i64_w, i32_w]
                  rfl
                refine pure_ (i := 4) (N := some 154) (v := ?_) (a' := ?_) #[true, true, true, true, true, false, false, false, false, false, false, false, false, false, false, false, false, false, false, false, false, false, false, false, false, false] rfl rfl (by kernel_rfl) (fun _ _ _ h => h) (Or.inl ⟨by rfl, ?_⟩) ?_ ?_
                rotate_left
                · intro w'
                  go_simp
                  with_reducible rfl
                rotate_left
                · simp only [Act.put, List.setIfInBounds_toArray, List.set_cons_zero, List.set_cons_succ, i64_w, i32_w]
                  rfl
                refine pure_ (i := 5) (N := some 155) (v := ?_) (a' := ?_) #[true, true, true, true, true, true, false, false, false, false, false, false, false, false, false, false, false, false, false, false, false, false, false, false, false, false] rfl rfl (by kernel_rfl) (fun _ _ _ h => h) (Or.inl ⟨by rfl, ?_⟩) ?_ ?_
                rotate_left
                · intro w'
                  go_simp
                  with_reducible rfl
                rotate_left
                · simp only [Act.put, List.setIfInBounds_toArray, List.set_cons_zero, List.set_cons_succ, i64_w, i32_w]
                  rfl
                refine take_ (i := 7) (N := some 157) (v := ?_) (a' := ?_) #[true, true, true, true, true, true, false, true, false, false, false, false, false, false, false, false, false, false, false, false, false, false, false, false, false, false] rfl rfl (by kernel_rfl) (fun _ _ _ h => h) (Or.inl ⟨by rfl, ?_⟩) hHeld ?_ ?_
                rotate_left
                · rintro w' ⟨s0, s1, s2⟩
                  go_simp
                  with_reducible rfl
                rotate_left
                · simp only [Act.put, List.setIfInBounds_toArray, List.set_cons_zero, List.set_cons_succ, i64_w, i32_w]
                  rfl
                refine take_ (i := 8) (N := some 158) (v := ?_) (a' := ?_) #[true, true, true, true, true, true, false, true, true, false, false, false, false, false, false, false, false, false, false, false, false, false, false, false, false, false] rfl rfl (by kernel_rfl) (fun _ _ _ h => h) (Or.inl ⟨by rfl, ?_⟩) hHeld ?_ ?_
                rotate_left
                · rintro w' ⟨s0, s1, s2⟩
                  go_simp
                  with_reducible rfl
                rotate_left
                · simp only [Act.put, List.setIfInBounds_toArray, List.set_cons_zero, List.set_cons_succ, i64_w, i32_w]
                  rfl
                refine one_ (i := 6) (N := some 156) #[true, true, true, true, true, true, true, true, true, false, false, false, false, false, false, false, false, false, false, false, false, false, false, false, false, false] rfl rfl (by kernel_rfl) (by decide) (fun K hK => ?_)
                refine goes_ Try.func34 (by kernel_rfl) rfl #[.pointer (some ⟨lg, 0, none⟩)] (by rfl) rfl rfl (by (try simp only [List.map_toArray, List.map_cons, List.map_nil]); first | done | rfl) ?_
                refine (llen_calls w11 lg Rz.length (framesL Rz).length g nm (HPz.out.move HB11.out).lgb).mono ?_
                rintro e w12 ⟨rfl, rfl⟩
                refine ⟨_, rfl, hK.out _ _ (HHe.out _ HB11.out) (fun hHeld => ?_)⟩
                clear hK K
                refine norm_ (a' := ?_) ?_ ?_
                rotate_left
                · show Act.put _ (some 156) _ = _
                  simp only [Act.put, List.setIfInBounds_toArray, List.set_cons_zero, List.set_cons_succ, i64_w, i32_w]
                  rfl
                refine one_ (i := 9) (N := some 159) #[true, true, true, true, true, true, true, true, true, true, false, false, false, false, false, false, false, false, false, false, false, false, false, false, false, false] rfl rfl (by kernel_rfl) (by decide) (fun K hK => ?_)
                refine goes_ Try.func51 (by kernel_rfl) rfl #[dkV A4 Lz.length c4 A5 Oz.length c5, .agg #[.string nm]] (by rfl) rfl rfl (by (try simp only [List.map_toArray, List.map_cons, List.map_nil]); first | done | rfl) ?_
                refine (xlen_calls w12 (ext T _ _) A4 c4 A5 c5 nz Lz Oz nm (HPz.out.move HB11.out).p.xst HSy.out HPz.out.byt).mono ?_
                rw [HPz.out.recs]
                rintro e w13 ⟨rfl, hB12⟩
                have HB12 := Aside0.mk (below_then HB11.out HB11.out.size hB12)
                refine ⟨_, rfl, hK.out _ _ (HHe.out _ HB12.out) (fun hHeld => ?_)⟩
                clear hK K hB12
                refine norm_ (a' := ?_) ?_ ?_
                rotate_left
                · show Act.put _ (some 159) _ = _
                  simp only [Act.put, List.setIfInBounds_toArray, List.set_cons_zero, List.set_cons_succ, i64_w, i32_w]
                  rfl
                refine pure_ (i := 10) (N := some 160) (v := ?_) (a' := ?_) #[true, true, true, true, true, true, true, true, true, true, true, false, false, false, false, false, false, false, false, false, false, false, false, false, false, false] rfl rfl (by kernel_rfl) (fun _ _ _ h => h) (Or.inl ⟨by rfl, ?_⟩) ?_ ?_
                rotate_left
                · intro w'
                  go_simp
                  with_reducible rfl
                rotate_left
                · simp only [Act.put, List.setIfInBounds_toArray, List.set_cons_zero, List.set_cons_succ, i64_w, i32_w]
                  rfl
                refine pure_ (i := 11) (N := some 161) (v := ?_) (a' := ?_) #[true, true, true, true, true, true, true, true, true, true, true, true, false, false, false, false, false, false, false, false, false, false, false, false, false, false] rfl rfl (by kernel_rfl) (fun _ _ _ h => h) (Or.inl ⟨by rfl, ?_⟩) ?_ ?_
                rotate_left
                · intro w'
                  go_simp
                  with_reducible rfl
                rotate_left
                · simp only [Act.put, List.setIfInBounds_toArray, List.set_cons_zero, List.set_cons_succ, i64_w, i32_w]
                  rfl
                refine pure_ (i := 12) (N := some 162) (v := ?_) (a' := ?_) #[true, true, true, true, true, true, true, true, true, true, true, true, true, false, false, false, false, false, false, false, false, false, false, false, false, false] rfl rfl (by kernel_rfl) (fun _ _ _ h => h) (Or.inl ⟨by rfl, ?_⟩) ?_ ?_
                rotate_left
                · intro w'
                  go_simp
                  with_reducible rfl
                rotate_left
                · simp only [Act.put, List.setIfInBounds_toArray, List.set_cons_zero, List.set_cons_succ, i64_w, i32_w]
                  rfl
                refine pure_ (i := 13) (N := some 163) (v := ?_) (a' := ?_) #[true, true, true, true, true, true, true, true, true, true, true, true, true, true, false, false, false, false, false, false, false, false, false, false, false, false] rfl rfl (by kernel_rfl) (fun _ _ _ h => h) (Or.inl ⟨by rfl, ?_⟩) ?_ ?_
                rotate_left
                · intro w'
                  go_simp
                  with_reducible rfl
                rotate_left
                · simp only [Act.put, List.setIfInBounds_toArray, List.set_cons_zero, List.set_cons_succ, i64_w, i32_w]
                  rfl
                refine take_ (i := 15) (N := some 165) (v := ?_) (a' := ?_) #[true, true, true, true, true, true, true, true, true, true, true, true, true, true, false, true, false, false, false, false, false, false, false, false, false, false] rfl rfl (by kernel_rfl) (fun _ _ _ h => h) (Or.inl ⟨by rfl, ?_⟩) hHeld ?_ ?_
                rotate_left
                · rintro w' ⟨s0, s1, s2⟩
                  go_simp
                  with_reducible rfl
                rotate_left
                · simp only [Act.put, List.setIfInBounds_toArray, List.set_cons_zero, List.set_cons_succ, i64_w, i32_w]
                  rfl
                refine take_ (i := 16) (N := some 166) (v := ?_) (a' := ?_) #[true, true, true, true, true, true, true, true, true, true, true, true, true, true, false, true, true, false, false, false, false, false, false, false, false, false] rfl rfl (by kernel_rfl) (fun _ _ _ h => h) (Or.inl ⟨by rfl, ?_⟩) hHeld ?_ ?_
                rotate_left
                · rintro w' ⟨s0, s1, s2⟩
                  go_simp
                  with_reducible rfl
                rotate_left
                · simp only [Act.put, List.setIfInBounds_toArray, List.set_cons_zero, List.set_cons_succ, i64_w, i32_w]
                  rfl
                refine one_ (i := 14) (N := some 164) #[true, true, true, true, true, true, true, true, true, true, true, true, true, true, true, true, true, false, false, false, false, false, false, false, false, false] rfl rfl (by kernel_rfl) (by decide) (fun K hK => ?_)
                refine goes_ Try.func35 (by kernel_rfl) rfl #[.pointer (some ⟨lg, 0, none⟩)] (by rfl) rfl rfl (by (try simp only [List.map_toArray, List.map_cons, List.map_nil]); first | done | rfl) ?_
                refine (lsize_calls w13 lg Rz.length (framesL Rz).length g nm (HPz.out.move HB12.out).lgb).mono ?_
                rintro e w14 ⟨rfl, rfl⟩
                refine ⟨_, rfl, hK.out _ _ (HHe.out _ HB12.out) (fun hHeld => ?_)⟩
                clear hK K
                refine norm_ (a' := ?_) ?_ ?_
                rotate_left
                · show Act.put _ (some 164) _ = _
                  simp only [Act.put, List.setIfInBounds_toArray, List.set_cons_zero, List.set_cons_succ, i64_w, i32_w]
                  rfl
                refine one_ (i := 17) (N := some 167) #[true, true, true, true, true, true, true, true, true, true, true, true, true, true, true, true, true, true, false, false, false, false, false, false, false, false] rfl rfl (by kernel_rfl) (by decide) (fun K hK => ?_)
                refine goes_ Try.func52 (by kernel_rfl) rfl #[dkV A4 Lz.length c4 A5 Oz.length c5, .agg #[.string nm]] (by rfl) rfl rfl (by (try simp only [List.map_toArray, List.map_cons, List.map_nil]); first | done | rfl) ?_
                refine (xsize_calls w14 (ext T _ _) A4 c4 A5 c5 nz Lz Oz nm (HPz.out.move HB12.out).p.xst HSy.out).mono ?_
                rw [HPz.out.cont]
                rintro e w15 ⟨rfl, hB13⟩
                have HB13 := Aside0.mk (below_then HB12.out HB12.out.size hB13)
                refine ⟨_, rfl, hK.out _ _ (HHe.out _ HB13.out) (fun hHeld => ?_)⟩
                clear hK K hB13
                refine norm_ (a' := ?_) ?_ ?_
                rotate_left
                · show Act.put _ (some 167) _ = _
                  simp only [Act.put, List.setIfInBounds_toArray, List.set_cons_zero, List.set_cons_succ, i64_w, i32_w]
                  rfl
                refine pure_ (i := 18) (N := some 168) (v := ?_) (a' := ?_) #[true, true, true, true, true, true, true, true, true, true, true, true, true, true, true, true, true, true, true, false, false, false, false, false, false, false] rfl rfl (by kernel_rfl) (fun _ _ _ h => h) (Or.inl ⟨by rfl, ?_⟩) ?_ ?_
                rotate_left
                · intro w'
                  go_simp
                  with_reducible rfl
                rotate_left
                · simp only [Act.put, List.setIfInBounds_toArray, List.set_cons_zero, List.set_cons_succ, i64_w, i32_w]
                  rfl
                refine pure_ (i := 19) (N := some 169) (v := ?_) (a' := ?_) #[true, true, true, true, true, true, true, true, true, true, true, true, true, true, true, true, true, true, true, true, false, false, false, false, false, false] rfl rfl (by kernel_rfl) (fun _ _ _ h => h) (Or.inl ⟨by rfl, ?_⟩) ?_ ?_
                rotate_left
                · intro w'
                  go_simp
                  with_reducible rfl
                rotate_left
                · simp only [Act.put, List.setIfInBounds_toArray, List.set_cons_zero, List.set_cons_succ, i64_w, i32_w]
                  rfl
                refine pure_ (i := 20) (N := some 170) (v := ?_) (a' := ?_) #[true, true, true, true, true, true, true, true, true, true, true, true, true, true, true, true, true, true, true, true, true, false, false, false, false, false] rfl rfl (by kernel_rfl) (fun _ _ _ h => h) (Or.inl ⟨by rfl, ?_⟩) ?_ ?_
                rotate_left
                · intro w'
                  go_simp
                  with_reducible rfl
                rotate_left
                · simp only [Act.put, List.setIfInBounds_toArray, List.set_cons_zero, List.set_cons_succ, i64_w, i32_w]
                  rfl
                refine pure_ (i := 21) (N := some 171) (v := ?_) (a' := ?_) #[true, true, true, true, true, true, true, true, true, true, true, true, true, true, true, true, true, true, true, true, true, true, false, false, false, false] rfl rfl (by kernel_rfl) (fun _ _ _ h => h) (Or.inl ⟨by rfl, ?_⟩) ?_ ?_
                rotate_left
                · intro w'
                  go_simp
                  with_reducible rfl
                rotate_left
                · simp only [Act.put, List.setIfInBounds_toArray, List.set_cons_zero, List.set_cons_succ, i64_w, i32_w]
                  rfl
                refine pure_ (i := 23) (N := some 173) (v := ?_) (a' := ?_) #[true, true, true, true, true, true, true, true, true, true, true, true, true, true, true, true, true, true, true, true, true, true, false, true, false, false] rfl rfl (by kernel_rfl) (fun _ _ _ h => h) (Or.inl ⟨by rfl, ?_⟩) ?_ ?_
                rotate_left
                · intro w'
                  go_simp
                  with_reducible rfl
                rotate_left
                · simp only [Act.put, List.setIfInBounds_toArray, List.set_cons_zero, List.set_cons_succ, i64_w, i32_w]
                  rfl
                refine one_ (i := 22) (N := some 172) #[true, true, true, true, true, true, true, true, true, true, true, true, true, true, true, true, true, true, true, true, true, true, true, true, false, false] rfl rfl (by kernel_rfl) (by decide) (fun K hK => ?_)
                refine goes_ Try.func36 (by kernel_rfl) rfl #[.pointer (some ⟨lg, 0, none⟩)] (by rfl) rfl rfl (by (try simp only [List.map_toArray, List.map_cons, List.map_nil]); first | done | rfl) ?_
                refine (lname_calls w15 lg Rz.length (framesL Rz).length g nm (HPz.out.move HB13.out).lgb).mono ?_
                rintro e w16 ⟨rfl, rfl⟩
                refine ⟨_, rfl, hK.out _ _ (HHe.out _ HB13.out) (fun hHeld => ?_)⟩
                clear hK K
                refine norm_ (a' := ?_) ?_ ?_
                rotate_left
                · show Act.put _ (some 172) _ = _
                  simp only [Act.put, List.setIfInBounds_toArray, List.set_cons_zero, List.set_cons_succ, i64_w, i32_w]
                  rfl
                refine pure_ (i := 24) (N := some 174) (v := ?_) (a' := ?_) #[true, true, true, true, true, true, true, true, true, true, true, true, true, true, true, true, true, true, true, true, true, true, true, true, true, false] rfl rfl (by kernel_rfl) (fun _ _ _ h => h) (Or.inl ⟨by rfl, ?_⟩) ?_ ?_
                rotate_left
                · intro w'
                  go_simp
                  with_reducible rfl
                rotate_left
                · simp only [Act.put, List.setIfInBounds_toArray, List.set_cons_zero, List.set_cons_succ, i64_w, i32_w]
                  rfl
                refine pure_ (i := 25) (N := some 175) (v := ?_) (a' := ?_) #[true, true, true, true, true, true, true, true, true, true, true, true, true, true, true, true, true, true, true, true, true, true, true, true, true, true] rfl rfl (by kernel_rfl) (fun _ _ _ h => h) (Or.inl ⟨by rfl, ?_⟩) ?_ ?_
                rotate_left
                · intro w'
                  go_simp
                  with_reducible rfl
                rotate_left
                · simp only [Act.put, List.setIfInBounds_toArray, List.set_cons_zero, List.set_cons_succ, i64_w, i32_w]
                  rfl
                refine done_ (by kernel_rfl) ?_
                go_wp2
                go_roundw
                case rel => exact ⟨k + 1, lg, by omega, rfl, by go_num, ⟨below_then HWz.out HWz.out.size HB13.out⟩, ⟨(ext S _ _), (ext T _ _), A4, c4, A5, c5, Lz, Oz, nz, Rz, HPz.out.move HB13.out⟩⟩
                case measure => simp [intOf]; omega
              | false =>
                have hbf := HPa.out.bf.crash HPa.out.bo o.f2 o.f3
                have hcl := crash_length L O o.f2 o.f3
                have hcb := crash_bytes L O o.f2 o.f3
                have hs1 := HPa.out.p.s1
                have hs2 := HPa.out.p.s2
                have hs3 := HPa.out.p.s3
                have hm0' := HM0.out
                have hy4' := HY4.out
                have hst := start_facts (n := n + O.length) hbf hno (Nat.le_trans hs1 hm0') (Nat.le_trans hcl (Nat.le_trans hs2 hm0')) (Nat.le_trans hcb (Nat.le_trans hs3 hy4'))
                have HN1 := Aside0.mk (show n + O.length + 3 ≤ 40 + 4 * (k + 1) from Nat.le_trans (Nat.add_le_add_right hs1 3) HM4.out.2)
                have HN2 := Aside0.mk (show (crashL L O o.f2 o.f3).length + 3 ≤ 40 + 4 * (k + 1) from Nat.le_trans (Nat.add_le_add_right (Nat.le_trans hcl hs2) 3) HM4.out.2)
                have HN3 := Aside0.mk (show byF (crashL L O o.f2 o.f3) ≤ byF L0 + byQ (ops.take (k + 1)) + 8 * (k + 1) from Nat.le_trans (Nat.le_trans hcb hs3) HY2.out)
                have HCr := Aside0.mk (sCrash _ S g n L O o.f2 o.f3 HPa.out.p.dst HSz.out)
                have HXc := Aside0.mk (fun (W : World) (hX : XSt W T (.slice A2 L.length c2) (.slice A3 O.length c3) L O) => xCrash W T A2 c2 A3 c3 n L O hX HSz.out o.f2 o.f3)
                obtain ⟨L1, hL1⟩ : ∃ L1, L1 = crashL L O o.f2 o.f3 := ⟨_, rfl⟩
                rw [← hL1] at hst HCr HN2 HN3
                simp only [← hL1] at HXc
                obtain ⟨R1, hR1⟩ : ∃ R1, R1 = recsL L1 [] nm := ⟨_, rfl⟩
                obtain ⟨L2, hL2⟩ : ∃ L2, L2 = (openL L1 [] (n + O.length) nm).1 := ⟨_, rfl⟩
                obtain ⟨n2, hn2⟩ : ∃ n2, n2 = (openL L1 [] (n + O.length) nm).2.2 := ⟨_, rfl⟩
                rw [← hR1, ← hL2, ← hn2] at hst
                have HSt := Aside0.mk hst
                clear hbf hcl hcb hs1 hs2 hs3 hm0' hy4' hst hL1 hR1 hL2 hn2
                go_wp2_with fail
                refine HCr.out.mono ?_
                rintro e w2 ⟨rfl, hD2, hW2⟩
                have HOp := Aside0.mk (HSt.out.opn w2 _ g hD2 hm)
                have HD2 := Aside0.mk hD2
                have HW2 := Aside0.mk hW2
                clear hD2 hW2 HCr
                go_wp2_with fail
                refine HOp.out.mono ?_
                rintro e w3 ⟨S3, lg3, A6, c6, rfl, hD3, hC3, ⟨hL3, hlg3, hnS3⟩, hc6, hF3⟩
                have hTl := HTl.out
                have hSl := HSl.out
                have hxne : ¬ ext S (wr.alloc (.cells #[.int .i64 o.f0, .slice B o.f1.length d, .int .i64 o.f2, .int .i64 o.f3] 71)) w2 xb := fun hk => hk.1.elim (fun h => (HPa.out.p.sb _ h).2 rfl) (fun h => by rw [alloc_size] at h; omega)
                have hbne : ¬ ext S (wr.alloc (.cells #[.int .i64 o.f0, .slice B o.f1.length d, .int .i64 o.f2, .int .i64 o.f3] 71)) w2 wr.heap.size := fun hk => hk.1.elim (fun h => by have := hSl _ h; omega) (fun h => by rw [alloc_size] at h; omega)
                have hyne : ¬ ext S (wr.alloc (.cells #[.int .i64 o.f0, .slice B o.f1.length d, .int .i64 o.f2, .int .i64 o.f3] 71)) w2 yb := fun hk => hk.1.elim (fun h => (HPa.out.off _ (.inl h)).2 rfl) (fun h => by rw [alloc_size] at h; omega)
                have hwa2 := HW2.out.size
                have hxb2 := (HW2.out.2.2.2.2 _ (blk_lt HPa.out.p.blk) (fun h => (HPa.out.p.sb _ h).2 rfl)).trans HPa.out.p.blk
                have hbx2 := (HW2.out.2.2.2.2 _ (blk_lt HBa.out) (fun h => by have := hSl _ h; omega)).trans HBa.out
                have hyb2 := (HW2.out.2.2.2.2 _ (blk_lt HPa.out.ybb) (fun h => (HPa.out.off _ (.inl h)).2 rfl)).trans HPa.out.ybb
                have hxb3 := (hC3.wr.2.2.2.2 _ (blk_lt hxb2) hxne).trans hxb2
                have hbx3 := (hC3.wr.2.2.2.2 _ (blk_lt hbx2) hbne).trans hbx2
                have hyb3 := (hC3.wr.2.2.2.2 _ (blk_lt hyb2) hyne).trans hyb2
                have hx3 := (HPa.out.p.xst.off HW2.out (fun k hk hs => HPa.out.p.dis k hs hk)).off hC3.wr (fun k hk hs => hs.1.elim (fun h => HPa.out.p.dis k h hk) (fun h => by have := hTl k hk; rw [alloc_size] at h; omega))
                have hy0 : w3.cell? ⟨xb, 0, none⟩ = some (.slice A2 L.length c2) := (blk_cell hxb3 0).trans rfl
                have hy1 : w3.cell? ⟨xb, 1, none⟩ = some (.slice A3 O.length c3) := (blk_cell hxb3 1).trans rfl
                have hv2 : w3.cell? ⟨wr.heap.size, 2, none⟩ = some (.int .i64 o.f2) := (blk_cell hbx3 2).trans rfl
                have hv3 : w3.cell? ⟨wr.heap.size, 3, none⟩ = some (.int .i64 o.f3) := (blk_cell hbx3 3).trans rfl
                have HXc3 := Aside0.mk (HXc.out w3 hx3)
                have HD3 := Aside0.mk hD3
                have HC3 := Aside0.mk hC3
                have HL3 := Aside0.mk hL3
                have HlS := Aside0.mk (And.intro hlg3 hnS3)
                have HXb3 := Aside0.mk hxb3
                have HXb2 := Aside0.mk hxb2
                have HYb3 := Aside0.mk hyb3
                have HF3 := Aside0.mk (Kd.F_bound hF3)
                have HX3 := Aside0.mk hx3
                clear hD3 hC3 hL3 hlg3 hnS3 hF3 hTl hSl hxne hbne hyne hwa2 hxb2 hbx2 hyb2 hxb3 hbx3 hyb3 hx3 HOp HXc
                go_wp2_with fail
                refine HXc3.out.mono ?_
                rintro e w4 ⟨u4, v4, rfl, hx4, hB4⟩
                obtain ⟨A4, c4, A5, c5, rfl, rfl⟩ := hx4.slices
                have HXo := Aside0.mk (HSt.out.xopn w4 _ A4 c4 A5 c5 hx4 hm)
                have HX4 := Aside0.mk hx4
                have HB4 := Aside0.mk hB4
                clear hx4 hB4 HXc3
                go_wp2_with fail
                refine HXo.out.mono ?_
                rintro e w5 ⟨T5, u5, v5, A8, c8, rfl, hx5, hT5, hB5, hc8, hC8⟩
                obtain ⟨A9, c9, A10, c10, rfl, rfl⟩ := hx5.slices
                have HX5 := Aside0.mk hx5
                have HT5 := Aside0.mk hT5
                have HB5 := Aside0.mk hB5
                have HC8 := Aside0.mk (Kd.F_bound hC8)
                clear hx5 hT5 hB5 hC8 HXo
                go_wp2_with fail
                obtain ⟨wb, hwb⟩ : ∃ wb, wb = (w5.alloc (.cells #[.slice A9 L2.length c9, .slice A10 0 c10] 53)).alloc (.cells #[.string nm] 58) := ⟨_, rfl⟩
                rw [← hwb]
                have hB6 : Below w5.heap.size w5 wb := by rw [hwb]; exact below_alloc (below_alloc (Below.refl _ _) _) _
                have hq0 : wb.heap[w5.heap.size]? = some (.cells #[.slice A9 L2.length c9, .slice A10 0 c10] 53 (0, 0)) := by
                  rw [hwb]
                  exact (Below.heap_alloc _ _ _ (by rw [alloc_size]; omega)).trans (blk_new _ _)
                have hq1 : wb.heap[w5.heap.size + 1]? = some (.cells #[.string nm] 58 (0, 0)) := by
                  have := blk_new (w5.alloc (.cells #[.slice A9 L2.length c9, .slice A10 0 c10] 53)) (.cells #[.string nm] 58)
                  rw [alloc_size] at this
                  rw [hwb]
                  exact this
                have h34 := HB4.out.size
                have h45 := HB5.out.size
                have hx3l := blk_lt HXb3.out
                have hy3l := blk_lt HYb3.out
                have hB35 : Below w3.heap.size w3 w5 := below_then HB4.out h34 HB5.out
                have hB36 : Below w3.heap.size w3 wb := below_then hB35 hB35.size hB6
                have hxbb := (hB36.block _ hx3l).trans HXb3.out
                have hybb := (hB36.block _ hy3l).trans HYb3.out
                have HSS := Aside0.mk (fun (W : World) (h0 : W.heap[w5.heap.size]? = wb.heap[w5.heap.size]?) (h1 : W.heap[w5.heap.size + 1]? = wb.heap[w5.heap.size + 1]?) => (⟨(blk_cell (h0.trans hq0) 0).trans rfl, (blk_cell (h0.trans hq0) 1).trans rfl, (blk_cell (h1.trans hq1) 0).trans rfl⟩ : W.cell? ⟨w5.heap.size, 0, none⟩ = some (.slice A9 L2.length c9) ∧ W.cell? ⟨w5.heap.size, 1, none⟩ = some (.slice A10 0 c10) ∧ W.cell? ⟨w5.heap.size + 1, 0, none⟩ = some (.string nm)))
                have hxn5 : ¬ (w5.heap.size = xb) := by omega
                have hxn6 : ¬ (w5.heap.size + 1 = xb) := by omega
                have hyn5 : ¬ (w5.heap.size = yb) := by omega
                have hyn6 : ¬ (w5.heap.size + 1 = yb) := by omega
                have HXBB := Aside0.mk hxbb
                have HYBB := Aside0.mk hybb
                have HB6 := Aside0.mk hB6
                have HB35 := Aside0.mk hB35
                clear hwb hB6 hq0 hq1 hB35 hB36 hxbb hybb hy0 hy1 hv2 hv3
                refine start_ (n := 6) (S := fun W => W.cell? ⟨w5.heap.size, 0, none⟩ = some (.slice A9 L2.length c9) ∧ W.cell? ⟨w5.heap.size, 1, none⟩ = some (.slice A10 0 c10) ∧ W.cell? ⟨w5.heap.size + 1, 0, none⟩ = some (.string nm)) (ds := []) #[false, false, false, false, false, false] (by kernel_rfl) rfl rfl ?_ (fun hHeld => ?_)
                · exact HSS.out _ rfl rfl
                refine take_ (i := 0) (N := some 112) (v := ?_) (a' := ?_) #[true, false, false, false, false, false] rfl rfl (by kernel_rfl) (fun _ _ _ h => h) (Or.inl ⟨by rfl, ?_⟩) hHeld ?_ ?_
                rotate_left
                · rintro w' ⟨s0, s1, s2⟩
                  go_simp
                  with_reducible rfl
                rotate_left
                · simp only [Act.put, List.setIfInBounds_toArray, List.set_cons_zero, List.set_cons_succ, i64_w, i32_w]
                  rfl
                refine take_ (i := 1) (N := some 113) (v := ?_) (a' := ?_) #[true, true, false, false, false, false] rfl rfl (by kernel_rfl) (fun _ _ _ h => h) (Or.inl ⟨by rfl, ?_⟩) hHeld ?_ ?_
                rotate_left
                · rintro w' ⟨s0, s1, s2⟩
                  go_simp
                  with_reducible rfl
                rotate_left
                · simp only [Act.put, List.setIfInBounds_toArray, List.set_cons_zero, List.set_cons_succ, i64_w, i32_w]
                  rfl
                refine pure_ (i := 2) (N := some 114) (v := ?_) (a' := ?_) #[true, true, true, false, false, false] rfl rfl (by kernel_rfl) (fun _ _ _ h => h) (Or.inl ⟨by rfl, ?_⟩) ?_ ?_
                rotate_left
                · intro w'
                  go_simp
                  with_reducible rfl
                rotate_left
                · simp only [Act.put, List.setIfInBounds_toArray, List.set_cons_zero, List.set_cons_succ, i64_w, i32_w]
                  rfl
                refine one_ (i := 3) (N := none) #[true, true, true, true, false, false] rfl rfl (by kernel_rfl) (by decide) (fun K hK => ?_)
                have hy0 : wb.cell? ⟨xb, 0, none⟩ = some (.slice A2 L.length c2) := (blk_cell HXBB.out 0).trans rfl
                have hy1 : wb.cell? ⟨xb, 1, none⟩ = some (.slice A3 O.length c3) := (blk_cell HXBB.out 1).trans rfl
                have hf0 := blk_frozen HXBB.out 0
                have hf1 := blk_frozen HXBB.out 1
                have hy2 : wb.cell? ⟨yb, 0, none⟩ = some (.string nm) := (blk_cell HYBB.out 0).trans rfl
                have hf2 := blk_frozen HYBB.out 0
                refine skip_ (w1 := ?_) (by rfl) rfl ?_ ?_
                rotate_left
                · go_simp
                  rfl
                refine hK.out _ _ (HSS.out _ ((Below.heap_setCell _ ⟨xb, 1, none⟩ _ _ hxn5).trans (Below.heap_setCell _ ⟨xb, 0, none⟩ _ _ hxn5)) ((Below.heap_setCell _ ⟨xb, 1, none⟩ _ _ hxn6).trans (Below.heap_setCell _ ⟨xb, 0, none⟩ _ _ hxn6))) (fun hHeld => ?_)
                clear hK K
                refine one_ (i := 4) (N := none) #[true, true, true, true, true, false] rfl rfl (by kernel_rfl) (by decide) (fun K hK => ?_)
                refine skip_ (w1 := ?_) (by rfl) rfl ?_ ?_
                rotate_left
                · go_simp
                  rfl
                refine hK.out _ _ (HSS.out _ ((Below.heap_setCell _ ⟨yb, 0, none⟩ _ _ hyn5).trans ((Below.heap_setCell _ ⟨xb, 1, none⟩ _ _ hxn5).trans (Below.heap_setCell _ ⟨xb, 0, none⟩ _ _ hxn5))) ((Below.heap_setCell _ ⟨yb, 0, none⟩ _ _ hyn6).trans ((Below.heap_setCell _ ⟨xb, 1, none⟩ _ _ hxn6).trans (Below.heap_setCell _ ⟨xb, 0, none⟩ _ _ hxn6)))) (fun hHeld => ?_)
                clear hK K
                refine pure_ (i := 5) (N := some 10) (v := ?_) (a' := ?_) #[true, true, true, true, true, true] rfl rfl (by kernel_rfl) (fun _ _ _ h => h) (Or.inl ⟨by rfl, ?_⟩) ?_ ?_
                rotate_left
                · intro w'
                  go_simp
                  with_reducible rfl
                rotate_left
                · simp only [Act.put, List.setIfInBounds_toArray, List.set_cons_zero, List.set_cons_succ, i64_w, i32_w]
                  rfl
                refine done_ (by kernel_rfl) ?_
                obtain ⟨wz, hwz⟩ : ∃ wz, wz = (((wb.setCell ⟨xb, 0, none⟩ (.slice A9 L2.length c9)).setCell ⟨xb, 1, none⟩ (.slice A10 0 c10)).setCell ⟨yb, 0, none⟩ (.string nm)).drew := ⟨_, rfl⟩
                rw [← hwz]
                have hyx' : ¬ (yb = xb) := HPa.out.lx.2.2.1
                have hWb : Wr wb wz (fun k => k = xb ∨ k = yb) := by
                  have h := wr_set3 wb xb yb (.slice A9 L2.length c9) (.slice A10 0 c10) (.string nm)
                  rw [hwz]
                  exact ⟨h.1, h.2.1, h.2.2.1, h.2.2.2.1, h.2.2.2.2⟩
                have hxf : wz.heap[xb]? = some (.cells #[.slice A9 L2.length c9, .slice A10 0 c10] 53 (0, 0)) := by
                  rw [hwz]
                  exact (Below.heap_setCell _ ⟨yb, 0, none⟩ _ xb (fun e => hyx' e.symm)).trans (blk_put2 HXBB.out _ _)
                have hyf : wz.heap[yb]? = some (.cells #[.string nm] 58 (0, 0)) := by
                  rw [hwz]
                  exact blk_put (cs := #[.string nm]) ((Below.heap_setCell _ ⟨xb, 1, none⟩ _ yb hyx').trans ((Below.heap_setCell _ ⟨xb, 0, none⟩ _ yb hyx').trans HYBB.out)) 0 _ rfl
                have hW5 : Wr w5 wz (fun k => k = xb ∨ k = yb) := Wr.trans (Wr.of_below (fun k => k = xb ∨ k = yb) HB6.out) hWb (fun k hk => .inl hk)
                clear hwz
                have hwa2 := HW2.out.size
                have hx2l := blk_lt HXb2.out
                have hSl := HSl.out
                have hTl := HTl.out
                have hyl0 := blk_lt HPa.out.ybb
                rw [alloc_size] at hyl0 hwa2
                have h23 := HC3.out.wr.size
                have hSe : ∀ k, ext S (wr.alloc (.cells #[.int .i64 o.f0, .slice B o.f1.length d, .int .i64 o.f2, .int .i64 o.f3] 71)) w2 k → w.heap.size ≤ k ∧ k ≠ xb ∧ k ≠ yb := fun k hk => hk.1.elim (fun h => ⟨(HPa.out.p.sb k h).1, (HPa.out.p.sb k h).2, (HPa.out.off k (.inl h)).2⟩) (fun h => by rw [alloc_size] at h; have := HW.out.size; exact ⟨by omega, by omega, by omega⟩)
                have hT5 : ∀ k, T5 k → T k ∨ w3.heap.size ≤ k := fun k hk => (HT5.out k hk).elim (fun h => h.1) (fun h => .inr (by omega))
                have hlS := HlS.out.1
                have hwp := wp_opened (m := 40 + 4 * (k + 1)) (y := byF L0 + byQ (ops.take (k + 1)) + 8 * (k + 1)) (w4 := w2) (T := T) (by have := HW.out.size; omega) (fun k hk => ⟨(hSe k hk).1, (hSe k hk).2.1⟩) HPa.out.p.tb (fun k hk ht => hk.1.elim (fun h => HPa.out.p.dis k h ht) (fun h => by rw [alloc_size] at h; have := hTl k ht; omega)) (fun k hk => by have := hTl k hk; omega) hx2l HPa.out.p.xbb HD3.out HC3.out HL3.out HlS.out HX5.out hT5 HB35.out hW5 hxf hyf
                  (fun k hk => (HC3.out.ex k hk).elim (fun h => (hSe k h).2.2) (fun h => by omega)) (fun k hk => (hT5 k hk).elim (fun h => (HPa.out.off k (.inr h)).2) (fun h => by omega)) (by omega) hyx' HPa.out.lx.2.2.2.2 HSt.out.toOpened HN1.out HN2.out HN3.out
                have HPz := Aside0.mk hwp
                have HC6 := Aside0.mk (Kd.F_now (Kd.F_step HF3.out (fun j hj hl => (hW5.2.2.2.2 j (Nat.lt_of_lt_of_le hl HB35.out.size) (fun e => by have h1 : w2.heap.size ≤ j := hj.1.1; rcases e with e | e <;> omega)).trans (HB35.out.block j hl))))
                have HC9 := Aside0.mk (Kd.F_now (Kd.F_step HC8.out (fun j hj hl => hW5.2.2.2.2 j hl (fun e => by have h1 : w4.heap.size ≤ j := hj.1; rcases e with e | e <;> omega))))
                have HW3 := Aside0.mk (wr_below (wr_below HWa.out HWa.out.size (fun k hk => (HPa.out.p.sb k hk).1) HW2.out) (by have := HW.out.size; omega) (fun k hk => (hSe k hk).1) HC3.out.wr)
                have HWz0 := Aside0.mk (wr_below (below_then HW3.out HW3.out.size HB35.out) (Nat.le_trans HW3.out.size HB35.out.size) (fun k hk => hk.elim (fun e => by rw [e]; exact HPa.out.p.xbb) (fun e => by rw [e]; exact HPa.out.lx.2.2.2.2)) hW5)
                clear hWb hxf hyf hW5 hwa2 hx2l hSl hTl hyl0 h23 hSe hT5 hlS hwp HW3 HC8 HF3 HX5 HT5 HB5 HB4 HX4 HX3 HB35 HB6 HXBB HYBB HSS hy0 hy1 hf0 hf1 hy2 hf2 hxn5 hxn6 hyn5 hyn6 h34 h45 hx3l hy3l HD3 HC3 HL3 HlS HXb3 HXb2 HYb3 HD2 HW2 HSt HN1 HN2 HN3 hHeld hc0 hc1 hc2 hc3 hz0 hz1 hz2 hb0 hb1
                go_wp2_with fail
                refine (lists36_true A6 c6 A8 c8 R1 wz HC6.out HC9.out).mono ?_
                rintro e wy ⟨rfl, hdy⟩
                have hBy := Drawn0.to_below hdy
                replace HPz := Aside0.mk (HPz.out.move hBy)
                have HWz := Aside0.mk (below_then HWz0.out HWz0.out.size hBy)
                clear hdy hBy HC6 HC9 HWz0
                go_wp2_with fail
                have HHe := Aside0.mk (fun (W : World) (hB : Below wy.heap.size wy W) => (HPz.out.move hB).cells)
                obtain ⟨Lz, hLz⟩ : ∃ Lz, Lz = L2 := ⟨_, rfl⟩
                obtain ⟨Oz, hOz⟩ : ∃ Oz, Oz = [] := ⟨_, rfl⟩
                obtain ⟨Rz, hRz⟩ : ∃ Rz, Rz = R1 := ⟨_, rfl⟩
                obtain ⟨nz, hnz⟩ : ∃ nz, nz = n2 := ⟨_, rfl⟩
                rw [← hLz, ← hOz] at HHe
                rw [← hLz, ← hOz, ← hRz, ← hnz] at HPz
                clear hLz hOz hRz hnz
                have HSy := Aside0.mk (show Sz Lz Oz nz from HPz.out.p.sz (by have := HM5.out; omega) (by have := HY5.out; omega))
                refine start_ (n := 26) (S := fun W => W.cell? ⟨xb, 0, none⟩ = some (.slice A9 Lz.length c9) ∧ W.cell? ⟨xb, 1, none⟩ = some (.slice A10 Oz.length c10) ∧ W.cell? ⟨yb, 0, none⟩ = some (.string nm)) (ds := []) #[false, false, false, false, false, false, false, false, false, false, false, false, false, false, false, false, false, false, false, false, false, false, false, false, false, false] (by kernel_rfl) rfl rfl ?_ (fun hHeld => ?_)
                · exact HHe.out _ (below_drew (Below.refl _ _))
                refine pure_ (i := 0) (N := some 150) (v := ?_) (a' := ?_) #[true, false, false, false, false, false, false, false, false, false, false, false, false, false, false, false, false, false, false, false, false, false, false, false, false, false] rfl rfl (by kernel_rfl) (fun _ _ _ h => h) (Or.inl ⟨by rfl, ?_⟩) ?_ ?_
                rotate_left
                · intro w'
                  go_simp
                  with_reducible rfl
                rotate_left
                · simp only [Act.put, List.setIfInBounds_toArray, List.set_cons_zero, List.set_cons_succ, i64_w, i32_w]
                  rfl
                refine take_ (i := 1) (N := some 151) (v := ?_) (a' := ?_) #[true, true, false, false, false, false, false, false, false, false, false, false, false, false, false, false, false, false, false, false, false, false, false, false, false, false] rfl rfl (by kernel_rfl) (fun _ _ _ h => h) (Or.inl ⟨by rfl, ?_⟩) hHeld ?_ ?_
                rotate_left
                · rintro w' ⟨s0, s1, s2⟩
                  go_simp
                  with_reducible rfl
                rotate_left
                · simp only [Act.put, List.setIfInBounds_toArray, List.set_cons_zero, List.set_cons_succ, i64_w, i32_w]
                  rfl
                have HB1 := Aside0.mk (below_drew (Below.refl wy.heap.size wy))
                refine one_ (i := 2) (N := some 152) #[true, true, true, false, false, false, false, false, false, false, false, false, false, false, false, false, false, false, false, false, false, false, false, false, false, false] rfl rfl (by kernel_rfl) (by decide) (fun K hK => ?_)
                refine goes_ Try.func43 (by kernel_rfl) rfl #[.pointer (some ⟨g, 0, none⟩), dkV A9 Lz.length c9 A10 Oz.length c10] (by rfl) rfl rfl (by (try simp only [List.map_toArray, List.map_cons, List.map_nil]); first | done | rfl) ?_
                refine (same36_calls wy.drew S3 T5 g nz Lz Oz A9 c9 A10 c10 (HPz.out.move HB1.out).p.dst (HPz.out.move HB1.out).p.xst HSy.out).mono ?_
                rintro e w11 ⟨rfl, hB11⟩
                have HB11 := Aside0.mk (below_then HB1.out HB1.out.size hB11)
                refine ⟨_, rfl, hK.out _ _ (HHe.out _ HB11.out) (fun hHeld => ?_)⟩
                clear hK K hB11
                refine norm_ (a' := ?_) ?_ ?_
                rotate_left
                · show Act.put _ (some 152) _ = _
                  simp only [Act.put, List.setIfInBounds_toArray, List.set_cons_zero, List.set_cons_succ, i64_w, i32_w]
                  rfl
                refine pure_ (i := 3) (N := some 153) (v := ?_) (a' := ?_) #[true, true, true, true, false, false, false, false, false, false, false, false, false, false, false, false, false, false, false, false, false, false, false, false, false, false] rfl rfl (by kernel_rfl) (fun _ _ _ h => h) (Or.inl ⟨by rfl, ?_⟩) ?_ ?_
                rotate_left
                · intro w'
                  go_simp
                  with_reducible rfl
                rotate_left
                · simp only [Act.put, List.setIfInBounds_toArray, List.set_cons_zero, List.set_cons_succ, i64_w, i32_w]
                  rfl
                refine pure_ (i := 4) (N := some 154) (v := ?_) (a' := ?_) #[true, true, true, true, true, false, false, false, false, false, false, false, false, false, false, false, false, false, false, false, false, false, false, false, false, false] rfl rfl (by kernel_rfl) (fun _ _ _ h => h) (Or.inl ⟨by rfl, ?_⟩) ?_ ?_
                rotate_left
                · intro w'
                  go_simp
                  with_reducible rfl
                rotate_left
                · simp only [Act.put, List.setIfInBounds_toArray, List.set_cons_zero, List.set_cons_succ, i64_w, i32_w]
                  rfl
                refine pure_ (i := 5) (N := some 155) (v := ?_) (a' := ?_) #[true, true, true, true, true, true, false, false, false, false, false, false, false, false, false, false, false, false, false, false, false, false, false, false, false, false] rfl rfl (by kernel_rfl) (fun _ _ _ h => h) (Or.inl ⟨by rfl, ?_⟩) ?_ ?_
                rotate_left
                · intro w'
                  go_simp
                  with_reducible rfl
                rotate_left
                · simp only [Act.put, List.setIfInBounds_toArray, List.set_cons_zero, List.set_cons_succ, i64_w, i32_w]
                  rfl
                refine take_ (i := 7) (N := some 157) (v := ?_) (a' := ?_) #[true, true, true, true, true, true, false, true, false, false, false, false, false, false, false, false, false, false, false, false, false, false, false, false, false, false] rfl rfl (by kernel_rfl) (fun _ _ _ h => h) (Or.inl ⟨by rfl, ?_⟩) hHeld ?_ ?_
                rotate_left
                · rintro w' ⟨s0, s1, s2⟩
                  go_simp
                  with_reducible rfl
                rotate_left
                · simp only [Act.put, List.setIfInBounds_toArray, List.set_cons_zero, List.set_cons_succ, i64_w, i32_w]
                  rfl
                refine take_ (i := 8) (N := some 158) (v := ?_) (a' := ?_) #[true, true, true, true, true, true, false, true, true, false, false, false, false, false, false, false, false, false, false, false, false, false, false, false, false, false] rfl rfl (by kernel_rfl) (fun _ _ _ h => h) (Or.inl ⟨by rfl, ?_⟩) hHeld ?_ ?_
                rotate_left
                · rintro w' ⟨s0, s1, s2⟩
                  go_simp
                  with_reducible rfl
                rotate_left
                · simp only [Act.put, List.setIfInBounds_toArray, List.set_cons_zero, List.set_cons_succ, i64_w, i32_w]
                  rfl
                refine one_ (i := 6) (N := some 156) #[true, true, true, true, true, true, true, true, true, false, false, false, false, false, false, false, false, false, false, false, false, false, false, false, false, false] rfl rfl (by kernel_rfl) (by decide) (fun K hK => ?_)
                refine goes_ Try.func34 (by kernel_rfl) rfl #[.pointer (some ⟨lg3, 0, none⟩)] (by rfl) rfl rfl (by (try simp only [List.map_toArray, List.map_cons, List.map_nil]); first | done | rfl) ?_
                refine (llen_calls w11 lg3 Rz.length (framesL Rz).length g nm (HPz.out.move HB11.out).lgb).mono ?_
                rintro e w12 ⟨rfl, rfl⟩
                refine ⟨_, rfl, hK.out _ _ (HHe.out _ HB11.out) (fun hHeld => ?_)⟩
                clear hK K
                refine norm_ (a' := ?_) ?_ ?_
                rotate_left
                · show Act.put _ (some 156) _ = _
                  simp only [Act.put, List.setIfInBounds_toArray, List.set_cons_zero, List.set_cons_succ, i64_w, i32_w]
                  rfl
                refine one_ (i := 9) (N := some 159) #[true, true, true, true, true, true, true, true, true, true, false, false, false, false, false, false, false, false, false, false, false, false, false, false, false, false] rfl rfl (by kernel_rfl) (by decide) (fun K hK => ?_)
                refine goes_ Try.func51 (by kernel_rfl) rfl #[dkV A9 Lz.length c9 A10 Oz.length c10, .agg #[.string nm]] (by rfl) rfl rfl (by (try simp only [List.map_toArray, List.map_cons, List.map_nil]); first | done | rfl) ?_
                refine (xlen_calls w12 T5 A9 c9 A10 c10 nz Lz Oz nm (HPz.out.move HB11.out).p.xst HSy.out HPz.out.byt).mono ?_
                rw [HPz.out.recs]
                rintro e w13 ⟨rfl, hB12⟩
                have HB12 := Aside0.mk (below_then HB11.out HB11.out.size hB12)
                refine ⟨_, rfl, hK.out _ _ (HHe.out _ HB12.out) (fun hHeld => ?_)⟩
                clear hK K hB12
                refine norm_ (a' := ?_) ?_ ?_
                rotate_left
                · show Act.put _ (some 159) _ = _
                  simp only [Act.put, List.setIfInBounds_toArray, List.set_cons_zero, List.set_cons_succ, i64_w, i32_w]
                  rfl
                refine pure_ (i := 10) (N := some 160) (v := ?_) (a' := ?_) #[true, true, true, true, true, true, true, true, true, true, true, false, false, false, false, false, false, false, false, false, false, false, false, false, false, false] rfl rfl (by kernel_rfl) (fun _ _ _ h => h) (Or.inl ⟨by rfl, ?_⟩) ?_ ?_
                rotate_left
                · intro w'
                  go_simp
                  with_reducible rfl
                rotate_left
                · simp only [Act.put, List.setIfInBounds_toArray, List.set_cons_zero, List.set_cons_succ, i64_w, i32_w]
                  rfl
                refine pure_ (i := 11) (N := some 161) (v := ?_) (a' := ?_) #[true, true, true, true, true, true, true, true, true, true, true, true, false, false, false, false, false, false, false, false, false, false, false, false, false, false] rfl rfl (by kernel_rfl) (fun _ _ _ h => h) (Or.inl ⟨by rfl, ?_⟩) ?_ ?_
                rotate_left
                · intro w'
                  go_simp
                  with_reducible rfl
                rotate_left
                · simp only [Act.put, List.setIfInBounds_toArray, List.set_cons_zero, List.set_cons_succ, i64_w, i32_w]
                  rfl
                refine pure_ (i := 12) (N := some 162) (v := ?_) (a' := ?_) #[true, true, true, true, true, true, true, true, true, true, true, true, true, false, false, false, false, false, false, false, false, false, false, false, false, false] rfl rfl (by kernel_rfl) (fun _ _ _ h => h) (Or.inl ⟨by rfl, ?_⟩) ?_ ?_
                rotate_left
                · intro w'
                  go_simp
                  with_reducible rfl
                rotate_left
                · simp only [Act.put, List.setIfInBounds_toArray, List.set_cons_zero, List.set_cons_succ, i64_w, i32_w]
                  rfl
                refine pure_ (i := 13) (N := some 163) (v := ?_) (a' := ?_) #[true, true, true, true, true, true, true, true, true, true, true, true, true, true, false, false, false, false, false, false, false, false, false, false, false, false] rfl rfl (by kernel_rfl) (fun _ _ _ h => h) (Or.inl ⟨by rfl, ?_⟩) ?_ ?_
                rotate_left
                · intro w'
                  go_simp
                  with_reducible rfl
                rotate_left
                · simp only [Act.put, List.setIfInBounds_toArray, List.set_cons_zero, List.set_cons_succ, i64_w, i32_w]
                  rfl
                refine take_ (i := 15) (N := some 165) (v := ?_) (a' := ?_) #[true, true, true, true, true, true, true, true, true, true, true, true, true, true, false, true, false, false, false, false, false, false, false, false, false, false] rfl rfl (by kernel_rfl) (fun _ _ _ h => h) (Or.inl ⟨by rfl, ?_⟩) hHeld ?_ ?_
                rotate_left
                · rintro w' ⟨s0, s1, s2⟩
                  go_simp
                  with_reducible rfl
                rotate_left
                · simp only [Act.put, List.setIfInBounds_toArray, List.set_cons_zero, List.set_cons_succ, i64_w, i32_w]
                  rfl
                refine take_ (i := 16) (N := some 166) (v := ?_) (a' := ?_) #[true, true, true, true, true, true, true, true, true, true, true, true, true, true, false, true, true, false, false, false, false, false, false, false, false, false] rfl rfl (by kernel_rfl) (fun _ _ _ h => h) (Or.inl ⟨by rfl, ?_⟩) hHeld ?_ ?_
                rotate_left
                · rintro w' ⟨s0, s1, s2⟩
                  go_simp
                  with_reducible rfl
                rotate_left
                · simp only [Act.put, List.setIfInBounds_toArray, List.set_cons_zero, List.set_cons_succ, i64_w, i32_w]
                  rfl
                refine one_ (i := 14) (N := some 164) #[true, true, true, true, true, true, true, true, true, true, true, true, true, true, true, true, true, false, false, false, false, false, false, false, false, false] rfl rfl (by kernel_rfl) (by decide) (fun K hK => ?_)
                refine goes_ Try.func35 (by kernel_rfl) rfl #[.pointer (some ⟨lg3, 0, none⟩)] (by rfl) rfl rfl (by (try simp only [List.map_toArray, List.map_cons, List.map_nil]); first | done | rfl) ?_
                refine (lsize_calls w13 lg3 Rz.length (framesL Rz).length g nm (HPz.out.move HB12.out).lgb).mono ?_
                rintro e w14 ⟨rfl, rfl⟩
                refine ⟨_, rfl, hK.out _ _ (HHe.out _ HB12.out) (fun hHeld => ?_)⟩
                clear hK K
                refine norm_ (a' := ?_) ?_ ?_
                rotate_left
                · show Act.put _ (some 164) _ = _
                  simp only [Act.put, List.setIfInBounds_toArray, List.set_cons_zero, List.set_cons_succ, i64_w, i32_w]
                  rfl
                refine one_ (i := 17) (N := some 167) #[true, true, true, true, true, true, true, true, true, true, true, true, true, true, true, true, true, true, false, false, false, false, false, false, false, false] rfl rfl (by kernel_rfl) (by decide) (fun K hK => ?_)
                refine goes_ Try.func52 (by kernel_rfl) rfl #[dkV A9 Lz.length c9 A10 Oz.length c10, .agg #[.string nm]] (by rfl) rfl rfl (by (try simp only [List.map_toArray, List.map_cons, List.map_nil]); first | done | rfl) ?_
                refine (xsize_calls w14 T5 A9 c9 A10 c10 nz Lz Oz nm (HPz.out.move HB12.out).p.xst HSy.out).mono ?_
                rw [HPz.out.cont]
                rintro e w15 ⟨rfl, hB13⟩
                have HB13 := Aside0.mk (below_then HB12.out HB12.out.size hB13)
                refine ⟨_, rfl, hK.out _ _ (HHe.out _ HB13.out) (fun hHeld => ?_)⟩
                clear hK K hB13
                refine norm_ (a' := ?_) ?_ ?_
                rotate_left
                · show Act.put _ (some 167) _ = _
                  simp only [Act.put, List.setIfInBounds_toArray, List.set_cons_zero, List.set_cons_succ, i64_w, i32_w]
                  rfl
                refine pure_ (i := 18) (N := some 168) (v := ?_) (a' := ?_) #[true, true, true, true, true, true, true, true, true, true, true, true, true, true, true, true, true, true, true, false, false, false, false, false, false, false] rfl rfl (by kernel_rfl) (fun _ _ _ h => h) (Or.inl ⟨by rfl, ?_⟩) ?_ ?_
                rotate_left
                · intro w'
                  go_simp
                  with_reducible rfl
                rotate_left
                · simp only [Act.put, List.setIfInBounds_toArray, List.set_cons_zero, List.set_cons_succ, i64_w, i32_w]
                  rfl
                refine pure_ (i := 19) (N := some 169) (v := ?_) (a' := ?_) #[true, true, true, true, true, true, true, true, true, true, true, true, true, true, true, true, true, true, true, true, false, false, false, false, false, false] rfl rfl (by kernel_rfl) (fun _ _ _ h => h) (Or.inl ⟨by rfl, ?_⟩) ?_ ?_
                rotate_left
                · intro w'
                  go_simp
                  with_reducible rfl
                rotate_left
                · simp only [Act.put, List.setIfInBounds_toArray, List.set_cons_zero, List.set_cons_succ, i64_w, i32_w]
                  rfl
                refine pure_ (i := 20) (N := some 170) (v := ?_) (a' := ?_) #[true, true, true, true, true, true, true, true, true, true, true, true, true, true, true, true, true, true, true, true, true, false, false, false, false, false] rfl rfl (by kernel_rfl) (fun _ _ _ h => h) (Or.inl ⟨by rfl, ?_⟩) ?_ ?_
                rotate_left
                · intro w'
                  go_simp
                  with_reducible rfl
                rotate_left
                · simp only [Act.put, List.setIfInBounds_toArray, List.set_cons_zero, List.set_cons_succ, i64_w, i32_w]
                  rfl
                refine pure_ (i := 21) (N := some 171) (v := ?_) (a' := ?_) #[true, true, true, true, true, true, true, true, true, true, true, true, true, true, true, true, true, true, true, true, true, true, false, false, false, false] rfl rfl (by kernel_rfl) (fun _ _ _ h => h) (Or.inl ⟨by rfl, ?_⟩) ?_ ?_
                rotate_left
                · intro w'
                  go_simp
                  with_reducible rfl
                rotate_left
                · simp only [Act.put, List.setIfInBounds_toArray, List.set_cons_zero, List.set_cons_succ, i64_w, i32_w]
                  rfl
                refine pure_ (i := 23) (N := some 173) (v := ?_) (a' := ?_) #[true, true, true, true, true, true, true, true, true, true, true, true, true, true, true, true, true, true, true, true, true, true, false, true, false, false] rfl rfl (by kernel_rfl) (fun _ _ _ h => h) (Or.inl ⟨by rfl, ?_⟩) ?_ ?_
                rotate_left
                · intro w'
                  go_simp
                  with_reducible rfl
                rotate_left
                · simp only [Act.put, List.setIfInBounds_toArray, List.set_cons_zero, List.set_cons_succ, i64_w, i32_w]
                  rfl
                refine one_ (i := 22) (N := some 172) #[true, true, true, true, true, true, true, true, true, true, true, true, true, true, true, true, true, true, true, true, true, true, true, true, false, false] rfl rfl (by kernel_rfl) (by decide) (fun K hK => ?_)
                refine goes_ Try.func36 (by kernel_rfl) rfl #[.pointer (some ⟨lg3, 0, none⟩)] (by rfl) rfl rfl (by (try simp only [List.map_toArray, List.map_cons, List.map_nil]); first | done | rfl) ?_
                refine (lname_calls w15 lg3 Rz.length (framesL Rz).length g nm (HPz.out.move HB13.out).lgb).mono ?_
                rintro e w16 ⟨rfl, rfl⟩
                refine ⟨_, rfl, hK.out _ _ (HHe.out _ HB13.out) (fun hHeld => ?_)⟩
                clear hK K
                refine norm_ (a' := ?_) ?_ ?_
                rotate_left
                · show Act.put _ (some 172) _ = _
                  simp only [Act.put, List.setIfInBounds_toArray, List.set_cons_zero, List.set_cons_succ, i64_w, i32_w]
                  rfl
                refine pure_ (i := 24) (N := some 174) (v := ?_) (a' := ?_) #[true, true, true, true, true, true, true, true, true, true, true, true, true, true, true, true, true, true, true, true, true, true, true, true, true, false] rfl rfl (by kernel_rfl) (fun _ _ _ h => h) (Or.inl ⟨by rfl, ?_⟩) ?_ ?_
                rotate_left
                · intro w'
                  go_simp
                  with_reducible rfl
                rotate_left
                · simp only [Act.put, List.setIfInBounds_toArray, List.set_cons_zero, List.set_cons_succ, i64_w, i32_w]
                  rfl
                refine pure_ (i := 25) (N := some 175) (v := ?_) (a' := ?_) #[true, true, true, true, true, true, true, true, true, true, true, true, true, true, true, true, true, true, true, true, true, true, true, true, true, true] rfl rfl (by kernel_rfl) (fun _ _ _ h => h) (Or.inl ⟨by rfl, ?_⟩) ?_ ?_
                rotate_left
                · intro w'
                  go_simp
                  with_reducible rfl
                rotate_left
                · simp only [Act.put, List.setIfInBounds_toArray, List.set_cons_zero, List.set_cons_succ, i64_w, i32_w]
                  rfl
                refine done_ (by kernel_rfl) ?_
                go_wp2
                go_roundw
                case rel => exact ⟨k + 1, lg3, by omega, rfl, by go_num, ⟨below_then HWz.out HWz.out.size HB13.out⟩, ⟨S3, T5, A9, c9, A10, c10, Lz, Oz, nz, Rz, HPz.out.move HB13.out⟩⟩
                case measure => simp [intOf]; omega
          · obtain rfl : k = ops.length := by omega
            clear hpr
            go_wp2_with fail
            refine (works_wal wr).mono ?_
            rintro e w2 ⟨rfl, hB2⟩
            have HB2 := Aside0.mk (below_then HW.out HW.out.size hB2)
            clear hB2
            go_wp2_with fail
            go_ret
            exact ⟨rfl, HB2.out⟩
end Go.Proofs.Ytfaniohoplbdoaa.My
/- Operations on logs as arguments, opened. -/
namespace Go.Proofs.Ytfaniohoplbdoaa.My
open Go Go.RowKit Go.ChangeShapes Go.WideShapes Go.Proofs.YtfaniohoplbdoaaW.PrintWords Go.Proofs.YtfaniohoplbdoaaW.PrintLast Go.Proofs.YtfaniohoplbdoaaW.PrintMore Go.Proofs.Ytfaniohoplbdoaa.PDiskActs
set_option linter.unusedVariables false
set_option linter.unusedSimpArgs false
section
variable {H : Type} {enc : TypeId × Value → H} {W : World} {base : Nat} {held : Bool}
theorem cells71 : Try.prog.cellsOf 71 = 4 := by kernel_rfl
theorem bytes71 : Try.prog.bytesOf 71 = 48 := by kernel_rfl
set_option maxRecDepth 100000 in
/-- One operation. -/
theorem open_op71 {fuel : Nat} {cs : List Value} {x : DataW H × List MemPlace} (h : DataW.trod enc Try.prog W base (fun _ => true) held fuel 71 cs = some x) (hw : ∀ n ∈ x.1.weights Try.prog 71, n ≤ reachBytes) :
    ∃ (o : S71) (B : Option Addr) (d : Nat), cs = [.int .i64 o.f0, .slice B o.f1.length d, .int .i64 o.f2, .int .i64 o.f3] ∧ o.f1.length ≤ d ∧ CB W B o.f1 ∧ o.f1.length ≤ 140737488351232 ∧ Byt o.f1 := by
  obtain ⟨xs, n, _, rfl, hcl, hxl, hf⟩ := DataW.trod_struct Try.underlying71 h
  rw [cells71] at hcl
  match cs, hcl with
  | [v0, v1, v2, v3], _ =>
    have ex : ∀ j, j < 4 → ∃ y, xs[j]? = some y := fun j hj => ⟨_, List.getElem?_eq_getElem (by rw [hxl]; exact hj)⟩
    obtain ⟨y0, h0⟩ := ex 0 (by decide)
    obtain ⟨y1, h1⟩ := ex 1 (by decide)
    obtain ⟨y2, h2⟩ := ex 2 (by decide)
    obtain ⟨y3, h3⟩ := ex 3 (by decide)
    have g0 : DataW.trod enc Try.prog W base (fun _ => true) held n 3 (([v0, v1, v2, v3].drop 0).take (Try.prog.cellsOf 3)) = xs[0]? := hf 0 _ rfl
    rw [cells3] at g0
    have g1 : DataW.trod enc Try.prog W base (fun _ => true) held n 22 (([v0, v1, v2, v3].drop 1).take (Try.prog.cellsOf 22)) = xs[1]? := hf 1 _ rfl
    rw [cells22] at g1
    have g2 : DataW.trod enc Try.prog W base (fun _ => true) held n 3 (([v0, v1, v2, v3].drop 2).take (Try.prog.cellsOf 3)) = xs[2]? := hf 2 _ rfl
    rw [cells3] at g2
    have g3 : DataW.trod enc Try.prog W base (fun _ => true) held n 3 (([v0, v1, v2, v3].drop 3).take (Try.prog.cellsOf 3)) = xs[3]? := hf 3 _ rfl
    rw [cells3] at g3
    rw [h0] at g0
    rw [h1] at g1
    rw [h2] at g2
    rw [h3] at g3
    obtain ⟨z0, e0⟩ := open_num g0
    obtain ⟨z2, e2⟩ := open_num g2
    obtain ⟨z3, e3⟩ := open_num g3
    obtain ⟨B, d, y, e1, hd, hC, hy, hbt⟩ := open_data g1 (fun n hn => hw n (by
      simp only [DataW.weights, Try.underlying71]
      exact weights_each (j := 1) rfl (by rw [List.getElem?_map, h1]; rfl) hn))
    simp at e0 e1 e2 e3
    exact ⟨⟨z0, y, z2, z3⟩, B, d, by rw [e0, e1, e2, e3], hd, hC, hy, hbt⟩
/-- A list of such. -/
theorem open_ops71 {a : Option Addr} {len cap : Nat} {d : DataW H} {ps : List MemPlace} (h : DataW.Trod enc Try.prog W base (fun _ => true) held 68 (.slice a len cap) d ps) (hw : ∀ n ∈ d.weights Try.prog 68, n ≤ reachBytes) :
    ∃ l : List S71, l.length = len ∧ CQ W a l ∧ (∀ o ∈ l, Byt o.f1) ∧ ∀ o ∈ l, o.f1.length ≤ 140737488351232 := by
  haveI : Inhabited S71 := ⟨⟨0, [], 0, 0⟩⟩
  obtain ⟨fuel, hf⟩ := h
  rcases Go.Deep.open_slice Try.underlying68 hf with ⟨hcs, _⟩ | ⟨x, l, c, m, n, D, Pl, hcs, hb, hl, hm, hmm, hx, hel⟩
  · simp [Value.cells] at hcs
    obtain ⟨rfl, rfl, rfl⟩ := hcs
    exact ⟨[], rfl, Kd.C_nil _ _, by simp, by simp⟩
  · simp [Value.cells] at hcs
    obtain ⟨rfl, rfl, rfl⟩ := hcs
    simp only [if_true] at hmm
    obtain rfl := hmm
    obtain ⟨rfl, _⟩ := Prod.mk.inj hx
    have hsz := hw _ (by simp only [DataW.weights, Try.underlying68]; exact List.mem_cons_self)
    simp only [List.length_map, List.length_range, bytes71] at hsz
    have each : ∀ i, i < len → ∃ p : S71 × (Option Addr × Nat), (∀ j v, (([.int .i64 p.1.f0, .slice p.2.1 p.1.f1.length p.2.2, .int .i64 p.1.f2, .int .i64 p.1.f3] : List Value))[j]? = some v → W.cell? (x.add (i * 4 + j)) = some v) ∧ p.1.f1.length ≤ p.2.2 ∧ CB W p.2.1 p.1.f1 ∧ p.1.f1.length ≤ 140737488351232 ∧ Byt p.1.f1 := by
      intro i hi
      obtain ⟨cs', h1, h2⟩ := hel i (by omega)
      obtain ⟨f, B, dd, rfl, hd, hC, hy, hs⟩ := open_op71 h2 (fun n hn => hw n (by
        simp only [DataW.weights, Try.underlying68, List.mem_cons, List.mem_append]
        exact .inr (.inl (weights_all hn (List.mem_map.2 ⟨i, List.mem_range.2 hi, rfl⟩)))))
      rw [cells71] at h1
      obtain ⟨_, hlen, hcell⟩ := World.cells?_some h1
      refine ⟨(f, B, dd), fun j v hj => ?_, hd, hC, hy, hs⟩
      have hj2 : j < 4 := by have := (List.getElem?_eq_some_iff.1 hj).1; simpa using this
      have := hcell j hj2
      rw [add_add] at this
      rw [this]
      rw [← hj]
    obtain ⟨F, hF⟩ := Go.Deep.choose_lt each
    have hlen : ((List.range len).map fun i => (F i).1).length = len := by simp
    refine ⟨(List.range len).map fun i => (F i).1, hlen, ?_⟩
    have hC : Kd.C k71 W (some x) ((List.range len).map fun i => (F i).1).length ((List.range len).map fun i => (F i).1) := by
      refine ⟨rfl, by rw [hlen]; have : maxLen = 9223372036854775807 := rfl; omega, fun _ => ⟨x, rfl, fun j p hj => ?_⟩⟩
      rw [List.getElem?_map] at hj
      obtain ⟨r, hr1, rfl⟩ := Option.map_eq_some_iff.1 hj
      obtain ⟨hlt, hge⟩ := List.getElem?_eq_some_iff.1 hr1
      rw [List.length_range] at hlt
      have : r = j := by rw [← hge]; simp
      subst this
      obtain ⟨h1, h2, h3, _⟩ := hF r hlt
      exact ⟨_, rfl, k71_mk W (F r).1 h2 h3, fun i v hi => h1 i v hi⟩
    have mem : ∀ f ∈ (List.range len).map fun i => (F i).1, ∃ r, r < len ∧ f = (F r).1 := by
      intro f hf
      obtain ⟨r, hr1, rfl⟩ := List.mem_map.1 hf
      exact ⟨r, List.mem_range.1 hr1, rfl⟩
    refine ⟨hC, fun f hf => ?_, fun f hf => ?_⟩
    · obtain ⟨r, hr, rfl⟩ := mem f hf
      exact (hF r hr).2.2.2.2
    · obtain ⟨r, hr, rfl⟩ := mem f hf
      exact (hF r hr).2.2.2.1
theorem open_ops71_sized {a : Option Addr} {len cap : Nat} {d : DataW H} {ps : List MemPlace} {ts : List TypeId} {ds : List (DataW H)} {j : Nat} (hsz : (DataW.weightsEach Try.prog ts ds).all (· ≤ reachBytes) = true) (ht : ts[j]? = some 68) (hd : ds[j]? = some d)
    (h : DataW.Trod enc Try.prog W base (fun _ => true) held 68 (.slice a len cap) d ps) : ∃ l : List S71, l.length = len ∧ CQ W a l ∧ (∀ o ∈ l, Byt o.f1) ∧ ∀ o ∈ l, o.f1.length ≤ 140737488351232 :=
  open_ops71 h fun n hn => by simpa using List.all_eq_true.1 hsz n (DataW.weights_mem_each ht hd n hn)
end
end Go.Proofs.Ytfaniohoplbdoaa.My
/- The statement WalActs returns true for all files and names, and these read as before. Conditions: none. -/
namespace Go.Proofs.Ytfaniohoplbdoaa.walActs
open Go.ChangeShapes Go.WideShapes Go.ChangeAt Go.RowKit
open Go.ChangeMaps (open_string shut_string)
open Go.Proofs.Ytfaniohoplbdoaa.My
set_option linter.unusedVariables false
set_option linter.unusedSimpArgs false

theorem own : ownKnob Try.prog.godebug = none := by kernel_rfl
theorem laidOut : laidOutB Try.prog = true := by kernel_rfl

set_option maxRecDepth 100000 in
theorem lifted (os : Os) (started : os.Started) (H : Type) (enc : TypeId × Value → H) :
    ReturnsInHanded {} Try.checked os 10 .any (Rows.walActsSpec.pre6 enc Try.prog Try.f10 Rows.walActsRow.domain false) (Rows.walActsSpec.post enc Try.prog Try.f10 false true false false) := by
  refine returnsInHanded_of_change_sized (C := Try.checked) own started (by kernel_rfl) Try.func10
    (ChangeSpec.witness6 (enc := enc) (C := Try.checked) false ⟨#[], #[.slice none 0 0, .string ⟨#[]⟩, .slice none 0 0], []⟩ 8 (by kernel_rfl) (by kernel_rfl) (by kernel_rfl) (by kernel_rfl)) ?_
  intro W base args ds gs before hval0 hW hcnd hsz0 _
  have hsz : (DataW.weightsEach Try.prog (Try.f10.params.toList ++ Rows.walActsSpec.plain.varTypes Try.prog) (ds ++ gs)).all (· ≤ reachBytes) = true := hsz0
  have hval : ∀ (j : Nat) t v, Try.f10.params[j]? = some t → args[j]? = some v → Value.okWide Try.prog W .any base t v := hval0
  have hW' := hW
  obtain ⟨p, q, hA0, hV, rfl, hfz, hnd⟩ := hW
  have hA : DataW.TrodAll enc Try.prog W 0 (fun _ => true) true Try.f10.params.toList args.toList ds p := hA0
  rw [Try.params10] at hA hval hsz
  obtain ⟨v0, vs0, d0, ds0, p0, q0, hargs, rfl, rfl, h0, r0⟩ := trodAll_cons hA
  obtain ⟨v1, vs1, d1, ds1, p1, q1, rfl, rfl, rfl, h1, r1⟩ := trodAll_cons r0
  obtain ⟨v2, vs2, d2, ds2, p2, q2, rfl, rfl, rfl, h2, r2⟩ := trodAll_cons r1
  obtain ⟨rfl, rfl, rfl⟩ := trodAll_nil r2
  obtain rfl : args = #[v0, v1, v2] := by cases args; simp_all
  obtain ⟨rfl, rfl⟩ := trodVars_none hV
  obtain ⟨a0, len0, cap0, rfl⟩ := okWide_slice Try.underlying42 (hval 0 42 v0 rfl rfl)
  obtain ⟨a2, len2, cap2, rfl⟩ := okWide_slice Try.underlying68 (hval 2 68 v2 rfl rfl)
  obtain ⟨s1, rfl, rfl, rfl, w1⟩ := open_string Try.underlying9 (hval 1 9 v1 rfl rfl) h1
  have k0 := h0
  have lt0 : ∀ x ∈ p0, x.block < W.heap.size := by obtain ⟨m, hm⟩ := k0; exact DataW.trod_lt m _ _ _ hm
  have k2 := h2
  have lt2 : ∀ x ∈ p2, x.block < W.heap.size := by obtain ⟨m, hm⟩ := k2; exact DataW.trod_lt m _ _ _ hm
  obtain ⟨l, rfl, hF, hby⟩ := open_files_sized_b hsz (j := 0) rfl rfl h0
  obtain ⟨lo, rfl, hQ, hqb, hql⟩ := open_ops71_sized hsz (j := 2) rfl rfl h2
  clear hA0 hval0 hsz0 hsz
  refine (law_wacts a0 cap0 l s1 a2 cap2 lo W hF hby w1 hQ hqb hql).mono fun e W' ⟨he, bel⟩ => ?_
  subst he
  exact ⟨_, rfl, _, _, _, [], _, [], hW', trodAll_mk1 (shut_bool Try.underlying4 _), (trodAll_cons_mk (Below.trod laidOut (by kernel_rfl) (of_decide_eq_true (by kernel_rfl)) k0 bel lt0) (trodAll_cons_mk (shut_string Try.underlying9 w1) (trodAll_cons_mk (Below.trod laidOut (by kernel_rfl) (of_decide_eq_true (by kernel_rfl)) k2 bel lt2) trodAll_mk0))), rfl, bel.frame _, fun h => by cases h⟩

theorem over : Rows.walActsRow.holds Try.pinned (OpenSpec.ofChange Rows.walActsSpec) :=
  OpenClaim.holds_of_wide 10 Try.f10 rfl rfl rfl rfl rfl rfl rfl ⟨rfl, rfl, rfl, rfl, rfl⟩ rfl rfl rfl rfl rfl (by kernel_rfl) Try.func10 (by kernel_rfl)
    (of_decide_eq_true (by kernel_rfl)) (by unfold Func.isWrapper; first | (rw [if_pos (by decide +kernel)]; kernel_rfl) | (rw [if_neg (by decide +kernel)]; exact ⟨rfl, rfl⟩))
    (fun os started H enc _ => lifted os started H enc)

theorem proved : Rows.WalActsSaid := over
#print axioms proved
end Go.Proofs.Ytfaniohoplbdoaa.walActs
