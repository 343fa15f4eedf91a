/- The statement WalAgain. -/
import Derived.Test.YtfaniohoplbdoaaLe
import Derived.Test.YtfaniohoplbdoaaRows
import Derived.WalkKit
import Derived.ProofKit
import Derived.OpenShut
import Derived.ShutString
import Derived.ChangeOld
import Derived.Below
import Derived.SizedLaws
import Derived.Test.YtfaniohoplbdoaaWSized
namespace Go.Proofs.Ytfaniohoplbdoaa.My
open Go Go.RowKit Go.Proofs.YtfaniohoplbdoaaW.PrintWords Go.Proofs.YtfaniohoplbdoaaW.PrintLast Go.Proofs.YtfaniohoplbdoaaW.PrintMore Go.Proofs.Ytfaniohoplbdoaa.PDiskActs
set_option linter.unusedVariables false
set_option linter.unusedSimpArgs false
theorem bigW_false {l : List S109} {ops : List S71} (h : bigW l ops = false) : l.length ≤ 20 ∧ ops.length ≤ 40 ∧ byF l + byQ ops ≤ 2000 := by
  unfold bigW at h
  simp only [Bool.or_eq_false_iff, decide_eq_false_iff_not] at h
  omega
theorem large_nil {A : Option Addr} {c : Nat} {l : List S109} {w : World} (h : ArgF w A c l) : Calls Try.prog 39 #[.slice A l.length c, .slice none 0 0] w fun e w' => e = .returned (.bool (bigW l [])) ∧ Below w.heap.size w w' :=
  largeW_calls A c l none 0 [] w h.rd (Kd.C_nil _ _) h.data (by simp)
set_option maxHeartbeats 4000000 in
set_option maxRecDepth 100000 in
theorem law_again (A : Option Addr) (c : Nat) (l : List S109) (nm : ByteArray) (w : World) (hF : ArgF w A c l) (hby : BytF l) (hm : nm.size ≤ maxLen) :
    Calls Try.prog 17 #[.slice A l.length c, .string nm] w (TruePost w) := by
  have HBig := Aside0.mk (fun (W : World) (hB : Below w.heap.size w W) => large_nil (hF.move hB))
  cases hlo : loadOk l with
  | false =>
    have HLo := Aside0.mk (dload_no hF hlo)
    clear hlo hF
    go_enter Try.func17, Try.ntmps17
    go_wp2_with fail
    refine HLo.out.mono ?_
    rintro e w1 ⟨rfl, hB1⟩
    have HB1 := Aside0.mk hB1
    clear hB1
    go_wp2_with fail
    refine (works_wal w1).mono ?_
    rintro e w2 ⟨rfl, hB2⟩
    have HB2 := Aside0.mk (below_then HB1.out HB1.out.size hB2)
    clear hB2
    go_wp2_with fail
    go_ret
    exact ⟨rfl, HB2.out⟩
  | true =>
    have HLo := Aside0.mk (dload_yes hF hlo)
    clear hlo hF
    have hlen := loadL_length l
    have hbts := load_bytes l
    have hbl := hby.load
    obtain ⟨L0, hL0⟩ : ∃ L0, L0 = loadL l := ⟨_, rfl⟩
    rw [← hL0] at HLo hlen hbts hbl
    clear hL0
    have HBl := Aside0.mk hbl
    clear hbl hby
    go_enter Try.func17, Try.ntmps17
    go_wp2_with fail
    refine HLo.out.mono ?_
    rintro e w1 ⟨g, S, rfl, hD1, hS1, hB1⟩
    have HB1 := Aside0.mk hB1
    have HD1 := Aside0.mk hD1
    have HS1 := Aside0.mk hS1
    clear hB1 hD1 hS1 HLo
    go_wp2_with fail
    refine (HBig.out w1 HB1.out).mono ?_
    rintro e w2 ⟨rfl, hB2⟩
    have HD2 := Aside0.mk (HD1.out.move hB2)
    have HB2 := Aside0.mk (below_then HB1.out HB1.out.size hB2)
    clear hB2 HD1 HB1 HBig
    cases hbig : bigW l [] with
    | true =>
      clear hbig
      go_wp2_with fail
      refine (works_wal w2).mono ?_
      rintro e w3 ⟨rfl, hB3⟩
      have HB3 := Aside0.mk (below_then HB2.out HB2.out.size hB3)
      clear hB3
      go_wp2_with fail
      go_ret
      exact ⟨rfl, HB3.out⟩
    | false =>
      have hbd := bigW_false hbig
      have hq0 : byQ [] = 0 := rfl
      have HBd := Aside0.mk (show l.length ≤ 20 ∧ byF l ≤ 2000 by omega)
      have hb0 : byO [] = 0 := rfl
      have HZ0 := Aside0.mk (show Sz L0 [] l.length from ⟨by simp; omega, by simp; omega, by omega⟩)
      have HZo := Aside0.mk (show l.length + ([] : List S123).length + 3 ≤ 1000000 ∧ L0.length + ([] : List S123).length + 3 ≤ 1000000 ∧ 2 * (byF L0 + byO []) ≤ 1000000000 from ⟨by simp; omega, by simp; omega, by omega⟩)
      have HL20 := Aside0.mk (show L0.length ≤ 20 by omega)
      have HB2k := Aside0.mk (show byF L0 + byO [] ≤ 2000 by omega)
      clear hbig hbd hq0 hb0 hlen hbts
      have hv0 : ((([] : List S123).length : Int) == 0) = true := rfl
      cases hno : nameOk nm with
      | false =>
        go_wp2_with fail
        refine (wopen_bad w2 g nm hm hno).mono ?_
        rintro e w3 ⟨rfl, hB3⟩
        have HD3 := Aside0.mk (HD2.out.move hB3)
        have HB3 := Aside0.mk (below_then HB2.out HB2.out.size hB3)
        clear hB3 HD2 HB2
        go_wp2_with fail
        refine (sView w3 S g l.length L0 [] HD3.out HZ0.out).mono ?_
        rw [show viewL L0 [] = L0 from rfl]
        rintro e w4 ⟨⟨A4, c4, rfl, _, hC4⟩, hB4⟩
        have HC4 := Aside0.mk hC4
        have HD4 := Aside0.mk (HD3.out.move hB4)
        have HB4 := Aside0.mk (below_then HB3.out HB3.out.size hB4)
        clear hB4 hC4 HD3 HB3
        go_wp2_with fail
        refine (wopen_bad w4 g nm hm hno).mono ?_
        rintro e w5 ⟨rfl, hB5⟩
        have HD5 := Aside0.mk (HD4.out.move hB5)
        have HC5 := Aside0.mk (Kd.C_below HC4.out hB5)
        have HB5 := Aside0.mk (below_then HB4.out HB4.out.size hB5)
        clear hB5 HD4 HB4 HC4 hno
        go_wp2_with fail
        refine (lists36_true none 0 none 0 [] w5 (Kd.C_nil _ _) (Kd.C_nil _ _)).mono ?_
        rintro e w6 ⟨rfl, hd6⟩
        have hB6 := Drawn0.to_below hd6
        have HD6 := Aside0.mk (HD5.out.move hB6)
        have HC6 := Aside0.mk (Kd.C_below HC5.out hB6)
        have HB6 := Aside0.mk (below_then HB5.out HB5.out.size hB6)
        clear hd6 hB6 HD5 HB5 HC5
        go_wp2_with fail
        refine (sView w6 S g l.length L0 [] HD6.out HZ0.out).mono ?_
        rw [show viewL L0 [] = L0 from rfl]
        rintro e w7 ⟨⟨A7, c7, rfl, _, hC7⟩, hB7⟩
        have HC7 := Aside0.mk hC7
        have HC67 := Aside0.mk (Kd.C_below HC6.out hB7)
        have HD7 := Aside0.mk (HD6.out.move hB7)
        have HB7 := Aside0.mk (below_then HB6.out HB6.out.size hB7)
        clear hB7 hC7 HD6 HB6 HC6
        go_wp2_with fail
        refine (same_true A4 c4 A7 c7 L0 w7 HC67.out HC7.out).mono ?_
        rintro e w8 ⟨rfl, hd8⟩
        have hB8 := Drawn0.to_below hd8
        have HD8 := Aside0.mk (HD7.out.move hB8)
        have HB8 := Aside0.mk (below_then HB7.out HB7.out.size hB8)
        clear hd8 hB8 HD7 HB7 HC7 HC67
        go_wp2_with fail
        refine (sPending w8 S g l.length L0 [] HD8.out).mono ?_
        rintro e w9 ⟨rfl, h9⟩
        rw [h9]
        clear h9 w9
        go_wp2_with fail
        refine (works_wal w8).mono ?_
        rintro e w10 ⟨rfl, hB10⟩
        have HB10 := Aside0.mk (below_then HB8.out HB8.out.size hB10)
        clear hB10
        go_wp2_with fail
        go_ret
        exact ⟨rfl, HB10.out⟩
      | true =>
        have HBc := Aside0.mk (HBl.out.cont BytO.nil nm)
        have HOp := Aside0.mk (wopen_calls w2 S g l.length L0 [] nm HD2.out HZo.out hm hno HBc.out)
        obtain ⟨R, hR⟩ : ∃ R, R = recsL L0 [] nm := ⟨_, rfl⟩
        obtain ⟨r, hr⟩ : ∃ r, r = openL L0 [] l.length nm := ⟨_, rfl⟩
        have hro : r.2.1 = [] := by rw [hr]; exact (wopen_ops L0 [] l.length nm).elim id id
        have hcn := cont_open (n := l.length) hno HBc.out
        have hrs := recs_small (l := L0) (ops := []) (nm := nm) HBc.out
        have hln := open_len L0 [] l.length nm
        rw [← hR, ← hr] at HOp hcn
        rw [← hR] at hrs
        rw [← hr] at hln
        obtain ⟨L1, o1, n1⟩ := r
        replace hro : o1 = [] := hro
        subst hro
        have HAg := Aside0.mk (open_again (n := n1) hcn hrs)
        have HBc1 := Aside0.mk (show Byt (contL L1 [] nm) by
          rw [show contL L1 [] nm = framesL R from hcn]
          have h1 := (scan_full HBc.out).1
          rw [show (scanL (contL L0 [] nm)).1 = R from hR.symm] at h1
          rw [← h1]
          exact HBc.out.take _)
        have hz1 : n1 + ([] : List S123).length + 3 ≤ 1000000 ∧ L1.length + ([] : List S123).length + 3 ≤ 1000000 ∧ 2 * (byF L1 + byO []) ≤ 1000000000 := by
          obtain ⟨p1, p2, p3⟩ := hln
          obtain ⟨q1, q2, q3⟩ := HZo.out
          have h20 := HBd.out
          have h0 := HZ0.out.2.2
          have h3 : byF L0 + byO [] ≤ 2000 := HB2k.out
          have h20' := HL20.out
          dsimp only at p1 p2 p3
          simp only [List.length_nil, Nat.add_zero] at p1 p2 q1 q2 ⊢
          exact ⟨by omega, by omega, by omega⟩
        have HZ1 := Aside0.mk hz1
        have HZs := Aside0.mk (show Sz L1 [] n1 from ⟨by have := hz1.1; omega, by have := hz1.2.1; omega, by have := hz1.2.2; omega⟩)
        clear hcn hrs hln hR hr hz1
        go_wp2_with fail
        refine HOp.out.mono ?_
        rintro e w3 ⟨S3, lg, A3, c3, rfl, hD3, hC3, ⟨hL3, hlg, hnS⟩, hc3, hF3⟩
        have HD3 := Aside0.mk (show DSt w3 S3 g L1 [] n1 from hD3)
        have HB3 := Aside0.mk (wr_below HB2.out HB2.out.size HS1.out hC3.wr)
        have HS3 := Aside0.mk (show ∀ k, S3 k → w.heap.size ≤ k from fun k hk => (hC3.ex k hk).elim (fun h => HS1.out k h) (fun h => Nat.le_trans HB2.out.size h))
        have HF3 := Aside0.mk (Kd.F_bound hF3)
        clear hD3 hC3 hL3 hlg hnS hF3 HOp HD2 HB2 HS1
        go_wp2_with fail
        refine (sViewF w3 S3 g n1 L1 [] HD3.out HZs.out).mono ?_
        rw [show viewL L1 [] = L1 from rfl]
        rintro e w4 ⟨⟨A4, c4, rfl, _, hF4⟩, hB4⟩
        have HV4 := Aside0.mk (Kd.F_bound hF4)
        have HF4 := Aside0.mk (Kd.F_below HF3.out hB4)
        have HD4 := Aside0.mk (HD3.out.move hB4)
        have HB4 := Aside0.mk (below_then HB3.out HB3.out.size hB4)
        have HLt4 := Aside0.mk HD3.out.lt
        clear hB4 hF4 HD3 HB3
        have hop := wopen_calls w4 S3 g n1 L1 [] nm HD4.out HZ1.out hm hno HBc1.out
        rw [HAg.out.1, HAg.out.2] at hop
        have HOp2 := Aside0.mk hop
        clear hop
        go_wp2_with fail
        refine HOp2.out.mono ?_
        rintro e w5 ⟨S5, lg5, A5, c5, rfl, hD5, hC5, ⟨hL5, hlg5, hnS5⟩, hc5, hF5⟩
        have HD5 := Aside0.mk (show DSt w5 S5 g L1 [] n1 from hD5)
        have HB5 := Aside0.mk (wr_below HB4.out HB4.out.size HS3.out hC5.wr)
        have HF5 := Aside0.mk (Kd.F_step HF4.out (fun k hk hl => hC5.wr.2.2.2.2 k hl hk.1.2.1))
        have HV5 := Aside0.mk (Kd.F_step HV4.out (fun k hk hl => hC5.wr.2.2.2.2 k hl (fun h => by have := HLt4.out k h; have h2 : w3.heap.size ≤ k := hk.1; omega)))
        have HR5 := Aside0.mk hF5
        clear hD5 hC5 hL5 hlg5 hnS5 hF5 HOp2 HD4 HB4 HF4 HV4
        go_wp2_with fail
        refine (lists36_true A3 c3 A5 c5 R w5 (Kd.F_now HF5.out) (Kd.F_now HR5.out)).mono ?_
        rintro e w6 ⟨rfl, hd6⟩
        have hB6 := Drawn0.to_below hd6
        have HD6 := Aside0.mk (HD5.out.move hB6)
        have HV6 := Aside0.mk (Kd.F_below HV5.out hB6)
        have HB6 := Aside0.mk (below_then HB5.out HB5.out.size hB6)
        clear hd6 hB6 HD5 HB5 HV5 HF5 HR5
        go_wp2_with fail
        refine (sView w6 S5 g n1 L1 [] HD6.out HZs.out).mono ?_
        rw [show viewL L1 [] = L1 from rfl]
        rintro e w7 ⟨⟨A7, c7, rfl, _, hC7⟩, hB7⟩
        have HC7 := Aside0.mk hC7
        have HV7 := Aside0.mk (Kd.F_below HV6.out hB7)
        have HD7 := Aside0.mk (HD6.out.move hB7)
        have HB7 := Aside0.mk (below_then HB6.out HB6.out.size hB7)
        clear hB7 hC7 HD6 HB6 HV6
        go_wp2_with fail
        refine (same_true A4 c4 A7 c7 L1 w7 (Kd.F_now HV7.out) HC7.out).mono ?_
        rintro e w8 ⟨rfl, hd8⟩
        have hB8 := Drawn0.to_below hd8
        have HD8 := Aside0.mk (HD7.out.move hB8)
        have HB8 := Aside0.mk (below_then HB7.out HB7.out.size hB8)
        clear hd8 hB8 HD7 HB7 HC7 HV7
        go_wp2_with fail
        refine (sPending w8 S5 g n1 L1 [] HD8.out).mono ?_
        rintro e w9 ⟨rfl, h9⟩
        rw [h9]
        clear h9 w9
        go_wp2_with fail
        refine (works_wal w8).mono ?_
        rintro e w10 ⟨rfl, hB10⟩
        have HB10 := Aside0.mk (below_then HB8.out HB8.out.size hB10)
        clear hB10
        go_wp2_with fail
        go_ret
        exact ⟨rfl, HB10.out⟩
end Go.Proofs.Ytfaniohoplbdoaa.My
/- Records appended to a log: plain. -/
namespace Go.Proofs.Ytfaniohoplbdoaa.My
open Go Go.RowKit Go.Proofs.YtfaniohoplbdoaaW.PrintWords Go.Proofs.YtfaniohoplbdoaaW.PrintLast Go.Proofs.YtfaniohoplbdoaaW.PrintMore Go.Proofs.Ytfaniohoplbdoaa.PDiskActs
set_option linter.unusedVariables false
set_option linter.unusedSimpArgs false
abbrev nG : ByteArray := ⟨#[108, 111, 103]⟩
abbrev oG (b : List Int) : S123 := ⟨0, nG, n0, b⟩
theorem nameG : nameOk nG = true := by decide +kernel
def opsG (xs : List (List Int)) : List S123 := xs.map fun b => oG (frameL b)
theorem opsG_length (xs : List (List Int)) : (opsG xs).length = xs.length := by simp [opsG]
theorem opsG_snoc (xs : List (List Int)) (b : List Int) : (appendL (opsG xs) nG (frameL b)).1 = opsG (xs ++ [b]) := by
  unfold appendL
  rw [nameG]
  simp [opsG]
theorem opsG_bytes (xs : List (List Int)) : byO (opsG xs) = (framesL xs).length := by
  induction xs with
  | nil => rfl
  | cons b r ih =>
    rw [framesL_cons, List.length_append, ← ih]
    simp [opsG, byO]
theorem opsG_take (xs : List (List Int)) (k : Nat) : (opsG xs).take k = opsG (xs.take k) := by simp [opsG, List.map_take]
theorem cont_snoc (L : List S109) (ops : List S123) (f : List Int) : contL L (ops ++ [oG f]) nG = contL L ops nG ++ f := by
  unfold contL
  rw [view_snoc]
  show (findL (withL (viewL L ops) ⟨nG, (findL (viewL L ops) nG).getD [] ++ f⟩) nG).getD [] = _
  rw [find_with (viewL L ops) ⟨nG, (findL (viewL L ops) nG).getD [] ++ f⟩]
  rfl
theorem cont_opsG (L : List S109) : ∀ (n : Nat) (xs : List (List Int)), xs.length = n → contL L (opsG xs) nG = contL L [] nG ++ framesL xs
  | 0, xs, h => by
    have : xs = [] := List.eq_nil_of_length_eq_zero h
    subst this
    simp [opsG, framesL]
  | n + 1, xs, h => by
    have hne : xs ≠ [] := by intro e; rw [e] at h; cases h
    obtain ⟨ys, b, rfl⟩ : ∃ ys b, xs = ys ++ [b] := ⟨xs.dropLast, xs.getLast hne, (List.dropLast_concat_getLast hne).symm⟩
    have e : opsG (ys ++ [b]) = opsG ys ++ [oG (frameL b)] := by simp [opsG]
    rw [e, cont_snoc, cont_opsG L n ys (by simp at h; omega), framesL_append, List.append_assoc]
    simp [framesL]
/-- The files when the first K records were made durable. -/
def baseL (l : List (List Int)) (K : Nat) : List S109 := viewL [] (opsG (l.take K))
theorem cont_view (L : List S109) (ops : List S123) (nm : ByteArray) : contL (viewL L ops) [] nm = contL L ops nm := rfl
theorem cont_base (l : List (List Int)) (K : Nat) : contL (baseL l K) [] nG = framesL (l.take K) := by
  unfold baseL
  rw [cont_view, cont_opsG [] _ _ rfl]
  simp [contL, viewL, findL]
theorem cont_kept (l : List (List Int)) (K M : Nat) : contL (viewL (baseL l K) ((opsG (l.drop K)).take M)) [] nG = framesL (l.take (K + M)) := by
  rw [cont_view, opsG_take, cont_opsG _ _ _ rfl, cont_base, ← framesL_append, List.take_add]
theorem base_length (l : List (List Int)) (K : Nat) : (baseL l K).length ≤ l.length := by
  have h := viewL_length (opsG (l.take K)) []
  rw [opsG_length, List.length_take] at h
  unfold baseL
  simp at h
  omega
theorem crash_zero (L : List S109) (O : List S123) (keep : Int) : crashL L O keep 0 = viewL L (O.take (keepN keep O.length)) := by
  unfold crashL
  split
  · rw [if_neg (by simp)]
  · rfl
theorem crash_torn (L : List S109) (xs : List (List Int)) (t : Nat) : ∃ y : List Int, y.length ≤ t ∧ (Byt (framesL xs) → Byt y) ∧ contL (crashL L (opsG xs) 0 t) [] nG = contL L [] nG ++ y ∧ y.length ≤ (framesL xs).length := by
  have h0 : keepN 0 (opsG xs).length = 0 := by unfold keepN mx mn; omega
  cases xs with
  | nil =>
    refine ⟨[], by simp, fun _ => Byt.nil, ?_, by simp⟩
    unfold crashL
    rw [dif_neg (by rw [h0]; simp [opsG])]
    simp [opsG, viewL]
  | cons b r =>
    unfold crashL
    rw [dif_pos (by rw [h0]; simp [opsG])]
    simp only [h0]
    by_cases ht : 0 < t
    · refine ⟨(frameL b).take t, by rw [List.length_take]; omega, fun h => ?_, ?_, ?_⟩
      · rw [framesL_cons] at h
        exact h.left.take t
      · rw [if_pos ⟨by omega, rfl⟩]
        have e : tornL ((opsG (b :: r))[0]'(by simp [opsG])) (t : Int) = oG ((frameL b).take t) := by
          show (⟨0, nG, n0, (frameL b).take (mn (t : Int) ((frameL b).length : Int)).toNat⟩ : S123) = _
          have : (frameL b).take (mn (t : Int) ((frameL b).length : Int)).toNat = (frameL b).take t := by
            unfold mn
            split
            · rw [List.take_of_length_le (by omega), List.take_of_length_le (by omega)]
            · congr 1
          rw [this]
        rw [e]
        have := cont_snoc L [] ((frameL b).take t)
        exact this
      · rw [framesL_cons, List.length_append, List.length_take]
        omega
    · refine ⟨[], by simp, fun _ => Byt.nil, ?_, by simp⟩
      rw [if_neg (by omega)]
      simp [viewL]
theorem recs_tail {L : List S109} {ops : List S123} {R : List (List Int)} {y : List Int} (h : contL L ops nG = framesL R ++ y) (hy : y.length < 8) (hR : ∀ b ∈ R, b.length ≤ 1048576) : recsL L ops nG = R := by
  unfold recsL
  rw [h, scanL_frames R y hR, scanL_short hy]
  simp
theorem framesL_take_le (l : List (List Int)) (k : Nat) : (framesL (l.take k)).length ≤ (framesL l).length := by
  conv => rhs; rw [← List.take_append_drop k l, framesL_append, List.length_append]
  omega
theorem framesL_drop_le (l : List (List Int)) (k : Nat) : (framesL (l.drop k)).length ≤ (framesL l).length := by
  conv => rhs; rw [← List.take_append_drop k l, framesL_append, List.length_append]
  omega
end Go.Proofs.Ytfaniohoplbdoaa.My
/- The statement WalDurable. -/
namespace Go.Proofs.Ytfaniohoplbdoaa.My
open Go Go.RowKit Go.Proofs.YtfaniohoplbdoaaW.PrintWords Go.Proofs.YtfaniohoplbdoaaW.PrintLast Go.Proofs.YtfaniohoplbdoaaW.PrintMore Go.Proofs.Ytfaniohoplbdoaa.PDiskActs
set_option linter.unusedVariables false
set_option linter.unusedSimpArgs false
theorem open_none (nm : ByteArray) : openL [] [] 0 nm = ([], [], 0) ∧ recsL [] [] nm = [] ∧ contL [] [] nm = [] := by
  have : contL [] [] nm = [] := by simp [contL, viewL, findL]
  unfold openL recsL
  rw [this, scanL_short (by simp)]
  exact ⟨rfl, rfl, rfl⟩
theorem tot_bound {l : List (List Int)} {m : Nat} (h : ∀ f ∈ l, f.length ≤ m) : tot l ≤ l.length * m := by
  induction l with
  | nil => simp [tot]
  | cons f l ih =>
    have h1 := ih fun x hx => h x (List.mem_cons_of_mem _ hx)
    have h2 := h f List.mem_cons_self
    simp only [tot, List.map_cons, List.sum_cons, List.length_cons] at h1 ⊢
    rw [Nat.add_mul]
    omega
theorem tot_mem {l : List (List Int)} {b : List Int} (h : b ∈ l) : b.length ≤ tot l := by
  obtain ⟨s, t, rfl⟩ := List.append_of_mem h
  simp [tot]
  omega
/-- A disk with a log on it, in a statement's loop. -/
structure LG (base : Nat) (w : World) (g lg : Nat) (S : Nat → Prop) (L : List S109) (O : List S123) (n r b : Nat) : Prop where
  d : DSt w S g L O n
  lgb : w.heap[lg]? = some (.cells (logC r b g nG) 105 (0, 0))
  lgn : ¬ S lg
  sb : ∀ k, S k → base ≤ k
  lb : base ≤ lg
theorem LG.move {base : Nat} {w w' : World} {g lg : Nat} {S : Nat → Prop} {L : List S109} {O : List S123} {n r b : Nat} (h : LG base w g lg S L O n r b) (hB : Below w.heap.size w w') : LG base w' g lg S L O n r b := ⟨h.d.move hB, (hB.block _ (blk_lt h.lgb)).trans h.lgb, h.lgn, h.sb, h.lb⟩
theorem LG.next {base : Nat} {w w' : World} {g lg : Nat} {S : Nat → Prop} {L L' : List S109} {O O' : List S123} {n n' r b : Nat} (h : LG base w g lg S L O n r b) (hb : base ≤ w.heap.size) (hD : DSt w' (ext S w w') g L' O' n') (hW : Wr w w' S) : LG base w' g lg (ext S w w') L' O' n' r b :=
  ⟨hD, (hW.2.2.2.2 _ (blk_lt h.lgb) h.lgn).trans h.lgb, fun hk => hk.1.elim h.lgn (fun h' => by have := blk_lt h.lgb; omega), fun k hk => hk.1.elim (h.sb k) (fun h' => by omega), h.lb⟩
theorem LG.app {base : Nat} {w w' : World} {g lg : Nat} {S S' : Nat → Prop} {L : List S109} {O O' : List S123} {n r b r' b' : Nat} (h : LG base w g lg S L O n r b) (hb : base ≤ w.heap.size) (hD : DSt w' S' g L O' n) (hl : w'.heap[lg]? = some (.cells (logC r' b' g nG) 105 (0, 0))) (hs : ∀ k, S' k → S k ∨ w.heap.size ≤ k) (hn : ¬ S' lg) : LG base w' g lg S' L O' n r' b' :=
  ⟨hD, hl, hn, fun k hk => (hs k hk).elim (h.sb k) (fun h' => by omega), h.lb⟩
theorem LG.below {base : Nat} {w0 w w' : World} {g lg : Nat} {S : Nat → Prop} {L : List S109} {O : List S123} {n r b : Nat} (h : LG base w g lg S L O n r b) (hB : Below base w0 w) (hb : base ≤ w.heap.size) (hW : Wr w w' (fun k => S k ∨ k = lg)) : Below base w0 w' := wr_below hB hb (fun k hk => hk.elim (h.sb k) (fun e => by rw [e]; exact h.lb)) hW
theorem LG.below1 {base : Nat} {w0 w w' : World} {g lg : Nat} {S : Nat → Prop} {L : List S109} {O : List S123} {n r b : Nat} (h : LG base w g lg S L O n r b) (hB : Below base w0 w) (hb : base ≤ w.heap.size) (hW : Wr w w' S) : Below base w0 w' := wr_below hB hb h.sb hW
theorem cutL_from (A : Option Addr) (c : Nat) (l : List (List Int)) (lo : Nat) (j : Int) (hj : j = (lo : Int)) (hc : l.length ≤ c) (h : lo ≤ l.length) :
    ∃ A', (∀ W : World, (Instr.slice 38 (.slice A l.length c) (some (.int .i64 j)) none none).run Try.prog W = .ok (.slice A' (l.drop lo).length (c - lo)) W) ∧ ∀ w, CL w A l → CL w A' (l.drop lo) := by
  subst hj
  obtain ⟨i0, hi0, _, hsz, _⟩ := info_parts info22'
  have h1 := cut_from (P := Try.prog) 38 22 .i64 Try.underlying38 hi0 1 hsz A l.length c (lo : Int) (by omega) (by omega)
  rw [Int.toNat_natCast] at h1
  refine ⟨_, fun W => ?_, fun w hC => Kd.C_drop hC h hc⟩
  rw [h1 W, List.length_drop]
  rfl
abbrev GPost (base : Nat) (w0 : World) (g lg : Nat) (L : List S109) (O : List S123) (n r b : Nat) (v : Value) : Ending → World → Prop := fun e w' => e = .returned v ∧ Below base w0 w' ∧ ∃ S, LG base w' g lg S L O n r b
theorem LG.append_ {base : Nat} {w0 w : World} {g lg : Nat} {S : Nat → Prop} {L : List S109} {O : List S123} {n r b : Nat} (h : LG base w g lg S L O n r b) (hb : base ≤ w.heap.size) (hB : Below base w0 w) (hz : Sz L O n) {B : Option Addr} {d : Nat} {y : List Int} (hC : CB w B y) (hd : y.length ≤ d) (hy : Byt y) (hyl : y.length ≤ 1048576) (hr : r ≤ 1099511627776) (hbb : b ≤ 1099511627776) :
    Calls Try.prog 33 #[.pointer (some ⟨lg, 0, none⟩), .slice B y.length d] w (GPost base w0 g lg L (appendL O nG (frameL y)).1 n (r + 1) (b + (y.length + 8)) (.int .i64 0)) := by
  refine (wappend_calls w S lg r b g n nG L O B d y h.d hz h.lgb h.lgn hC hd hy hyl (by decide) hr hbb).mono ?_
  rintro e w' ⟨S', rfl, hD, hl, hs, hW, hn⟩
  exact ⟨rfl, h.below hB hb hW, S', h.app hb hD hl hs hn⟩
theorem LG.sync_ {base : Nat} {w0 w : World} {g lg : Nat} {S : Nat → Prop} {L : List S109} {O : List S123} {n r b : Nat} (h : LG base w g lg S L O n r b) (hb : base ≤ w.heap.size) (hB : Below base w0 w) (hz : Sz L O n) :
    Calls Try.prog 31 #[.pointer (some ⟨lg, 0, none⟩)] w (GPost base w0 g lg (viewL L O) [] (n + O.length) r b (.tuple #[])) := by
  refine (lsync_calls w lg r b g nG h.lgb S n L O h.d hz).mono ?_
  rintro e w' ⟨rfl, hD, hW⟩
  exact ⟨rfl, h.below1 hB hb hW, _, h.next hb hD hW⟩
theorem LG.crash_ {base : Nat} {w0 w : World} {g lg : Nat} {S : Nat → Prop} {L : List S109} {O : List S123} {n r b : Nat} (keep torn : Int) (h : LG base w g lg S L O n r b) (hb : base ≤ w.heap.size) (hB : Below base w0 w) (hz : Sz L O n) :
    Calls Try.prog 49 #[.pointer (some ⟨g, 0, none⟩), .int .i64 keep, .int .i64 torn] w (GPost base w0 g lg (crashL L O keep torn) [] (n + O.length) r b (.tuple #[])) := by
  refine (sCrash w S g n L O keep torn h.d hz).mono ?_
  rintro e w' ⟨rfl, hD, hW⟩
  exact ⟨rfl, h.below1 hB hb hW, _, h.next hb hD hW⟩
theorem LG.open_ {base : Nat} {w0 w : World} {g lg : Nat} {S : Nat → Prop} {L : List S109} {O : List S123} {n r b : Nat} (h : LG base w g lg S L O n r b) (hb : base ≤ w.heap.size) (hB : Below base w0 w)
    (hz : n + O.length + 3 ≤ 1000000 ∧ L.length + O.length + 3 ≤ 1000000 ∧ 2 * (byF L + byO O) ≤ 1000000000) (hby : Byt (contL L O nG)) {R : List (List Int)} (hR : recsL L O nG = R) {L' : List S109} {O' : List S123} {n' : Nat} (hO : openL L O n nG = (L', O', n')) :
    Calls Try.prog 32 #[.pointer (some ⟨g, 0, none⟩), .string nG] w fun e w' => ∃ lg' A c, e = .returned (.tuple #[.pointer (some ⟨lg', 0, none⟩), .slice A R.length c, .int .i64 0]) ∧ Below base w0 w' ∧ (∃ S', LG base w' g lg' S' L' O' n' R.length (framesL R).length) ∧ R.length ≤ c ∧ CL w' A R := by
  have h1 := wopen_calls w S g n L O nG h.d hz (by decide) nameG hby
  rw [hR, hO] at h1
  refine h1.mono ?_
  rintro e w' ⟨S', lg', A, c, rfl, hD, hC, ⟨hl, hlg, hn⟩, hc, hF⟩
  exact ⟨lg', A, c, rfl, wr_below hB hb h.sb hC.wr, ⟨S', hD, hl, hn, fun k hk => (hC.ex k hk).elim (fun h' => h.sb k h') (fun h' => Nat.le_trans hb h'), Nat.le_trans hb hlg⟩, hc, Kd.F_now (Kd.F_bound hF)⟩
def stL (l : List (List Int)) (K j : Nat) : List S109 := if j ≤ K then [] else baseL l K
def stO (l : List (List Int)) (K j : Nat) : List S123 := if j ≤ K then opsG (l.take j) else opsG ((l.take j).drop K)
def stN (K j : Nat) : Nat := if j ≤ K then 0 else K
theorem stO_next {l : List (List Int)} {K j : Nat} (hj : j < l.length) : (j < K → stL l K (j + 1) = [] ∧ stO l K (j + 1) = opsG (l.take j ++ [l[j]]) ∧ stN K (j + 1) = 0) ∧ (K ≤ j → stL l K (j + 1) = baseL l K ∧ stO l K (j + 1) = opsG ((l.take j).drop K ++ [l[j]]) ∧ stN K (j + 1) = K) := by
  unfold stL stO stN
  constructor
  · intro h
    rw [if_pos (by omega), if_pos (by omega), if_pos (by omega), List.take_succ_eq_append_getElem hj]
    exact ⟨rfl, rfl, rfl⟩
  · intro h
    rw [if_neg (by omega), if_neg (by omega), if_neg (by omega), List.take_succ_eq_append_getElem hj, List.drop_append_of_le_length (by rw [List.length_take]; omega)]
    exact ⟨rfl, rfl, rfl⟩
theorem CL.all_ {w : World} {A : Option Addr} {l : List (List Int)} (h : CL w A l) (j : Nat) (hj : j < l.length) :
    ∃ ad B d, A = some ad ∧ l[j].length ≤ d ∧ ∀ W, Below w.heap.size w W → W.cell? (ad.add j) = some (.slice B l[j].length d) ∧ CB W B l[j] := by
  obtain ⟨ad, B, d, e, hc, hd, hC⟩ := CL.at_ h j hj
  exact ⟨ad, B, d, e, hd, fun W hB => ⟨cell_of_below hB hc, Kd.C_below hC hB⟩⟩
theorem st_step {l : List (List Int)} {K j : Nat} (hj : j < l.length) (hne : j ≠ K) : stL l K (j + 1) = stL l K j ∧ stO l K (j + 1) = (appendL (stO l K j) nG (frameL l[j])).1 ∧ stN K (j + 1) = stN K j := by
  have h := stO_next (K := K) hj
  by_cases hk : j < K
  · obtain ⟨h1, h2, h3⟩ := h.1 hk
    rw [h1, h2, h3]
    unfold stL stO stN
    rw [if_pos (by omega), if_pos (by omega), if_pos (by omega), opsG_snoc]
    exact ⟨rfl, rfl, rfl⟩
  · obtain ⟨h1, h2, h3⟩ := h.2 (by omega)
    rw [h1, h2, h3]
    unfold stL stO stN
    rw [if_neg (by omega), if_neg (by omega), if_neg (by omega), opsG_snoc]
    exact ⟨rfl, rfl, rfl⟩
theorem st_sync {l : List (List Int)} {K : Nat} (hK : K ≤ l.length) : viewL (stL l K K) (stO l K K) = baseL l K ∧ stN K K + (stO l K K).length = K := by
  unfold stL stO stN
  rw [if_pos (Nat.le_refl _), if_pos (Nat.le_refl _), if_pos (Nat.le_refl _), opsG_length, List.length_take]
  exact ⟨rfl, by omega⟩
theorem st_first {l : List (List Int)} {K : Nat} (hj : K < l.length) : stL l K (K + 1) = baseL l K ∧ stO l K (K + 1) = (appendL [] nG (frameL l[K])).1 ∧ stN K (K + 1) = K := by
  obtain ⟨h1, h2, h3⟩ := (stO_next (K := K) hj).2 (Nat.le_refl _)
  rw [h1, h2, h3]
  refine ⟨rfl, ?_, rfl⟩
  have : ([] : List S123) = opsG [] := rfl
  rw [this, opsG_snoc, List.drop_of_length_le (by rw [List.length_take]; omega)]
theorem fr_step {l : List (List Int)} {j : Nat} (hj : j < l.length) : (framesL (l.take (j + 1))).length = (framesL (l.take j)).length + (l[j].length + 8) := by
  rw [List.take_succ_eq_append_getElem hj, framesL_append, List.length_append]
  simp [framesL_length, tot]
  omega
theorem st_end {l : List (List Int)} {K : Nat} (hK : K < l.length) : stL l K l.length = baseL l K ∧ stO l K l.length = opsG (l.drop K) ∧ stN K l.length = K := by
  unfold stL stO stN
  rw [if_neg (by omega), if_neg (by omega), if_neg (by omega), List.take_length]
  exact ⟨rfl, rfl, rfl⟩
theorem kept_facts {l : List (List Int)} {K q : Nat} (keep torn : Int) (hK : K ≤ l.length) (hq : q = l.length - K) (hT : (framesL l).length ≤ 2480) (hl : l.length ≤ 60) (hsm : ∀ b ∈ l, b.length ≤ 1048576) (hb : ∀ b ∈ l, Byt b) :
    ∃ (M : Nat) (m1 m2 : Int) (L2 : List S109) (T : Nat) (L3 : List S109),
      M ≤ q ∧ (∀ ats ty, Builtin.min_ ats ty #[.int .i64 keep, .int .i64 (q : Int)] = pure (.int .i64 m1)) ∧ (∀ ats ty, Builtin.max_ ats ty #[.int .i64 0, .int .i64 m1] = pure (.int .i64 (M : Int)))
      ∧ (∀ ats ty, Builtin.max_ ats ty #[.int .i64 torn, .int .i64 0] = pure (.int .i64 m2)) ∧ (∀ ats ty, Builtin.min_ ats ty #[.int .i64 m2, .int .i64 7] = pure (.int .i64 (T : Int)))
      ∧ crashL (baseL l K) (opsG (l.drop K)) keep 0 = L2 ∧ (opsG (l.drop K)).length = q ∧ Sz (baseL l K) (opsG (l.drop K)) K
      ∧ (K + q + ([] : List S123).length + 3 ≤ 1000000 ∧ L2.length + ([] : List S123).length + 3 ≤ 1000000 ∧ 2 * (byF L2 + byO []) ≤ 1000000000) ∧ Byt (contL L2 [] nG) ∧ recsL L2 [] nG = l.take (K + M) ∧ openL L2 [] (K + q) nG = (L2, [], K + q)
      ∧ (∀ j, j ≤ (l.drop (K + M)).length → Sz L2 (opsG ((l.drop (K + M)).take j)) (K + q)) ∧ crashL L2 (opsG (l.drop (K + M))) 0 (T : Int) = L3
      ∧ (K + q + (opsG (l.drop (K + M))).length + ([] : List S123).length + 3 ≤ 1000000 ∧ L3.length + ([] : List S123).length + 3 ≤ 1000000 ∧ 2 * (byF L3 + byO []) ≤ 1000000000) ∧ Byt (contL L3 [] nG) ∧ recsL L3 [] nG = l.take (K + M)
      ∧ ∀ j, (framesL (l.take (K + M))).length + (framesL ((l.drop (K + M)).take j)).length ≤ 2480 := by
  have hql : (opsG (l.drop K)).length = q := by rw [opsG_length, List.length_drop]; omega
  obtain ⟨m1, hmin1, hmax1⟩ := clampK keep q
  have hM := keepN_le keep q
  have hcr := crash_zero (baseL l K) (opsG (l.drop K)) keep
  have e6 := crash_length (baseL l K) (opsG (l.drop K)) keep 0
  have e7 := crash_bytes (baseL l K) (opsG (l.drop K)) keep 0
  rw [hql] at hcr e6
  generalize keepN keep q = M at hmax1 hM hcr
  have hcn := cont_kept l K M
  obtain ⟨L2, hL2⟩ : ∃ L2, L2 = crashL (baseL l K) (opsG (l.drop K)) keep 0 := ⟨_, rfl⟩
  rw [← hcr, ← hL2] at hcn
  rw [← hL2] at e6 e7
  obtain ⟨m2, hmax2, hmin2⟩ := clampD torn 7
  have hT7 := keepN_le torn 7
  generalize keepN torn 7 = T at hmin2 hT7
  obtain ⟨y, y1, y2, y3, y4⟩ := crash_torn L2 (l.drop (K + M)) T
  have e8 := crash_length L2 (opsG (l.drop (K + M))) 0 (T : Int)
  have e9 := crash_bytes L2 (opsG (l.drop (K + M))) 0 (T : Int)
  obtain ⟨L3, hL3⟩ : ∃ L3, L3 = crashL L2 (opsG (l.drop (K + M))) 0 (T : Int) := ⟨_, rfl⟩
  rw [← hL3] at y3 e8 e9
  rw [hcn] at y3
  have a1 := base_length l K
  have a2 : byF (baseL l K) ≤ byF [] + byO (opsG (l.take K)) := byF_viewL (opsG (l.take K)) []
  rw [opsG_bytes, show byF [] = 0 from rfl] at a2
  have a3 := framesL_take_le l K
  rw [opsG_bytes] at e7 e9
  rw [opsG_length, List.length_drop] at e8
  have a4 := framesL_drop_le l K
  have a5 := framesL_drop_le l (K + M)
  have hbt : Byt (framesL (l.take (K + M))) := framesL_byt fun b h => hb b (List.mem_of_mem_take h)
  have hbd : Byt (framesL (l.drop (K + M))) := framesL_byt fun b h => hb b (List.mem_of_mem_drop h)
  have hst : ∀ b ∈ l.take (K + M), b.length ≤ 1048576 := fun b h => hsm b (List.mem_of_mem_take h)
  have hag := open_again (n := K + q) hcn hst
  have hb0 : byO [] = 0 := rfl
  refine ⟨M, m1, m2, L2, T, L3, hM, hmin1, hmax1, hmax2, hmin2, hL2.symm, hql, ⟨by omega, by omega, by rw [opsG_bytes]; omega⟩, ⟨by simp only [List.length_nil]; omega, by simp only [List.length_nil]; omega, by omega⟩, by rw [hcn]; exact hbt, hag.2, hag.1, fun j hj => ?_, hL3.symm, ⟨by rw [opsG_length, List.length_drop]; simp only [List.length_nil]; omega, by simp only [List.length_nil]; omega, by omega⟩, by rw [y3]; exact hbt.append (y2 hbd), recs_tail y3 (by omega) hst, fun j => ?_⟩
  · have b1 := framesL_take_le (l.drop (K + M)) j
    refine ⟨?_, ?_, ?_⟩
    · rw [opsG_length, List.length_take, List.length_drop]; omega
    · rw [opsG_length, List.length_take, List.length_drop]; omega
    · rw [opsG_bytes]; omega
  · have b1 := framesL_take_le (l.drop (K + M)) j
    have b2 : (framesL l).length = (framesL (l.take (K + M))).length + (framesL (l.drop (K + M))).length := by
      conv => lhs; rw [← List.take_append_drop (K + M) l, framesL_append, List.length_append]
    omega

set_option maxHeartbeats 4000000 in
set_option maxRecDepth 100000 in
theorem law_durable (A : Option Addr) (c : Nat) (l : List (List Int)) (synced keep torn : Int) (w : World) (hC : CL w A l) (hc : l.length ≤ c) (hb : ∀ b ∈ l, Byt b) (h1 : l.length ≤ 140737488351232) (h2 : ∀ b ∈ l, b.length ≤ 140737488351232) :
    Calls Try.prog 11 #[.slice A l.length c, .int .i64 synced, .int .i64 keep, .int .i64 torn] w (TruePost w) := by
  have hGm : nG.size ≤ maxLen := by decide
  have HC := Aside0.mk (fun (W : World) (hB : Below w.heap.size w W) => (Kd.C_below hC hB : CL W A l))
  have HB := Aside0.mk hb
  have H2 := Aside0.mk h2
  clear hC hb h2
  go_enter Try.func11, Try.ntmps11
  go_wp2_with fail
  go_loopw [9, 27] (fun n i wz => ∃ (x : Int) (k : Nat), k ≤ l.length ∧ n = .int .i64 x ∧ i = .int .i64 k ∧ Aside0 (l.length ≤ 60 → x = (tot (l.take k) : Int)) ∧ wz = w) (fun _ i _ => l.length - (intOf i).toNat)
  case atStart => exact ⟨0, 0, by omega, rfl, rfl, ⟨fun _ => by simp [tot]⟩, rfl⟩
  case round =>
    obtain ⟨x, k, hk, rfl, rfl, HX, hw⟩ := hrel
    obtain rfl := hw.symm
    by_cases hlt : k < l.length
    · obtain ⟨ad, B, d, rfl, hc0, hd, hCB⟩ := CL.at_ (HC.out _ (Below.refl _ _)) k hlt
      have HTs := Aside0.mk (tot_take_succ hlt)
      have HTb := Aside0.mk (tot_bound (l := l.take (k + 1)) (m := 140737488351232) (fun f hf => H2.out f (List.mem_of_mem_take hf)))
      have hln := H2.out l[k] (List.getElem_mem hlt)
      obtain ⟨y, hy⟩ : ∃ y, y = l[k] := ⟨_, rfl⟩
      rw [← hy] at hc0 hd hln HTs
      have HX2 := Aside0.mk (show l.length ≤ 60 → wrap64 (x + (y.length : Int)) = (tot (l.take (k + 1)) : Int) by
        intro h60
        have e := HX.out h60
        have h1 := HTb.out
        have h2 := HTs.out
        rw [List.length_take] at h1
        have h3 : min (k + 1) l.length * 140737488351232 ≤ 60 * 140737488351232 := Nat.mul_le_mul_right _ (by omega)
        rw [e, h2]
        unfold wrap64
        omega)
      clear hy hCB HTb HTs
      go_wp2
      go_roundw
      case rel => exact ⟨_, k + 1, by omega, rfl, by go_num, HX2, by first | rfl | trivial⟩
      case measure => simp [intOf]; omega
    · obtain rfl : k = l.length := by omega
      rw [List.take_length] at HX
      go_wp2_with fail
      refine (sNew w).mono ?_
      rintro e w1 ⟨g, rfl, hD1, hB1⟩
      have HD1 := Aside0.mk hD1
      have HB1 := Aside0.mk hB1
      obtain ⟨S1, hS1⟩ : ∃ S1, S1 = ext (fun _ => False) w w1 := ⟨_, rfl⟩
      have HS1 := Aside0.mk (show ∀ k, S1 k → w.heap.size ≤ k by rw [hS1]; intro k hk; exact hk.1.elim (fun h => h.elim) id)
      rw [← hS1] at HD1
      clear hD1 hB1 hS1
      go_wp2_with fail
      refine (wopen_calls w1 S1 g 0 [] [] nG HD1.out ⟨by decide, by decide, by decide⟩ hGm nameG (by rw [(open_none nG).2.2]; exact Byt.nil)).mono ?_
      rw [(open_none nG).1, (open_none nG).2.1]
      rintro e w2 ⟨S2, lg, A2, c2, rfl, hD2, hC2, ⟨hL2, hlg, hnS⟩, hc2, _⟩
      have HB2 := Aside0.mk (wr_below HB1.out HB1.out.size HS1.out hC2.wr)
      have HL2 := Aside0.mk (show LG w.heap.size w2 g lg S2 [] [] 0 0 0 from ⟨hD2, hL2, hnS, fun k hk => (hC2.ex k hk).elim (fun h => HS1.out k h) (fun h => Nat.le_trans HB1.out.size h), Nat.le_trans HB1.out.size hlg⟩)
      clear hD2 hC2 hL2 hlg hnS HD1 HB1 HS1
      by_cases hx : 2000 < x
      · go_wp2_with fail
        refine (works_wal w2).mono ?_
        rintro e w3 ⟨rfl, hB3⟩
        have HB3 := Aside0.mk (below_then HB2.out HB2.out.size hB3)
        clear hB3
        go_wp2_with fail
        go_ret
        exact ⟨rfl, HB3.out⟩
      by_cases h60 : 60 < l.length
      · go_wp2_with fail
        refine (works_wal w2).mono ?_
        rintro e w3 ⟨rfl, hB3⟩
        have HB3 := Aside0.mk (below_then HB2.out HB2.out.size hB3)
        clear hB3
        go_wp2_with fail
        go_ret
        exact ⟨rfl, HB3.out⟩
      have HTot := Aside0.mk (show tot l ≤ 2000 by have := HX.out (by omega); omega)
      have HFl := Aside0.mk (show (framesL l).length ≤ 2480 by rw [framesL_length]; have := HTot.out; omega)
      have HSm := Aside0.mk (show ∀ b ∈ l, b.length ≤ 1048576 from fun b hb => by have := tot_mem hb; have := HTot.out; omega)
      obtain ⟨m0, hmin, hmax⟩ := clampK synced l.length
      have hKl := keepN_le synced l.length
      generalize keepN synced l.length = K at hmax hKl
      have HZs := Aside0.mk (show ∀ j, j ≤ l.length → Sz (stL l K j) (stO l K j) (stN K j) ∧ Sz [] (opsG (l.take j)) 0 ∧ Sz (baseL l K) (opsG ((l.take j).drop K)) K from fun j hj => by
        have e1 := opsG_bytes (l.take j)
        have e2 := opsG_bytes ((l.take j).drop K)
        have e3 := opsG_length (l.take j)
        have e4 := opsG_length ((l.take j).drop K)
        have e5 := base_length l K
        have e6 := byF_viewL (opsG (l.take K)) []
        have e7 := opsG_bytes (l.take K)
        have e8 := framesL_take_le l j
        have e9 := framesL_take_le l K
        have e10 := framesL_drop_le (l.take j) K
        have e11 : byF (baseL l K) ≤ byF [] + byO (opsG (l.take K)) := e6
        have e12 : byF [] = 0 := rfl
        have e13 := HFl.out
        rw [List.length_take] at e3
        rw [List.length_drop, List.length_take] at e4
        have a1 : Sz [] (opsG (l.take j)) 0 := ⟨by omega, by simp only [List.length_nil]; omega, by omega⟩
        have a2 : Sz (baseL l K) (opsG ((l.take j).drop K)) K := ⟨by omega, by omega, by omega⟩
        refine ⟨?_, a1, a2⟩
        unfold stL stO stN
        split
        · exact a1
        · exact a2)
      clear HX
      go_wp2_with fail
      go_loopw [70] (fun i wq => ∃ j : Nat, j ≤ l.length ∧ i = .int .i64 j ∧ Aside0 (Below w.heap.size w wq) ∧ Aside0 (∃ S, LG w.heap.size wq g lg S (stL l K j) (stO l K j) (stN K j) j (framesL (l.take j)).length)) (fun i _ => l.length - (intOf i).toNat)
      case atStart => exact ⟨0, by omega, rfl, HB2, ⟨S2, HL2.out⟩⟩
      case round =>
        obtain ⟨j, hj, rfl, HQ, HLe⟩ := hrel
        by_cases hlt : j < l.length
        · have hCb := CL.all_ (HC.out _ (Below.refl _ _)) j hlt
          have hyb := HB.out l[j] (List.getElem_mem hlt)
          have hyl := HSm.out l[j] (List.getElem_mem hlt)
          have hfr := framesL_take_le l j
          have hfb := HFl.out
          have HFs := Aside0.mk (fr_step hlt)
          have hzs := HZs.out j hj
          have hbb : (framesL (l.take j)).length ≤ 1099511627776 := by omega
          have hjb : j ≤ 1099511627776 := by omega
          obtain ⟨S, hL⟩ := HLe.out
          clear HLe
          by_cases hjk : j = K
          · subst hjk
            have hst := st_sync hKl
            have hsf := st_first (l := l) hlt
            obtain ⟨ad, B, d, rfl, hd, hW⟩ := hCb
            have hS1 := hL.sync_ HQ.out.size HQ.out hzs.1
            rw [hst.1, hst.2] at hS1
            have HS1 := Aside0.mk hS1
            have HZ2 := Aside0.mk (show Sz (baseL l j) [] j by
              obtain ⟨q1, q2, q3⟩ := hzs.2.2
              exact ⟨by simp only [List.length_nil]; omega, by simp only [List.length_nil]; omega, by rw [show byO [] = 0 from rfl]; omega⟩)
            have HAs := Aside0.mk (fun (W : World) (hB : Below w.heap.size w W) (h : ∃ S', LG w.heap.size W g lg S' (baseL l j) [] j j (framesL (l.take j)).length) => show W.cell? (ad.add j) = some (.slice B l[j].length d) ∧ Calls Try.prog 33 #[.pointer (some ⟨lg, 0, none⟩), .slice B l[j].length d] W (GPost w.heap.size w g lg (stL l j (j + 1)) (stO l j (j + 1)) (stN j (j + 1)) (j + 1) (framesL (l.take (j + 1))).length (.int .i64 0)) by
              obtain ⟨S', h'⟩ := h
              obtain ⟨h1, h2⟩ := hW W hB
              rw [hsf.1, hsf.2.1, hsf.2.2, HFs.out]
              exact ⟨h1, h'.append_ hB.size hB HZ2.out h2 hd hyb hyl hjb hbb⟩)
            have hc0 := (hW _ HQ.out).1
            clear hst hsf hW hL hzs hfr hfb HFs hbb hjb hyb hyl hS1 HZ2
            go_wp2_with fail
            refine HS1.out.mono ?_
            rintro e w8 ⟨rfl, hB8, hL8⟩
            have HB8 := Aside0.mk hB8
            obtain ⟨hc8, hA⟩ := HAs.out w8 hB8 hL8
            have HA := Aside0.mk hA
            clear hB8 hL8 hA HS1 HAs hc0
            go_wp2_with fail
            refine HA.out.mono ?_
            rintro e w9 ⟨rfl, hB9, hL9⟩
            have HB9 := Aside0.mk hB9
            have HL9 := Aside0.mk hL9
            clear hB9 hL9 HA
            go_wp2_with fail
            go_roundw
            case rel => exact ⟨j + 1, by omega, by go_num, HB9, HL9⟩
            case measure => simp [intOf]; omega
          · have hst := st_step (K := K) hlt hjk
            obtain ⟨ad, B, d, rfl, hd, hW⟩ := hCb
            obtain ⟨hc0, hCB⟩ := hW _ HQ.out
            have hjK : ¬ ((j : Int) = (K : Int)) := by omega
            have HA := Aside0.mk (show Calls Try.prog 33 #[.pointer (some ⟨lg, 0, none⟩), .slice B l[j].length d] wr (GPost w.heap.size w g lg (stL l K (j + 1)) (stO l K (j + 1)) (stN K (j + 1)) (j + 1) (framesL (l.take (j + 1))).length (.int .i64 0)) by
              rw [hst.1, hst.2.1, hst.2.2, HFs.out]
              exact hL.append_ HQ.out.size HQ.out hzs.1 hCB hd hyb hyl hjb hbb)
            clear hst hCB hW hL hzs hfr hfb HFs hbb hjb hyb hyl
            go_wp2_with fail
            refine HA.out.mono ?_
            rintro e w9 ⟨rfl, hB9, hL9⟩
            have HB9 := Aside0.mk hB9
            have HL9 := Aside0.mk hL9
            clear hB9 hL9 HA
            go_wp2_with fail
            go_roundw
            case rel => exact ⟨j + 1, by omega, by go_num, HB9, HL9⟩
            case measure => simp [intOf]; omega
        · obtain rfl : j = l.length := by omega
          obtain ⟨S, hL⟩ := HLe.out
          have hzs := (HZs.out _ (Nat.le_refl l.length)).1
          clear HLe
          obtain ⟨q, hq⟩ : ∃ q, q = l.length - K := ⟨_, rfl⟩
          obtain ⟨M, m1, m2, L2, T, L3, hM, hmin1, hmax1, hmax2, hmin2, hcr1, hql, hz1, hz2, hby2, hrc2, hop2, hz3, hcr2, hz4, hby3, hrc3, hfr⟩ := kept_facts keep torn hKl hq HFl.out (by omega) HSm.out HB.out
          have HqI := Aside0.mk (show (q : Int) = (l.length : Int) - (K : Int) by omega)
          rw [HqI.out] at hmin1
          obtain ⟨P, hP⟩ : ∃ P, P = K + M := ⟨_, rfl⟩
          rw [← hP] at hrc2 hz3 hcr2 hz4 hrc3 hfr
          have hPl : P ≤ l.length := by omega
          have hadd : wrap64 ((K : Int) + (M : Int)) = (P : Int) := by rw [hP]; unfold wrap64; omega
          obtain ⟨hcut0, hcutC⟩ := cutL_to A c l P (P : Int) rfl hc hPl
          obtain ⟨AF, hfrom0, hfromC⟩ := cutL_from A c l P (P : Int) rfl hc hPl
          have hcut : ∀ W : World, (Instr.slice 38 (.slice A l.length c) none (some (.int .i64 (P : Int))) none).run Try.prog W = .ok (.slice A P c) W := fun W => by rw [hcut0 W, List.length_take, Nat.min_eq_left hPl]
          clear hcut0
          obtain ⟨R, hR⟩ : ∃ R, R = l.take P := ⟨_, rfl⟩
          rw [← hR] at hrc2 hrc3 hfr
          have hRl : R.length = P := by rw [hR, List.length_take, Nat.min_eq_left hPl]
          obtain ⟨D, hD⟩ : ∃ D, D = l.drop P := ⟨_, rfl⟩
          have hfrom : ∀ W : World, (Instr.slice 38 (.slice A l.length c) (some (.int .i64 (P : Int))) none none).run Try.prog W = .ok (.slice AF D.length (c - P)) W := fun W => by rw [hfrom0 W, hD]
          clear hfrom0
          rw [← hD] at hz3 hcr2 hz4 hfr
          have HPb := Aside0.mk (show P ≤ 60 from Nat.le_trans hPl (Nat.le_of_not_lt h60))
          have HDl := Aside0.mk (show D.length ≤ 60 by rw [hD, List.length_drop]; exact Nat.le_trans (Nat.sub_le _ _) (Nat.le_of_not_lt h60))
          have hDc : D.length ≤ c - P := by rw [hD, List.length_drop]; exact Nat.sub_le_sub_right hc P
          have HDb := Aside0.mk (show (∀ b ∈ D, Byt b) ∧ ∀ b ∈ D, b.length ≤ 1048576 by rw [hD]; exact ⟨fun b h => HB.out b (List.mem_of_mem_drop h), fun b h => HSm.out b (List.mem_of_mem_drop h)⟩)
          have HRC := Aside0.mk (fun (W : World) (hB : Below w.heap.size w W) => show CL W A R by rw [hR]; exact hcutC W (HC.out W hB))
          have HDC := Aside0.mk (fun (W : World) (hB : Below w.heap.size w W) => show CL W AF D by rw [hD]; exact hfromC W (HC.out W hB))
          clear hR hD hcutC hfromC hP
          have HCr1 := Aside0.mk hcr1
          have HQl := Aside0.mk hql
          have HZ1 := Aside0.mk hz1
          have HZ2 := Aside0.mk hz2
          have HY2 := Aside0.mk hby2
          have HR2 := Aside0.mk hrc2
          have HO2 := Aside0.mk hop2
          have HZ3 := Aside0.mk hz3
          have HCr2 := Aside0.mk hcr2
          have HZ4 := Aside0.mk hz4
          have HY3 := Aside0.mk hby3
          have HR3 := Aside0.mk hrc3
          have HFr := Aside0.mk hfr
          have HQq := Aside0.mk hq
          clear hcr1 hql hz1 hz2 hby2 hrc2 hop2 hz3 hcr2 hz4 hby3 hrc3 hfr hq
          by_cases hKe : K = l.length
          · have hst := st_sync hKl
            have hS1 := hL.sync_ HQ.out.size HQ.out hzs
            have hKb : ((K : Int) == (l.length : Int)) = true := by simp [hKe]
            rw [← hKe, hst.1, hst.2] at hS1
            have hdr : ([] : List S123) = opsG (l.drop K) := by rw [hKe, List.drop_length]; rfl
            rw [hKe, List.take_length, ← hKe] at hS1
            have HS1 := Aside0.mk hS1
            have HDr := Aside0.mk hdr
            clear hst hS1 hdr hL hzs hKe
            go_wp2_with fail
        
            refine HS1.out.mono ?_
            rintro e w5 ⟨rfl, hB5, hL5⟩
            rw [HDr.out] at hL5
            have HB5 := Aside0.mk hB5
            have HL5 := Aside0.mk hL5
            clear hB5 hL5 HS1 HDr
            obtain ⟨S5, hL5⟩ := HL5.out
            have hP := sPending w5 S5 g K (baseL l K) (opsG (l.drop K)) hL5.d
            rw [HQl.out, HqI.out] at hP
            have HP := Aside0.mk hP
            have hC6 := hL5.crash_ keep 0 HB5.out.size HB5.out HZ1.out
            rw [HCr1.out, HQl.out] at hC6
            have HC6 := Aside0.mk hC6
            clear hP hC6 hL5 HL5 hmin hmax HCr1 HZ1 HZs
            go_wp2_with fail
            refine HP.out.mono ?_
            rintro e w6 ⟨rfl, h6⟩
            rw [h6]
            clear h6 w6
            go_wp2_with fail
            refine HC6.out.mono ?_
            rintro e w7 ⟨rfl, hB7, hL7⟩
            have HB7 := Aside0.mk hB7
            obtain ⟨S7, hL7⟩ := hL7
            have HO7 := Aside0.mk (hL7.open_ hB7.size hB7 HZ2.out HY2.out HR2.out HO2.out)
            clear hB7 hL7 HC6 HP HB5
            go_wp2_with fail
            refine HO7.out.mono ?_
            rintro e w8 ⟨lg8, A8, c8, rfl, hB8, hL8, hc8, hC8⟩
            have HB8 := Aside0.mk hB8
            have HL8 := Aside0.mk hL8
            have HC8 := Aside0.mk hC8
            clear hB8 hL8 hC8 HO7 HB7
            go_wp2_with fail
            have hLs := lists36_true A8 c8 A c R w8 HC8.out (HRC.out w8 HB8.out)
            rw [hRl] at hLs
            refine hLs.mono ?_
            rintro e w9 ⟨rfl, hd9⟩
            clear hLs
            obtain ⟨S9, hL9⟩ := HL8.out
            have hB9 := Drawn0.to_below hd9
            replace hL9 := hL9.move hB9
            have HB9 := Aside0.mk (below_then HB8.out HB8.out.size hB9)
            have hLe := llen_calls w9 lg8 R.length (framesL R).length g nG hL9.lgb
            rw [hRl] at hL9 hLe
            have HLe := Aside0.mk hLe
            have HL9 := Aside0.mk hL9
            clear hd9 hB9 hL9 hLe HB8 HL8 HC8 hc8
            go_wp2_with fail
            refine HLe.out.mono ?_
            rintro e w10 ⟨rfl, h10⟩
            rw [h10]
            clear h10 w10 HLe hadd hmin1 hmax1 hDc
            go_wp2_with fail
            clear hKb hM hKl hx h60
            go_loopw [136] (fun i wq => ∃ j : Nat, j ≤ D.length ∧ i = .int .i64 j ∧ Aside0 (Below w.heap.size w wq) ∧ Aside0 (∃ S, LG w.heap.size wq g lg8 S L2 (opsG (D.take j)) (K + q) (P + j) ((framesL R).length + (framesL (D.take j)).length))) (fun i _ => D.length - (intOf i).toNat)
            case atStart => exact ⟨0, by omega, rfl, HB9, ⟨S9, HL9.out⟩⟩
            case round =>
              obtain ⟨j, hj, rfl, HQ, HLe⟩ := hrel
              by_cases hlt : j < D.length
              · have h60 : j < 60 := Nat.lt_of_lt_of_le hlt HDl.out
                obtain ⟨ad, B, d, rfl, hd, hW⟩ := CL.all_ (HDC.out _ (Below.refl _ _)) j hlt
                obtain ⟨hc0, hCB⟩ := hW _ HQ.out
                obtain ⟨S, hL⟩ := HLe.out
                have hA := hL.append_ HQ.out.size HQ.out (HZ3.out j hj) hCB hd (HDb.out.1 _ (List.getElem_mem hlt)) (HDb.out.2 _ (List.getElem_mem hlt)) (Nat.le_trans (Nat.add_le_add HPb.out (Nat.le_trans hj HDl.out)) (by decide)) (Nat.le_trans (HFr.out j) (by decide))
                rw [opsG_snoc, ← List.take_succ_eq_append_getElem hlt, Nat.add_assoc, Nat.add_assoc, ← fr_step hlt] at hA
                have HA := Aside0.mk hA
                clear hA hL hW hCB HLe
                go_wp2_with fail
                refine HA.out.mono ?_
                rintro e w11 ⟨rfl, hB11, hL11⟩
                have HB11 := Aside0.mk hB11
                have HL11 := Aside0.mk hL11
                clear hB11 hL11 HA
                go_wp2_with fail
                go_roundw
                case rel => exact ⟨j + 1, by omega, by go_num, HB11, HL11⟩
                case measure => simp [intOf]; omega
              · obtain rfl : j = D.length := by omega
                obtain ⟨S, hL⟩ := HLe.out
                have hC := hL.crash_ 0 T HQ.out.size HQ.out (HZ3.out _ (Nat.le_refl _))
                rw [List.take_length, HCr2.out] at hC
                have HC11 := Aside0.mk hC
                clear hL hC HLe
                go_wp2_with fail
                refine HC11.out.mono ?_
                rintro e w12 ⟨rfl, hB12, hL12⟩
                have HB12 := Aside0.mk hB12
                obtain ⟨S12, hL12⟩ := hL12
                have HO12 := Aside0.mk (hL12.open_ (L' := (openL L3 [] (K + q + (opsG D).length) nG).1) (O' := (openL L3 [] (K + q + (opsG D).length) nG).2.1) (n' := (openL L3 [] (K + q + (opsG D).length) nG).2.2) hB12.size hB12 HZ4.out HY3.out HR3.out rfl)
                clear hB12 hL12 HC11
                go_wp2_with fail
                refine HO12.out.mono ?_
                rintro e w13 ⟨lg13, A13, c13, rfl, hB13, _, hc13, hC13⟩
                have HB13 := Aside0.mk hB13
                have HC13 := Aside0.mk hC13
                clear hB13 hC13 HO12 HB12
                go_wp2_with fail
                have hLs := lists36_true A13 c13 A c R w13 HC13.out (HRC.out w13 HB13.out)
                rw [hRl] at hLs
                refine hLs.mono ?_
                rintro e w14 ⟨rfl, hd14⟩
                have HB14 := Aside0.mk (below_then HB13.out HB13.out.size (Drawn0.to_below hd14))
                clear hLs hd14 HB13 HC13 hc13
                go_wp2_with fail
                refine (works_wal w14).mono ?_
                rintro e w15 ⟨rfl, hB15⟩
                have HB15 := Aside0.mk (below_then HB14.out HB14.out.size hB15)
                clear hB15
                go_wp2_with fail
                go_ret
                exact ⟨rfl, HB15.out⟩
          · have hKb : ((K : Int) == (l.length : Int)) = false := by simp; omega
            have hse := st_end (l := l) (K := K) (by omega)
            rw [hse.1, hse.2.1, hse.2.2, List.take_length] at hL
            have HB5 := HQ
            have HL5 := Aside0.mk (show ∃ S, LG w.heap.size wr g lg S (baseL l K) (opsG (l.drop K)) K l.length (framesL l).length from ⟨S, hL⟩)
            clear hL hse hzs
            obtain ⟨S5, hL5⟩ := HL5.out
            have hP := sPending wr S5 g K (baseL l K) (opsG (l.drop K)) hL5.d
            rw [HQl.out, HqI.out] at hP
            have HP := Aside0.mk hP
            have hC6 := hL5.crash_ keep 0 HB5.out.size HB5.out HZ1.out
            rw [HCr1.out, HQl.out] at hC6
            have HC6 := Aside0.mk hC6
            clear hP hC6 hL5 HL5 hmin hmax HCr1 HZ1 HZs
            go_wp2_with fail
            refine HP.out.mono ?_
            rintro e w6 ⟨rfl, h6⟩
            rw [h6]
            clear h6 w6
            go_wp2_with fail
            refine HC6.out.mono ?_
            rintro e w7 ⟨rfl, hB7, hL7⟩
            have HB7 := Aside0.mk hB7
            obtain ⟨S7, hL7⟩ := hL7
            have HO7 := Aside0.mk (hL7.open_ hB7.size hB7 HZ2.out HY2.out HR2.out HO2.out)
            clear hB7 hL7 HC6 HP HB5
            go_wp2_with fail
            refine HO7.out.mono ?_
            rintro e w8 ⟨lg8, A8, c8, rfl, hB8, hL8, hc8, hC8⟩
            have HB8 := Aside0.mk hB8
            have HL8 := Aside0.mk hL8
            have HC8 := Aside0.mk hC8
            clear hB8 hL8 hC8 HO7 HB7
            go_wp2_with fail
            have hLs := lists36_true A8 c8 A c R w8 HC8.out (HRC.out w8 HB8.out)
            rw [hRl] at hLs
            refine hLs.mono ?_
            rintro e w9 ⟨rfl, hd9⟩
            clear hLs
            obtain ⟨S9, hL9⟩ := HL8.out
            have hB9 := Drawn0.to_below hd9
            replace hL9 := hL9.move hB9
            have HB9 := Aside0.mk (below_then HB8.out HB8.out.size hB9)
            have hLe := llen_calls w9 lg8 R.length (framesL R).length g nG hL9.lgb
            rw [hRl] at hL9 hLe
            have HLe := Aside0.mk hLe
            have HL9 := Aside0.mk hL9
            clear hd9 hB9 hL9 hLe HB8 HL8 HC8 hc8
            go_wp2_with fail
            refine HLe.out.mono ?_
            rintro e w10 ⟨rfl, h10⟩
            rw [h10]
            clear h10 w10 HLe hadd hmin1 hmax1 hDc
            go_wp2_with fail
            clear hKb hM hKl hx h60
            go_loopw [136] (fun i wq => ∃ j : Nat, j ≤ D.length ∧ i = .int .i64 j ∧ Aside0 (Below w.heap.size w wq) ∧ Aside0 (∃ S, LG w.heap.size wq g lg8 S L2 (opsG (D.take j)) (K + q) (P + j) ((framesL R).length + (framesL (D.take j)).length))) (fun i _ => D.length - (intOf i).toNat)
            case atStart => exact ⟨0, by omega, rfl, HB9, ⟨S9, HL9.out⟩⟩
            case round =>
              obtain ⟨j, hj, rfl, HQ, HLe⟩ := hrel
              by_cases hlt : j < D.length
              · have h60 : j < 60 := Nat.lt_of_lt_of_le hlt HDl.out
                obtain ⟨ad, B, d, rfl, hd, hW⟩ := CL.all_ (HDC.out _ (Below.refl _ _)) j hlt
                obtain ⟨hc0, hCB⟩ := hW _ HQ.out
                obtain ⟨S, hL⟩ := HLe.out
                have hA := hL.append_ HQ.out.size HQ.out (HZ3.out j hj) hCB hd (HDb.out.1 _ (List.getElem_mem hlt)) (HDb.out.2 _ (List.getElem_mem hlt)) (Nat.le_trans (Nat.add_le_add HPb.out (Nat.le_trans hj HDl.out)) (by decide)) (Nat.le_trans (HFr.out j) (by decide))
                rw [opsG_snoc, ← List.take_succ_eq_append_getElem hlt, Nat.add_assoc, Nat.add_assoc, ← fr_step hlt] at hA
                have HA := Aside0.mk hA
                clear hA hL hW hCB HLe
                go_wp2_with fail
                refine HA.out.mono ?_
                rintro e w11 ⟨rfl, hB11, hL11⟩
                have HB11 := Aside0.mk hB11
                have HL11 := Aside0.mk hL11
                clear hB11 hL11 HA
                go_wp2_with fail
                go_roundw
                case rel => exact ⟨j + 1, by omega, by go_num, HB11, HL11⟩
                case measure => simp [intOf]; omega
              · obtain rfl : j = D.length := by omega
                obtain ⟨S, hL⟩ := HLe.out
                have hC := hL.crash_ 0 T HQ.out.size HQ.out (HZ3.out _ (Nat.le_refl _))
                rw [List.take_length, HCr2.out] at hC
                have HC11 := Aside0.mk hC
                clear hL hC HLe
                go_wp2_with fail
                refine HC11.out.mono ?_
                rintro e w12 ⟨rfl, hB12, hL12⟩
                have HB12 := Aside0.mk hB12
                obtain ⟨S12, hL12⟩ := hL12
                have HO12 := Aside0.mk (hL12.open_ (L' := (openL L3 [] (K + q + (opsG D).length) nG).1) (O' := (openL L3 [] (K + q + (opsG D).length) nG).2.1) (n' := (openL L3 [] (K + q + (opsG D).length) nG).2.2) hB12.size hB12 HZ4.out HY3.out HR3.out rfl)
                clear hB12 hL12 HC11
                go_wp2_with fail
                refine HO12.out.mono ?_
                rintro e w13 ⟨lg13, A13, c13, rfl, hB13, _, hc13, hC13⟩
                have HB13 := Aside0.mk hB13
                have HC13 := Aside0.mk hC13
                clear hB13 hC13 HO12 HB12
                go_wp2_with fail
                have hLs := lists36_true A13 c13 A c R w13 HC13.out (HRC.out w13 HB13.out)
                rw [hRl] at hLs
                refine hLs.mono ?_
                rintro e w14 ⟨rfl, hd14⟩
                have HB14 := Aside0.mk (below_then HB13.out HB13.out.size (Drawn0.to_below hd14))
                clear hLs hd14 HB13 HC13 hc13
                go_wp2_with fail
                refine (works_wal w14).mono ?_
                rintro e w15 ⟨rfl, hB15⟩
                have HB15 := Aside0.mk (below_then HB14.out HB14.out.size hB15)
                clear hB15
                go_wp2_with fail
                go_ret
                exact ⟨rfl, HB15.out⟩
end Go.Proofs.Ytfaniohoplbdoaa.My
/- The statement WalDurable. -/
namespace Go.Proofs.Ytfaniohoplbdoaa.walDurable
open Go.ChangeShapes Go.WideShapes Go.ChangeAt Go.RowKit
open Go.ChangeMaps (open_string shut_string)
open Go.Proofs.Ytfaniohoplbdoaa.My
set_option linter.unusedVariables false
set_option linter.unusedSimpArgs false

theorem own : ownKnob Try.prog.godebug = none := by kernel_rfl
theorem laidOut : laidOutB Try.prog = true := by kernel_rfl

set_option maxRecDepth 100000 in
theorem lifted (os : Os) (started : os.Started) (H : Type) (enc : TypeId × Value → H) :
    ReturnsInHanded {} Try.checked os 11 .any (Rows.walDurableSpec.pre6 enc Try.prog Try.f11 Rows.walDurableRow.domain false) (Rows.walDurableSpec.post enc Try.prog Try.f11 false true false false) := by
  refine returnsInHanded_of_change_sized (C := Try.checked) own started (by kernel_rfl) Try.func11
    (ChangeSpec.witness6 (enc := enc) (C := Try.checked) false ⟨#[], #[.slice none 0 0, .int .i64 0, .int .i64 0, .int .i64 0], []⟩ 8 (by kernel_rfl) (by kernel_rfl) (by kernel_rfl) (by kernel_rfl)) ?_
  intro W base args ds gs before hval0 hW hcnd hsz0 _
  have hsz : (DataW.weightsEach Try.prog (Try.f11.params.toList ++ Rows.walDurableSpec.plain.varTypes Try.prog) (ds ++ gs)).all (· ≤ reachBytes) = true := hsz0
  have hval : ∀ (j : Nat) t v, Try.f11.params[j]? = some t → args[j]? = some v → Value.okWide Try.prog W .any base t v := hval0
  have hW' := hW
  obtain ⟨p, q, hA0, hV, rfl, hfz, hnd⟩ := hW
  have hA : DataW.TrodAll enc Try.prog W 0 (fun _ => true) true Try.f11.params.toList args.toList ds p := hA0
  rw [Try.params11] at hA hval hsz
  obtain ⟨v0, vs0, d0, ds0, p0, q0, hargs, rfl, rfl, h0, r0⟩ := trodAll_cons hA
  obtain ⟨v1, vs1, d1, ds1, p1, q1, rfl, rfl, rfl, h1, r1⟩ := trodAll_cons r0
  obtain ⟨v2, vs2, d2, ds2, p2, q2, rfl, rfl, rfl, h2, r2⟩ := trodAll_cons r1
  obtain ⟨v3, vs3, d3, ds3, p3, q3, rfl, rfl, rfl, h3, r3⟩ := trodAll_cons r2
  obtain ⟨rfl, rfl, rfl⟩ := trodAll_nil r3
  obtain rfl : args = #[v0, v1, v2, v3] := by cases args; simp_all
  obtain ⟨rfl, rfl⟩ := trodVars_none hV
  obtain ⟨a0, len0, cap0, rfl⟩ := okWide_slice Try.underlying38 (hval 0 38 v0 rfl rfl)
  have k0 := h0
  have lt0 : ∀ x ∈ p0, x.block < W.heap.size := by obtain ⟨m, hm⟩ := k0; exact DataW.trod_lt m _ _ _ hm
  obtain ⟨l, rfl, hC, hc, hb, hs1, hs2⟩ := open_rows_sized hsz (j := 0) rfl rfl h0
  obtain ⟨a1, rfl, rfl, rfl, w1⟩ := open_int Try.underlying3 (hval 1 3 v1 rfl rfl) h1
  obtain ⟨a2, rfl, rfl, rfl, w2⟩ := open_int Try.underlying3 (hval 2 3 v2 rfl rfl) h2
  obtain ⟨a3, rfl, rfl, rfl, w3⟩ := open_int Try.underlying3 (hval 3 3 v3 rfl rfl) h3
  clear hA0 hval0 hsz0 hsz
  refine (law_durable a0 cap0 l a1 a2 a3 W hC hc hb hs1 hs2).mono fun e W' ⟨he, bel⟩ => ?_
  subst he
  exact ⟨_, rfl, _, _, _, [], _, [], hW', trodAll_mk1 (shut_bool Try.underlying4 _), (trodAll_cons_mk (Below.trod laidOut (by kernel_rfl) (of_decide_eq_true (by kernel_rfl)) k0 bel lt0) (trodAll_cons_mk (shut_int Try.underlying3 w1) (trodAll_cons_mk (shut_int Try.underlying3 w2) (trodAll_cons_mk (shut_int Try.underlying3 w3) trodAll_mk0)))), rfl, bel.frame _, fun h => by cases h⟩

theorem over : Rows.walDurableRow.holds Try.pinned (OpenSpec.ofChange Rows.walDurableSpec) :=
  OpenClaim.holds_of_wide 11 Try.f11 rfl rfl rfl rfl rfl rfl rfl ⟨rfl, rfl, rfl, rfl, rfl⟩ rfl rfl rfl rfl rfl (by kernel_rfl) Try.func11 (by kernel_rfl)
    (of_decide_eq_true (by kernel_rfl)) (by unfold Func.isWrapper; first | (rw [if_pos (by decide +kernel)]; kernel_rfl) | (rw [if_neg (by decide +kernel)]; exact ⟨rfl, rfl⟩))
    (fun os started H enc _ => lifted os started H enc)

theorem proved : Rows.WalDurableSaid := over
#print axioms proved
end Go.Proofs.Ytfaniohoplbdoaa.walDurable
