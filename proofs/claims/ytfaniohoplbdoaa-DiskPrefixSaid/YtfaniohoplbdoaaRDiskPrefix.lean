/- The statement DiskPrefix. -/
import Derived.Test.YtfaniohoplbdoaaBd
import Derived.Test.YtfaniohoplbdoaaRows
import Derived.WalkKit
import Derived.ProofKit
import Derived.OpenShut
import Derived.ShutString
import Derived.ChangeOld
import Derived.Below
import Derived.SizedLaws
import Derived.Test.YtfaniohoplbdoaaWSized
namespace Go.Proofs.Ytfaniohoplbdoaa.My
open Go Go.RowKit Go.Proofs.YtfaniohoplbdoaaW.PrintWords Go.Proofs.YtfaniohoplbdoaaW.PrintLast Go.Proofs.YtfaniohoplbdoaaW.PrintMore Go.Proofs.Ytfaniohoplbdoaa.PDiskActs
set_option linter.unusedVariables false
set_option linter.unusedSimpArgs false
/-- The disks d (g) and u (g2) of the statement: u has the first operations of d's. -/
structure Two (base : Nat) (w : World) (g g2 : Nat) (L : List S109) (n : Nat) (kn : Nat) (S U : Nat → Prop) (O : List S123) (k y : Nat) : Prop where
  d : DSt w S g L O n
  u : DSt w U g2 L (O.take kn) n
  dis : ∀ k, S k → ¬ U k
  sb : ∀ k, S k → base ≤ k
  ub : ∀ k, U k → base ≤ k
  len : O.length ≤ k
  byt : byO O ≤ y
theorem Two.move {base : Nat} {w w' : World} {g g2 n kn k y : Nat} {L : List S109} {S U : Nat → Prop} {O : List S123} (h : Two base w g g2 L n kn S U O k y) (hB : Below w.heap.size w w') : Two base w' g g2 L n kn S U O k y := ⟨h.d.move hB, h.u.move hB, h.dis, h.sb, h.ub, h.len, h.byt⟩
theorem Two.more {base : Nat} {w : World} {g g2 n kn k y k' y' : Nat} {L : List S109} {S U : Nat → Prop} {O : List S123} (h : Two base w g g2 L n kn S U O k y) (hk : k ≤ k') (hy : y ≤ y') : Two base w g g2 L n kn S U O k' y' := ⟨h.d, h.u, h.dis, h.sb, h.ub, Nat.le_trans h.len hk, Nat.le_trans h.byt hy⟩
/-- d's operation. -/
theorem Two.first {base : Nat} {w w' : World} {g g2 n kn k y : Nat} {L : List S109} {S U : Nat → Prop} {O O' : List S123} (h : Two base w g g2 L n kn S U O k y) (hb : base ≤ w.heap.size) (hD : DSt w' (ext S w w') g L O' n) (hW : Wr w w' S) :
    DSt w' U g2 L (O.take kn) n ∧ (∀ k, ext S w w' k → ¬ U k) ∧ (∀ k, ext S w w' k → base ≤ k) := by
  refine ⟨h.u.off hW (fun k hk hs => h.dis k hs hk), fun k hk hu => ?_, fun k hk => ?_⟩
  · rcases hk.1 with h' | h'
    · exact h.dis k h' hu
    · have := h.u.lt k hu; omega
  · rcases hk.1 with h' | h'
    · exact h.sb k h'
    · omega
/-- u's operation. -/
theorem two_second {base : Nat} {w w' : World} {g g2 n : Nat} {L : List S109} {S U : Nat → Prop} {O P P' : List S123} (hd : DSt w S g L O n) (hu : DSt w U g2 L P n) (hdis : ∀ k, S k → ¬ U k) (hub : ∀ k, U k → base ≤ k) (hb : base ≤ w.heap.size) (hU : DSt w' (ext U w w') g2 L P' n) (hW : Wr w w' U) :
    DSt w' S g L O n ∧ (∀ k, S k → ¬ ext U w w' k) ∧ (∀ k, ext U w w' k → base ≤ k) := by
  refine ⟨hd.off hW hdis, fun k hs hk => ?_, fun k hk => ?_⟩
  · rcases hk.1 with h' | h'
    · exact hdis k hs h'
    · have := hd.lt k hs; omega
  · rcases hk.1 with h' | h'
    · exact hub k h'
    · omega
theorem keep_take (O : List S123) (keep : Int) : O.take (keepN keep O.length) = O.take keep.toNat := by
  have e : keepN keep O.length = min keep.toNat O.length := by unfold keepN mx mn; omega
  rw [e]
  by_cases h1 : keep.toNat ≤ O.length
  · rw [Nat.min_eq_left h1]
  · rw [Nat.min_eq_right (by omega), List.take_length, List.take_of_length_le (by omega)]
theorem crash_whole (l : List S109) (O : List S123) (keep : Int) : crashL l O keep 0 = viewL l (O.take keep.toNat) := by
  unfold crashL
  rw [keep_take]
  split
  · rw [if_neg (by simp)]
  · rfl
theorem cell_below {w W : World} (hB : Below w.heap.size w W) {a : Addr} {v : Value} (h : w.cell? a = some v) : W.cell? a = some v := by
  have hlt := World.block_lt_of_cell? w _ h
  unfold World.cell? at h ⊢
  rw [hB.block _ hlt]
  exact h
theorem ArgP.at_ {w : World} {A : Option Addr} {l : List S82} (h : ArgP w A l) (j : Nat) (hj : j < l.length) : ∃ ad B d, A = some ad ∧ l[j].f3.length ≤ d ∧ ∀ W, Below w.heap.size w W → W.cell? (ad.add (j * 6)) = some (.int .i64 l[j].f0) ∧ W.cell? ⟨(ad.add (j * 6)).block, (ad.add (j * 6)).off + 1, none⟩ = some (.string l[j].f1) ∧ W.cell? ⟨(ad.add (j * 6)).block, (ad.add (j * 6)).off + 2, none⟩ = some (.string l[j].f2) ∧ W.cell? ⟨(ad.add (j * 6)).block, (ad.add (j * 6)).off + 3, none⟩ = some (.slice B l[j].f3.length d) ∧ W.cell? ⟨(ad.add (j * 6)).block, (ad.add (j * 6)).off + 4, none⟩ = some (.int .i64 l[j].f4) ∧ W.cell? ⟨(ad.add (j * 6)).block, (ad.add (j * 6)).off + 5, none⟩ = some (.int .i64 l[j].f5) ∧ CB W B l[j].f3 := by
  obtain ⟨ad, B, d, rfl, h0, h1, h2, h3, h4, h5, hd, hC⟩ := CP.at_ h.rd j hj
  exact ⟨ad, B, d, rfl, hd, fun W hB => ⟨cell_below hB h0, cell_below hB h1, cell_below hB h2, cell_below hB h3, cell_below hB h4, cell_below hB h5, Kd.C_below hC hB⟩⟩
theorem app_cases (O : List S123) (nm : ByteArray) (y : List Int) : (∃ p : S123, appendL O nm y = (O ++ [p], 0) ∧ p.f3.length ≤ y.length) ∨ ∃ z : Int, appendL O nm y = (O, z) ∧ (z != 0) = true := by
  unfold appendL
  split
  · exact .inl ⟨_, rfl, Nat.le_refl _⟩
  · exact .inr ⟨_, rfl, rfl⟩
theorem rem_cases (L : List S109) (O : List S123) (nm : ByteArray) : (∃ p : S123, removeL L O nm = (O ++ [p], 0) ∧ p.f3.length ≤ 0) ∨ ∃ z : Int, removeL L O nm = (O, z) ∧ (z != 0) = true := by
  unfold removeL
  split
  · exact .inl ⟨_, rfl, Nat.le_refl _⟩
  · exact .inr ⟨_, rfl, rfl⟩
theorem ren_cases (L : List S109) (O : List S123) (nm tn : ByteArray) : (∃ p : S123, renameL L O nm tn = (O ++ [p], 0) ∧ p.f3.length ≤ 0) ∨ ∃ z : Int, renameL L O nm tn = (O, z) ∧ (z != 0) = true := by
  unfold renameL
  split
  · split
    · exact .inl ⟨_, rfl, Nat.le_refl _⟩
    · exact .inr ⟨_, rfl, rfl⟩
  · exact .inr ⟨_, rfl, rfl⟩
theorem Sz.less {l : List S109} {ops : List S123} {n m : Nat} (h : Sz l ops n) (hm : m ≤ n) : Sz l ops m := ⟨by have := h.1; omega, h.2.1, h.2.2⟩
set_option maxHeartbeats 4000000 in
set_option maxRecDepth 100000 in
theorem law_prefix (A : Option Addr) (c : Nat) (l : List S109) (A' : Option Addr) (c' : Nat) (ops : List S82) (keep : Int) (w : World) (hF : ArgF w A c l) (hP : ArgP w A' ops) :
    Calls Try.prog 15 #[.slice A l.length c, .slice A' ops.length c', .int .i64 keep] w (TruePost w) := by
  have hm := Kd.C_max hP.rd
  have HF := Aside0.mk (fun (W : World) (hB : Below w.heap.size w W) => hF.move hB)
  have HP := Aside0.mk (fun (W : World) (hB : Below w.heap.size w W) => hP.move hB)
  have HBig := Aside0.mk (fun (W : World) (hB : Below w.heap.size w W) => large_arg (c' := c') (hF.move hB) (hP.move hB))
  have hu53 := Try.underlying53
  have hu82 := Try.underlying82
  cases hlo : loadOk l with
  | false =>
    have HLo := Aside0.mk (fun (W : World) (hB : Below w.heap.size w W) => dload_no (hF.move hB) hlo)
    clear hlo hF hP
    go_enter Try.func15, Try.ntmps15
    go_wp2_with fail
    refine (HLo.out w (Below.refl _ _)).mono ?_
    rintro e w1 ⟨rfl, hB1⟩
    have HB1 := Aside0.mk hB1
    clear hB1
    go_wp2_with fail
    refine (HLo.out w1 HB1.out).mono ?_
    rintro e w2 ⟨rfl, hB2⟩
    have HB2 := Aside0.mk (below_then HB1.out HB1.out.size hB2)
    clear hB2
    go_wp2_with fail
    refine (works_disk _).mono ?_
    rintro e w3 ⟨rfl, hB3⟩
    have HB3 := Aside0.mk (below_then HB2.out HB2.out.size hB3)
    clear hB3
    go_wp2_with fail
    go_ret
    exact ⟨rfl, HB3.out⟩
  | true =>
    have HLo := Aside0.mk (fun (W : World) (hB : Below w.heap.size w W) => dload_yes (hF.move hB) hlo)
    clear hlo hF hP
    have hlen := loadL_length l
    have hbts := load_bytes l
    obtain ⟨L0, hL0⟩ : ∃ L0, L0 = loadL l := ⟨_, rfl⟩
    rw [← hL0] at HLo hlen hbts
    clear hL0
    go_enter Try.func15, Try.ntmps15
    go_wp2_with fail
    refine (HLo.out w (Below.refl _ _)).mono ?_
    rintro e w1 ⟨g, S, rfl, hD1, hS1, hB1⟩
    have HB1 := Aside0.mk hB1
    have HD1 := Aside0.mk hD1
    have HS1 := Aside0.mk hS1
    clear hB1 hD1 hS1
    go_wp2_with fail
    refine (HLo.out w1 HB1.out).mono ?_
    rintro e w2 ⟨g2, U, rfl, hU2, hS2, hB2⟩
    have HTw := Aside0.mk (show Two w.heap.size w2 g g2 L0 l.length keep.toNat S U [] 0 0 from ⟨HD1.out.move hB2, by simpa using hU2, fun k hs hu => by have := HD1.out.lt k hs; have := hS2 k hu; omega, HS1.out, fun k hk => Nat.le_trans HB1.out.size (hS2 k hk), by simp, by simp [byO]⟩)
    have HB2 := Aside0.mk (below_then HB1.out HB1.out.size hB2)
    clear hB2 hU2 hS2 HB1 HD1 HS1 HLo
    go_wp2_with fail
    refine (HBig.out _ HB2.out).mono ?_
    rintro e w3 ⟨rfl, hB3⟩
    have HT3 := Aside0.mk (HTw.out.move hB3)
    have HB3 := Aside0.mk (below_then HB2.out HB2.out.size hB3)
    clear hB3 HTw HB2 HBig
    cases hbig : bigD l ops with
    | true =>
      clear hbig
      go_wp2_with (first | (go_at_call 63; with_reducible refine (works_disk _).mono ?_; rintro e w4 ⟨rfl, hB4⟩; have HB4 := Aside0.mk (below_then HB3.out HB3.out.size hB4); clear hB4) | fail)
      go_ret
      exact ⟨rfl, HB4.out⟩
    | false =>
      have hbd := bigD_false hbig
      have HBd := Aside0.mk hbd
      clear hbig hbd
      have hlen60 := HBd.out.2.1
      go_wp2_with fail
      go_loopw [9, 38] (fun x i wr => ∃ (k m : Nat), k ≤ ops.length ∧ m ≤ k ∧ x = .int .i64 m ∧ i = .int .i64 k ∧ Aside0 (Below w.heap.size w wr) ∧ Aside0 (∃ S U O, O.length = m ∧ Two w.heap.size wr g g2 L0 l.length keep.toNat S U O k (byP (ops.take k)))) (fun _ i _ => ops.length - (intOf i).toNat)
      case atStart =>
        have h := HT3.out
        exact ⟨0, 0, by omega, by omega, rfl, rfl, HB3, ⟨S, U, [], rfl, h.more (Nat.le_refl _) (Nat.zero_le _)⟩⟩
      case round =>
        obtain ⟨k, m, hk, hmk, rfl, rfl, HW, HTe⟩ := hrel
        obtain ⟨S, U, O, hOm, htw⟩ := HTe.out
        have HTw := Aside0.mk htw
        have HOm := Aside0.mk hOm
        clear htw hOm HTe HT3 HB3
        by_cases hlt : k < ops.length
        · obtain ⟨ad, B, d, rfl, hd, hat⟩ := (HP.out _ (Below.refl _ _)).at_ k hlt
          obtain ⟨hc0, hc1, hc2, hc3, hc4, hc5, hCB⟩ := hat wr HW.out
          have HCB := Aside0.mk hCB
          have HCx := Aside0.mk (fun (W : World) (hB : Below w.heap.size w W) => (hat W hB).2.2.2.2.2.2)
          clear hat
          have hnm := (HP.out _ HW.out).names ops[k] (List.getElem_mem hlt)
          have hda := (HP.out _ HW.out).data ops[k] (List.getElem_mem hlt)
          have HBY := Aside0.mk (byP_take_succ hlt)
          have HTk := Aside0.mk (byP_takeN ops (k + 1))
          obtain ⟨o, ho⟩ : ∃ o, o = ops[k] := ⟨_, rfl⟩
          rw [← ho] at hc0 hc1 hc2 hc3 hc4 hc5 hd HCB HCx hnm hda HBY
          clear ho hCB
          obtain ⟨wa, hwa⟩ : ∃ wa, wa = wr.alloc (.cells (opC o B d) 82) := ⟨_, rfl⟩
          have hBa : Below wr.heap.size wr wa := by rw [hwa]; exact below_alloc (Below.refl _ _) _
          have hba : wa.heap[wr.heap.size]? = some (.cells (opC o B d) 82 (0, 0)) := by rw [hwa]; exact blk_new _ _
          have HTa := Aside0.mk (HTw.out.move hBa)
          have HCa := Aside0.mk (Kd.C_below HCB.out hBa)
          have HWa := Aside0.mk (below_then HW.out HW.out.size hBa)
          have HBa := Aside0.mk hba
          have HWA := Aside0.mk hwa
          have HRl := Aside0.mk (show ∀ k, S k ∨ U k → k ≠ wr.heap.size from fun k hk => by rcases hk with h | h; have := HTw.out.d.lt k h; omega; have := HTw.out.u.lt k h; omega)
          have hlx := blk_lt hba
          have HSz := Aside0.mk (show Sz L0 O l.length by
            have h1 := HTw.out.len
            have h2 := HTw.out.byt
            have h3 := HBd.out
            have h4 := HBY.out
            have h5 := HTk.out
            exact ⟨by omega, by omega, by omega⟩)
          clear hwa hBa hba
          have hq0 : wa.cell? ⟨wr.heap.size, 0, none⟩ = some (.int .i64 o.f0) := (blk_cell HBa.out 0).trans rfl
          have hq1 : wa.cell? ⟨wr.heap.size, 1, none⟩ = some (.string o.f1) := (blk_cell HBa.out 1).trans rfl
          have hq2 : wa.cell? ⟨wr.heap.size, 2, none⟩ = some (.string o.f2) := (blk_cell HBa.out 2).trans rfl
          have hq3 : wa.cell? ⟨wr.heap.size, 3, none⟩ = some (.slice B o.f3.length d) := (blk_cell HBa.out 3).trans rfl
          by_cases hlow : o.f0 < 0
          · go_wp2
            go_roundw
            case rel => exact ⟨k + 1, m, by omega, by omega, rfl, by go_num, by rw [← HWA.out]; exact HWa, ⟨S, U, O, HOm.out, by rw [← HWA.out]; exact HTa.out.more (by omega) (by have := HBY.out; omega)⟩⟩
            case measure => simp [intOf]; omega
          by_cases hhigh : 2 < o.f0
          · go_wp2
            go_roundw
            case rel => exact ⟨k + 1, m, by omega, by omega, rfl, by go_num, by rw [← HWA.out]; exact HWa, ⟨S, U, O, HOm.out, by rw [← HWA.out]; exact HTa.out.more (by omega) (by have := HBY.out; omega)⟩⟩
            case measure => simp [intOf]; omega
          have HKW := Aside0.mk (fun (W : World) (R : Nat → Prop) (hW : Wr wa W R) (hR : ∀ k, R k → k ≠ wr.heap.size) => (hW.2.2.2.2 _ (blk_lt HBa.out) (fun h => hR _ h rfl)).trans HBa.out)
          have h3 : o.f0 = 0 ∨ o.f0 = 1 ∨ o.f0 = 2 := by omega
          rcases h3 with h0 | h0 | h0
          · have h0b : (o.f0 == 0) = true := by rw [h0]; rfl
            clear h0
            obtain (⟨p, hp, hpl⟩ | ⟨z, hz, hz0⟩) := app_cases O o.f1 o.f3
            · have HD1 := Aside0.mk (sAppend wa S g l.length L0 O o.f1 B d o.f3 HTa.out.d HSz.out HCa.out hda hnm.1)
              rw [hp] at HD1
              have HPl := Aside0.mk hpl
              have HP2 := Aside0.mk hp
              clear hp hpl
              by_cases hkp : keep < (m : Int) + 1
              · go_wp2_with (first | (go_at_call 57; rw [← HWA.out]; with_reducible refine HD1.out.mono ?_; rintro e w4 ⟨rfl, hD4, hW4⟩; have H3 := Aside0.mk (HTa.out.first HWa.out.size hD4 hW4); have HD4 := Aside0.mk hD4; have HW4 := Aside0.mk (wr_below HWa.out HWa.out.size HTa.out.sb hW4); have HB4 := Aside0.mk (HKW.out w4 S hW4 (fun k h => HRl.out k (.inl h))); have hr0 : w4.cell? ⟨wr.heap.size, 0, none⟩ = some (.int .i64 o.f0) := (blk_cell HB4.out 0).trans rfl; have hr1 : w4.cell? ⟨wr.heap.size, 1, none⟩ = some (.string o.f1) := (blk_cell HB4.out 1).trans rfl; have hr2 : w4.cell? ⟨wr.heap.size, 2, none⟩ = some (.string o.f2) := (blk_cell HB4.out 2).trans rfl; have hr3 : w4.cell? ⟨wr.heap.size, 3, none⟩ = some (.slice B o.f3.length d) := (blk_cell HB4.out 3).trans rfl; have HG4 := Aside0.mk (show wa.heap.size ≤ w4.heap.size from hW4.size); clear hD4 hW4) | fail)
                go_roundw
                case rel =>
                  have hl : keep.toNat ≤ O.length := by have := HOm.out; omega
                  refine ⟨k + 1, m + 1, by omega, by omega, by go_num, by go_num, HW4, ⟨_, U, O ++ [p], by rw [List.length_append, HOm.out]; rfl, ⟨HD4.out, by rw [List.take_append_of_le_length hl]; exact H3.out.1, H3.out.2.1, H3.out.2.2, HTa.out.ub, by rw [List.length_append, List.length_singleton]; have := HTa.out.len; omega, by rw [byO_snoc]; have := HTa.out.byt; have := HPl.out; have := HBY.out; omega⟩⟩⟩
                case measure => simp [intOf]; omega
              · go_wp2_with (first | (go_at_call 57; rw [← HWA.out]; with_reducible refine HD1.out.mono ?_; rintro e w4 ⟨rfl, hD4, hW4⟩; have H3 := Aside0.mk (HTa.out.first HWa.out.size hD4 hW4); have HD4 := Aside0.mk hD4; have HW4 := Aside0.mk (wr_below HWa.out HWa.out.size HTa.out.sb hW4); have HB4 := Aside0.mk (HKW.out w4 S hW4 (fun k h => HRl.out k (.inl h))); have hr0 : w4.cell? ⟨wr.heap.size, 0, none⟩ = some (.int .i64 o.f0) := (blk_cell HB4.out 0).trans rfl; have hr1 : w4.cell? ⟨wr.heap.size, 1, none⟩ = some (.string o.f1) := (blk_cell HB4.out 1).trans rfl; have hr2 : w4.cell? ⟨wr.heap.size, 2, none⟩ = some (.string o.f2) := (blk_cell HB4.out 2).trans rfl; have hr3 : w4.cell? ⟨wr.heap.size, 3, none⟩ = some (.slice B o.f3.length d) := (blk_cell HB4.out 3).trans rfl; have HG4 := Aside0.mk (show wa.heap.size ≤ w4.heap.size from hW4.size); clear hD4 hW4) | fail)
                have hkn : O.take keep.toNat = O := List.take_of_length_le (by have := HOm.out; omega)
                have hu4 := H3.out.1
                rw [hkn] at hu4
                refine (sAppend w4 U g2 l.length L0 O o.f1 B d o.f3 hu4 HSz.out (HCx.out w4 HW4.out) hda hnm.1).mono ?_
                rw [HP2.out]
                rintro e w5 ⟨rfl, hU5, hW5⟩
                obtain ⟨hD5, hdis5, hub5⟩ := two_second HD4.out hu4 H3.out.2.1 HTa.out.ub HW4.out.size hU5 hW5
                have HD5 := Aside0.mk hD5
                have HU5 := Aside0.mk hU5
                have HDis5 := Aside0.mk hdis5
                have HUb5 := Aside0.mk hub5
                have HW5 := Aside0.mk (wr_below HW4.out HW4.out.size HTa.out.ub hW5)
                clear hD5 hU5 hW5 hdis5 hub5 hu4 hkn
                go_wp2_with fail
                go_roundw
                case rel =>
                  have hl : (O ++ [p]).length ≤ keep.toNat := by rw [List.length_append, List.length_singleton]; have := HOm.out; omega
                  refine ⟨k + 1, m + 1, by omega, by omega, by go_num, by go_num, HW5, ⟨_, _, O ++ [p], by rw [List.length_append, HOm.out]; rfl, ⟨HD5.out, by rw [List.take_of_length_le hl]; exact HU5.out, HDis5.out, H3.out.2.2, HUb5.out, by rw [List.length_append, List.length_singleton]; have := HTa.out.len; omega, by rw [byO_snoc]; have := HTa.out.byt; have := HPl.out; have := HBY.out; omega⟩⟩⟩
                case measure => simp [intOf]; omega
            · have HD1 := Aside0.mk (sAppend wa S g l.length L0 O o.f1 B d o.f3 HTa.out.d HSz.out HCa.out hda hnm.1)
              rw [hz] at HD1
              clear hz
              go_wp2_with (first | (go_at_call 57; rw [← HWA.out]; with_reducible refine HD1.out.mono ?_; rintro e w4 ⟨rfl, hD4, hW4⟩; have H3 := Aside0.mk (HTa.out.first HWa.out.size hD4 hW4); have HD4 := Aside0.mk hD4; have HW4 := Aside0.mk (wr_below HWa.out HWa.out.size HTa.out.sb hW4); have HB4 := Aside0.mk (HKW.out w4 S hW4 (fun k h => HRl.out k (.inl h))); have hr0 : w4.cell? ⟨wr.heap.size, 0, none⟩ = some (.int .i64 o.f0) := (blk_cell HB4.out 0).trans rfl; have hr1 : w4.cell? ⟨wr.heap.size, 1, none⟩ = some (.string o.f1) := (blk_cell HB4.out 1).trans rfl; have hr2 : w4.cell? ⟨wr.heap.size, 2, none⟩ = some (.string o.f2) := (blk_cell HB4.out 2).trans rfl; have hr3 : w4.cell? ⟨wr.heap.size, 3, none⟩ = some (.slice B o.f3.length d) := (blk_cell HB4.out 3).trans rfl; have HG4 := Aside0.mk (show wa.heap.size ≤ w4.heap.size from hW4.size); clear hD4 hW4) | fail)
              go_roundw
              case rel => exact ⟨k + 1, m, by omega, by omega, rfl, by go_num, HW4, ⟨_, U, O, HOm.out, ⟨HD4.out, H3.out.1, H3.out.2.1, H3.out.2.2, HTa.out.ub, by have := HTa.out.len; omega, by have := HTa.out.byt; have := HBY.out; omega⟩⟩⟩
              case measure => simp [intOf]; omega
          · have h0b : (o.f0 == 0) = false := by rw [h0]; rfl
            have h1b : (o.f0 == 1) = true := by rw [h0]; rfl
            clear h0
            obtain (⟨p, hp, hpl⟩ | ⟨z, hz, hz0⟩) := rem_cases L0 O o.f1
            · have HD1 := Aside0.mk (sRemove wa S g l.length L0 O o.f1 HTa.out.d HSz.out hnm.1)
              rw [hp] at HD1
              have HPl := Aside0.mk hpl
              have HP2 := Aside0.mk hp
              clear hp hpl
              by_cases hkp : keep < (m : Int) + 1
              · go_wp2_with (first | (go_at_call 58; rw [← HWA.out]; with_reducible refine HD1.out.mono ?_; rintro e w4 ⟨rfl, hD4, hW4⟩; have H3 := Aside0.mk (HTa.out.first HWa.out.size hD4 hW4); have HD4 := Aside0.mk hD4; have HW4 := Aside0.mk (wr_below HWa.out HWa.out.size HTa.out.sb hW4); have HB4 := Aside0.mk (HKW.out w4 S hW4 (fun k h => HRl.out k (.inl h))); have hr0 : w4.cell? ⟨wr.heap.size, 0, none⟩ = some (.int .i64 o.f0) := (blk_cell HB4.out 0).trans rfl; have hr1 : w4.cell? ⟨wr.heap.size, 1, none⟩ = some (.string o.f1) := (blk_cell HB4.out 1).trans rfl; have hr2 : w4.cell? ⟨wr.heap.size, 2, none⟩ = some (.string o.f2) := (blk_cell HB4.out 2).trans rfl; have hr3 : w4.cell? ⟨wr.heap.size, 3, none⟩ = some (.slice B o.f3.length d) := (blk_cell HB4.out 3).trans rfl; have HG4 := Aside0.mk (show wa.heap.size ≤ w4.heap.size from hW4.size); clear hD4 hW4) | fail)
                go_roundw
                case rel =>
                  have hl : keep.toNat ≤ O.length := by have := HOm.out; omega
                  refine ⟨k + 1, m + 1, by omega, by omega, by go_num, by go_num, HW4, ⟨_, U, O ++ [p], by rw [List.length_append, HOm.out]; rfl, ⟨HD4.out, by rw [List.take_append_of_le_length hl]; exact H3.out.1, H3.out.2.1, H3.out.2.2, HTa.out.ub, by rw [List.length_append, List.length_singleton]; have := HTa.out.len; omega, by rw [byO_snoc]; have := HTa.out.byt; have := HPl.out; have := HBY.out; omega⟩⟩⟩
                case measure => simp [intOf]; omega
              · go_wp2_with (first | (go_at_call 58; rw [← HWA.out]; with_reducible refine HD1.out.mono ?_; rintro e w4 ⟨rfl, hD4, hW4⟩; have H3 := Aside0.mk (HTa.out.first HWa.out.size hD4 hW4); have HD4 := Aside0.mk hD4; have HW4 := Aside0.mk (wr_below HWa.out HWa.out.size HTa.out.sb hW4); have HB4 := Aside0.mk (HKW.out w4 S hW4 (fun k h => HRl.out k (.inl h))); have hr0 : w4.cell? ⟨wr.heap.size, 0, none⟩ = some (.int .i64 o.f0) := (blk_cell HB4.out 0).trans rfl; have hr1 : w4.cell? ⟨wr.heap.size, 1, none⟩ = some (.string o.f1) := (blk_cell HB4.out 1).trans rfl; have hr2 : w4.cell? ⟨wr.heap.size, 2, none⟩ = some (.string o.f2) := (blk_cell HB4.out 2).trans rfl; have hr3 : w4.cell? ⟨wr.heap.size, 3, none⟩ = some (.slice B o.f3.length d) := (blk_cell HB4.out 3).trans rfl; have HG4 := Aside0.mk (show wa.heap.size ≤ w4.heap.size from hW4.size); clear hD4 hW4) | fail)
                have hkn : O.take keep.toNat = O := List.take_of_length_le (by have := HOm.out; omega)
                have hu4 := H3.out.1
                rw [hkn] at hu4
                refine (sRemove w4 U g2 l.length L0 O o.f1 hu4 HSz.out hnm.1).mono ?_
                rw [HP2.out]
                rintro e w5 ⟨rfl, hU5, hW5⟩
                obtain ⟨hD5, hdis5, hub5⟩ := two_second HD4.out hu4 H3.out.2.1 HTa.out.ub HW4.out.size hU5 hW5
                have HD5 := Aside0.mk hD5
                have HU5 := Aside0.mk hU5
                have HDis5 := Aside0.mk hdis5
                have HUb5 := Aside0.mk hub5
                have HW5 := Aside0.mk (wr_below HW4.out HW4.out.size HTa.out.ub hW5)
                clear hD5 hU5 hW5 hdis5 hub5 hu4 hkn
                go_wp2_with fail
                go_roundw
                case rel =>
                  have hl : (O ++ [p]).length ≤ keep.toNat := by rw [List.length_append, List.length_singleton]; have := HOm.out; omega
                  refine ⟨k + 1, m + 1, by omega, by omega, by go_num, by go_num, HW5, ⟨_, _, O ++ [p], by rw [List.length_append, HOm.out]; rfl, ⟨HD5.out, by rw [List.take_of_length_le hl]; exact HU5.out, HDis5.out, H3.out.2.2, HUb5.out, by rw [List.length_append, List.length_singleton]; have := HTa.out.len; omega, by rw [byO_snoc]; have := HTa.out.byt; have := HPl.out; have := HBY.out; omega⟩⟩⟩
                case measure => simp [intOf]; omega
            · have HD1 := Aside0.mk (sRemove wa S g l.length L0 O o.f1 HTa.out.d HSz.out hnm.1)
              rw [hz] at HD1
              clear hz
              go_wp2_with (first | (go_at_call 58; rw [← HWA.out]; with_reducible refine HD1.out.mono ?_; rintro e w4 ⟨rfl, hD4, hW4⟩; have H3 := Aside0.mk (HTa.out.first HWa.out.size hD4 hW4); have HD4 := Aside0.mk hD4; have HW4 := Aside0.mk (wr_below HWa.out HWa.out.size HTa.out.sb hW4); have HB4 := Aside0.mk (HKW.out w4 S hW4 (fun k h => HRl.out k (.inl h))); have hr0 : w4.cell? ⟨wr.heap.size, 0, none⟩ = some (.int .i64 o.f0) := (blk_cell HB4.out 0).trans rfl; have hr1 : w4.cell? ⟨wr.heap.size, 1, none⟩ = some (.string o.f1) := (blk_cell HB4.out 1).trans rfl; have hr2 : w4.cell? ⟨wr.heap.size, 2, none⟩ = some (.string o.f2) := (blk_cell HB4.out 2).trans rfl; have hr3 : w4.cell? ⟨wr.heap.size, 3, none⟩ = some (.slice B o.f3.length d) := (blk_cell HB4.out 3).trans rfl; have HG4 := Aside0.mk (show wa.heap.size ≤ w4.heap.size from hW4.size); clear hD4 hW4) | fail)
              go_roundw
              case rel => exact ⟨k + 1, m, by omega, by omega, rfl, by go_num, HW4, ⟨_, U, O, HOm.out, ⟨HD4.out, H3.out.1, H3.out.2.1, H3.out.2.2, HTa.out.ub, by have := HTa.out.len; omega, by have := HTa.out.byt; have := HBY.out; omega⟩⟩⟩
              case measure => simp [intOf]; omega
          · have h0b : (o.f0 == 0) = false := by rw [h0]; rfl
            have h1b : (o.f0 == 1) = false := by rw [h0]; rfl
            clear h0
            obtain (⟨p, hp, hpl⟩ | ⟨z, hz, hz0⟩) := ren_cases L0 O o.f1 o.f2
            · have HD1 := Aside0.mk (sRename wa S g l.length L0 O o.f1 o.f2 HTa.out.d HSz.out hnm.1 hnm.2)
              rw [hp] at HD1
              have HPl := Aside0.mk hpl
              have HP2 := Aside0.mk hp
              clear hp hpl
              by_cases hkp : keep < (m : Int) + 1
              · go_wp2_with (first | (go_at_call 59; rw [← HWA.out]; with_reducible refine HD1.out.mono ?_; rintro e w4 ⟨rfl, hD4, hW4⟩; have H3 := Aside0.mk (HTa.out.first HWa.out.size hD4 hW4); have HD4 := Aside0.mk hD4; have HW4 := Aside0.mk (wr_below HWa.out HWa.out.size HTa.out.sb hW4); have HB4 := Aside0.mk (HKW.out w4 S hW4 (fun k h => HRl.out k (.inl h))); have hr0 : w4.cell? ⟨wr.heap.size, 0, none⟩ = some (.int .i64 o.f0) := (blk_cell HB4.out 0).trans rfl; have hr1 : w4.cell? ⟨wr.heap.size, 1, none⟩ = some (.string o.f1) := (blk_cell HB4.out 1).trans rfl; have hr2 : w4.cell? ⟨wr.heap.size, 2, none⟩ = some (.string o.f2) := (blk_cell HB4.out 2).trans rfl; have hr3 : w4.cell? ⟨wr.heap.size, 3, none⟩ = some (.slice B o.f3.length d) := (blk_cell HB4.out 3).trans rfl; have HG4 := Aside0.mk (show wa.heap.size ≤ w4.heap.size from hW4.size); clear hD4 hW4) | fail)
                go_roundw
                case rel =>
                  have hl : keep.toNat ≤ O.length := by have := HOm.out; omega
                  refine ⟨k + 1, m + 1, by omega, by omega, by go_num, by go_num, HW4, ⟨_, U, O ++ [p], by rw [List.length_append, HOm.out]; rfl, ⟨HD4.out, by rw [List.take_append_of_le_length hl]; exact H3.out.1, H3.out.2.1, H3.out.2.2, HTa.out.ub, by rw [List.length_append, List.length_singleton]; have := HTa.out.len; omega, by rw [byO_snoc]; have := HTa.out.byt; have := HPl.out; have := HBY.out; omega⟩⟩⟩
                case measure => simp [intOf]; omega
              · go_wp2_with (first | (go_at_call 59; rw [← HWA.out]; with_reducible refine HD1.out.mono ?_; rintro e w4 ⟨rfl, hD4, hW4⟩; have H3 := Aside0.mk (HTa.out.first HWa.out.size hD4 hW4); have HD4 := Aside0.mk hD4; have HW4 := Aside0.mk (wr_below HWa.out HWa.out.size HTa.out.sb hW4); have HB4 := Aside0.mk (HKW.out w4 S hW4 (fun k h => HRl.out k (.inl h))); have hr0 : w4.cell? ⟨wr.heap.size, 0, none⟩ = some (.int .i64 o.f0) := (blk_cell HB4.out 0).trans rfl; have hr1 : w4.cell? ⟨wr.heap.size, 1, none⟩ = some (.string o.f1) := (blk_cell HB4.out 1).trans rfl; have hr2 : w4.cell? ⟨wr.heap.size, 2, none⟩ = some (.string o.f2) := (blk_cell HB4.out 2).trans rfl; have hr3 : w4.cell? ⟨wr.heap.size, 3, none⟩ = some (.slice B o.f3.length d) := (blk_cell HB4.out 3).trans rfl; have HG4 := Aside0.mk (show wa.heap.size ≤ w4.heap.size from hW4.size); clear hD4 hW4) | fail)
                have hkn : O.take keep.toNat = O := List.take_of_length_le (by have := HOm.out; omega)
                have hu4 := H3.out.1
                rw [hkn] at hu4
                refine (sRename w4 U g2 l.length L0 O o.f1 o.f2 hu4 HSz.out hnm.1 hnm.2).mono ?_
                rw [HP2.out]
                rintro e w5 ⟨rfl, hU5, hW5⟩
                obtain ⟨hD5, hdis5, hub5⟩ := two_second HD4.out hu4 H3.out.2.1 HTa.out.ub HW4.out.size hU5 hW5
                have HD5 := Aside0.mk hD5
                have HU5 := Aside0.mk hU5
                have HDis5 := Aside0.mk hdis5
                have HUb5 := Aside0.mk hub5
                have HW5 := Aside0.mk (wr_below HW4.out HW4.out.size HTa.out.ub hW5)
                clear hD5 hU5 hW5 hdis5 hub5 hu4 hkn
                go_wp2_with fail
                go_roundw
                case rel =>
                  have hl : (O ++ [p]).length ≤ keep.toNat := by rw [List.length_append, List.length_singleton]; have := HOm.out; omega
                  refine ⟨k + 1, m + 1, by omega, by omega, by go_num, by go_num, HW5, ⟨_, _, O ++ [p], by rw [List.length_append, HOm.out]; rfl, ⟨HD5.out, by rw [List.take_of_length_le hl]; exact HU5.out, HDis5.out, H3.out.2.2, HUb5.out, by rw [List.length_append, List.length_singleton]; have := HTa.out.len; omega, by rw [byO_snoc]; have := HTa.out.byt; have := HPl.out; have := HBY.out; omega⟩⟩⟩
                case measure => simp [intOf]; omega
            · have HD1 := Aside0.mk (sRename wa S g l.length L0 O o.f1 o.f2 HTa.out.d HSz.out hnm.1 hnm.2)
              rw [hz] at HD1
              clear hz
              go_wp2_with (first | (go_at_call 59; rw [← HWA.out]; with_reducible refine HD1.out.mono ?_; rintro e w4 ⟨rfl, hD4, hW4⟩; have H3 := Aside0.mk (HTa.out.first HWa.out.size hD4 hW4); have HD4 := Aside0.mk hD4; have HW4 := Aside0.mk (wr_below HWa.out HWa.out.size HTa.out.sb hW4); have HB4 := Aside0.mk (HKW.out w4 S hW4 (fun k h => HRl.out k (.inl h))); have hr0 : w4.cell? ⟨wr.heap.size, 0, none⟩ = some (.int .i64 o.f0) := (blk_cell HB4.out 0).trans rfl; have hr1 : w4.cell? ⟨wr.heap.size, 1, none⟩ = some (.string o.f1) := (blk_cell HB4.out 1).trans rfl; have hr2 : w4.cell? ⟨wr.heap.size, 2, none⟩ = some (.string o.f2) := (blk_cell HB4.out 2).trans rfl; have hr3 : w4.cell? ⟨wr.heap.size, 3, none⟩ = some (.slice B o.f3.length d) := (blk_cell HB4.out 3).trans rfl; have HG4 := Aside0.mk (show wa.heap.size ≤ w4.heap.size from hW4.size); clear hD4 hW4) | fail)
              go_roundw
              case rel => exact ⟨k + 1, m, by omega, by omega, rfl, by go_num, HW4, ⟨_, U, O, HOm.out, ⟨HD4.out, H3.out.1, H3.out.2.1, H3.out.2.2, HTa.out.ub, by have := HTa.out.len; omega, by have := HTa.out.byt; have := HBY.out; omega⟩⟩⟩
              case measure => simp [intOf]; omega
        · obtain rfl : k = ops.length := by omega
          have hOm := HOm.out
          subst hOm
          have HD := Aside0.mk HTw.out.d
          have HU := Aside0.mk HTw.out.u
          have HDis := Aside0.mk HTw.out.dis
          have HSB := Aside0.mk HTw.out.sb
          have HUB := Aside0.mk HTw.out.ub
          have hz : Sz L0 O l.length := by
            have h1 := HTw.out.len
            have h2 := HTw.out.byt
            have h3 := HBd.out
            have h4 := byP_takeN ops ops.length
            exact ⟨by omega, by omega, by omega⟩
          have hz2 : Sz L0 (O.take keep.toNat) l.length := by
            have h1 : (O.take keep.toNat).length ≤ O.length := by rw [List.length_take]; omega
            have h2 := byO_takeN O keep.toNat
            obtain ⟨q1, q2, q3⟩ := hz
            exact ⟨by omega, by omega, by omega⟩
          have hz3 : Sz (viewL L0 (O.take keep.toNat)) [] (l.length + O.length) := by
            have h1 := viewL_length (O.take keep.toNat) L0
            have h2 := byF_viewL (O.take keep.toNat) L0
            have h3 : byO [] = 0 := rfl
            obtain ⟨q1, q2, q3⟩ := hz
            obtain ⟨r1, r2, r3⟩ := hz2
            exact ⟨by simp; omega, by simp; omega, by omega⟩
          have HZ := Aside0.mk hz
          have HZ2 := Aside0.mk hz2
          have HZ3 := Aside0.mk hz3
          have heq : ((O.length : Int) != (O.length : Int)) = false := by simp
          clear hz hz2 hz3 HTw
          go_wp2_with fail
          refine (sPending wr S g l.length L0 O HD.out).mono ?_
          rintro e w4 ⟨rfl, h4⟩
          rw [h4]
          clear h4 w4
          go_wp2_with fail
          refine (sCrash wr S g l.length L0 O keep 0 HD.out HZ.out).mono ?_
          rw [crash_whole]
          rintro e w5 ⟨rfl, hD5, hW5⟩
          have HU5 := Aside0.mk (HU.out.off hW5 (fun k hu hs => HDis.out k hs hu))
          have HDis5 := Aside0.mk (show ∀ k, ext S wr w5 k → ¬ U k from fun k hk hu => hk.1.elim (fun h => HDis.out k h hu) (fun h => by have := HU.out.lt k hu; omega))
          have HSB5 := Aside0.mk (show ∀ k, ext S wr w5 k → w.heap.size ≤ k from fun k hk => hk.1.elim (fun h => HSB.out k h) (fun h => by have := HW.out.size; omega))
          have HB5 := Aside0.mk (wr_below HW.out HW.out.size HSB.out hW5)
          have HD5 := Aside0.mk hD5
          obtain ⟨S5, hS5⟩ : ∃ S5, S5 = ext S wr w5 := ⟨_, rfl⟩
          rw [← hS5] at HD5 HDis5 HSB5
          clear hD5 hW5 hS5 HD HU HDis HSB
          go_wp2_with fail
          refine (sSync w5 U g2 l.length L0 (O.take keep.toNat) HU5.out HZ2.out).mono ?_
          rintro e w6 ⟨rfl, hU6, hW6⟩
          have HD6 := Aside0.mk (HD5.out.off hW6 HDis5.out)
          have HB6 := Aside0.mk (wr_below HB5.out HB5.out.size HUB.out hW6)
          have HU6 := Aside0.mk hU6
          have HZ4 := Aside0.mk (show Sz (viewL L0 (O.take keep.toNat)) [] (l.length + (O.take keep.toNat).length) from Sz.less HZ3.out (by rw [List.length_take]; omega))
          obtain ⟨V, hV⟩ : ∃ V, V = viewL L0 (O.take keep.toNat) := ⟨_, rfl⟩
          rw [← hV] at HD6 HU6 HZ3 HZ4
          have HVE := Aside0.mk hV
          clear hU6 hW6 hV HD5 HB5 HU5
          go_wp2_with fail
          refine (sFiles w6 S5 g _ V [] HD6.out HZ3.out).mono ?_
          rintro e w7 ⟨⟨A7, c7, rfl, _, hC7⟩, hB7⟩
          have HC7 := Aside0.mk hC7
          have HD7 := Aside0.mk (HD6.out.move hB7)
          have HU7 := Aside0.mk (HU6.out.move hB7)
          have HB7 := Aside0.mk (below_then HB6.out HB6.out.size hB7)
          clear hC7 hB7 HD6 HU6 HB6
          go_wp2_with fail
          refine (sFiles w7 _ g2 _ V [] HU7.out HZ4.out).mono ?_
          rintro e w8 ⟨⟨A8, c8, rfl, _, hC8⟩, hB8⟩
          have HC8 := Aside0.mk hC8
          have HC78 := Aside0.mk (Kd.C_below HC7.out hB8)
          have HD8 := Aside0.mk (HD7.out.move hB8)
          have HB8 := Aside0.mk (below_then HB7.out HB7.out.size hB8)
          clear hC8 hB8 HD7 HU7 HB7 HC7
          go_wp2_with fail
          refine (same_true A7 c7 A8 c8 V w8 HC78.out HC8.out).mono ?_
          rintro e w9 ⟨rfl, hd9⟩
          have hB9 := Drawn0.to_below hd9
          have HD9 := Aside0.mk (HD8.out.move hB9)
          have HB9 := Aside0.mk (below_then HB8.out HB8.out.size hB9)
          clear hd9 hB9 HD8 HB8 HC8 HC78
          go_wp2_with fail
          refine (sView w9 S5 g _ V [] HD9.out HZ3.out).mono ?_
          rw [show viewL V [] = V from rfl]
          rintro e w10 ⟨⟨A10, c10, rfl, _, hC10⟩, hB10⟩
          have HC10 := Aside0.mk hC10
          have HD10 := Aside0.mk (HD9.out.move hB10)
          have HB10 := Aside0.mk (below_then HB9.out HB9.out.size hB10)
          clear hC10 hB10 HD9 HB9
          go_wp2_with fail
          refine (sFiles w10 S5 g _ V [] HD10.out HZ3.out).mono ?_
          rintro e w11 ⟨⟨A11, c11, rfl, _, hC11⟩, hB11⟩
          have HC11 := Aside0.mk hC11
          have HC1011 := Aside0.mk (Kd.C_below HC10.out hB11)
          have HD11 := Aside0.mk (HD10.out.move hB11)
          have HB11 := Aside0.mk (below_then HB10.out HB10.out.size hB11)
          clear hC11 hB11 HD10 HB10 HC10
          go_wp2_with fail
          refine (same_true A10 c10 A11 c11 V w11 HC1011.out HC11.out).mono ?_
          rintro e w12 ⟨rfl, hd12⟩
          have hB12 := Drawn0.to_below hd12
          have HD12 := Aside0.mk (HD11.out.move hB12)
          have HB12 := Aside0.mk (below_then HB11.out HB11.out.size hB12)
          clear hd12 hB12 HD11 HB11 HC11 HC1011
          go_wp2_with fail
          refine (sPending w12 S5 g _ V [] HD12.out).mono ?_
          rintro e w13 ⟨rfl, h13⟩
          rw [h13]
          clear h13 w13
          go_wp2_with fail
          refine (works_disk w12).mono ?_
          rintro e w14 ⟨rfl, hB14⟩
          have HB14 := Aside0.mk (below_then HB12.out HB12.out.size hB14)
          clear hB14
          go_wp2_with fail
          go_ret
          exact ⟨rfl, HB14.out⟩
end Go.Proofs.Ytfaniohoplbdoaa.My
/- The statement DiskPrefix returns true for all files, operations and numbers, and these read as before. Conditions: none. -/
namespace Go.Proofs.Ytfaniohoplbdoaa.diskPrefix
open Go.ChangeShapes Go.WideShapes Go.ChangeAt Go.RowKit
open Go.ChangeMaps (open_string shut_string)
open Go.Proofs.Ytfaniohoplbdoaa.My
set_option linter.unusedVariables false
set_option linter.unusedSimpArgs false

theorem own : ownKnob Try.prog.godebug = none := by kernel_rfl
theorem laidOut : laidOutB Try.prog = true := by kernel_rfl

set_option maxRecDepth 100000 in
theorem lifted (os : Os) (started : os.Started) (H : Type) (enc : TypeId × Value → H) :
    ReturnsInHanded {} Try.checked os 15 .any (Rows.diskPrefixSpec.pre6 enc Try.prog Try.f15 Rows.diskPrefixRow.domain false) (Rows.diskPrefixSpec.post enc Try.prog Try.f15 false true false false) := by
  refine returnsInHanded_of_change_sized (C := Try.checked) own started (by kernel_rfl) Try.func15
    (ChangeSpec.witness6 (enc := enc) (C := Try.checked) false ⟨#[], #[.slice none 0 0, .slice none 0 0, .int .i64 0], []⟩ 8 (by kernel_rfl) (by kernel_rfl) (by kernel_rfl) (by kernel_rfl)) ?_
  intro W base args ds gs before hval0 hW hcnd hsz0 _
  have hsz : (DataW.weightsEach Try.prog (Try.f15.params.toList ++ Rows.diskPrefixSpec.plain.varTypes Try.prog) (ds ++ gs)).all (· ≤ reachBytes) = true := hsz0
  have hval : ∀ (j : Nat) t v, Try.f15.params[j]? = some t → args[j]? = some v → Value.okWide Try.prog W .any base t v := hval0
  have hW' := hW
  obtain ⟨p, q, hA0, hV, rfl, hfz, hnd⟩ := hW
  have hA : DataW.TrodAll enc Try.prog W 0 (fun _ => true) true Try.f15.params.toList args.toList ds p := hA0
  rw [Try.params15] at hA hval hsz
  obtain ⟨v0, vs0, d0, ds0, p0, q0, hargs, rfl, rfl, h0, r0⟩ := trodAll_cons hA
  obtain ⟨v1, vs1, d1, ds1, p1, q1, rfl, rfl, rfl, h1, r1⟩ := trodAll_cons r0
  obtain ⟨v2, vs2, d2, ds2, p2, q2, rfl, rfl, rfl, h2, r2⟩ := trodAll_cons r1
  obtain ⟨rfl, rfl, rfl⟩ := trodAll_nil r2
  obtain rfl : args = #[v0, v1, v2] := by cases args; simp_all
  obtain ⟨rfl, rfl⟩ := trodVars_none hV
  obtain ⟨a0, len0, cap0, rfl⟩ := okWide_slice Try.underlying42 (hval 0 42 v0 rfl rfl)
  obtain ⟨a1, len1, cap1, rfl⟩ := okWide_slice Try.underlying91 (hval 1 91 v1 rfl rfl)
  obtain ⟨a2, rfl, rfl, rfl, w2⟩ := open_int Try.underlying3 (hval 2 3 v2 rfl rfl) h2
  have k0 := h0
  have k1 := h1
  have lt0 : ∀ x ∈ p0, x.block < W.heap.size := by obtain ⟨m, hm⟩ := k0; exact DataW.trod_lt m _ _ _ hm
  have lt1 : ∀ x ∈ p1, x.block < W.heap.size := by obtain ⟨m, hm⟩ := k1; exact DataW.trod_lt m _ _ _ hm
  obtain ⟨l, rfl, hF⟩ := open_files_sized hsz (j := 0) rfl rfl h0
  obtain ⟨ops, rfl, hP⟩ := open_ops_sized hsz (j := 1) rfl rfl h1
  clear hA0 hval0 hsz0 hsz
  refine (law_prefix a0 cap0 l a1 cap1 ops a2 W hF hP).mono fun e W' ⟨he, bel⟩ => ?_
  subst he
  exact ⟨_, rfl, _, _, _, [], _, [], hW', trodAll_mk1 (shut_bool Try.underlying4 _), (trodAll_cons_mk (Below.trod laidOut (by kernel_rfl) (of_decide_eq_true (by kernel_rfl)) k0 bel lt0) (trodAll_cons_mk (Below.trod laidOut (by kernel_rfl) (of_decide_eq_true (by kernel_rfl)) k1 bel lt1) (trodAll_cons_mk (shut_int Try.underlying3 w2) trodAll_mk0))), rfl, bel.frame _, fun h => by cases h⟩

theorem over : Rows.diskPrefixRow.holds Try.pinned (OpenSpec.ofChange Rows.diskPrefixSpec) :=
  OpenClaim.holds_of_wide 15 Try.f15 rfl rfl rfl rfl rfl rfl rfl ⟨rfl, rfl, rfl, rfl, rfl⟩ rfl rfl rfl rfl rfl (by kernel_rfl) Try.func15 (by kernel_rfl)
    (of_decide_eq_true (by kernel_rfl)) (by unfold Func.isWrapper; first | (rw [if_pos (by decide +kernel)]; kernel_rfl) | (rw [if_neg (by decide +kernel)]; exact ⟨rfl, rfl⟩))
    (fun os started H enc _ => lifted os started H enc)

theorem proved : Rows.DiskPrefixSaid := over
#print axioms proved
end Go.Proofs.Ytfaniohoplbdoaa.diskPrefix
