/- contains; the statement ItreeInstants. -/
import Derived.Test.YtdjfjmcnghfdkaaIW
namespace Go.Proofs.Ytdjfjmcnghfdkaa.My
open Go Go.RowKit Go.Proofs.YtdjfjmcnghfdkaaW.PrintWords Go.Proofs.YtdjfjmcnghfdkaaW.PrintLast Go.Proofs.YtdjfjmcnghfdkaaW.PrintMore Go.Proofs.Ytdjfjmcnghfdkaa.PItreeActs
set_option linter.unusedVariables false
set_option linter.unusedSimpArgs false
theorem at_num {w : World} {A : Option Addr} {xs : List Int} (h : Kd.C (Kd.int .i64) w A xs.length xs) (k : Nat) (hk : k < xs.length) : ∃ ad, A = some ad ∧ w.cell? (ad.add k) = some (.int .i64 xs[k]) := by
  obtain ⟨ad, c, e, _, hK, hc0⟩ := Kd.C_get h 0 (k : Int) (by omega) (by omega)
  have e1 : xs.getD (k : Int).toNat 0 = xs[k] := by simp [List.getD_eq_getElem?_getD, hk]
  rw [e1] at hK
  have hc : ∀ j u, c[j]? = some u → w.cell? (ad.add (k * 1 + j)) = some u := hc0
  obtain rfl : c = [.int .i64 xs[k]] := hK
  exact ⟨ad, e, by have := hc 0 _ rfl; simpa using this⟩
set_option maxHeartbeats 1000000 in
set_option maxRecDepth 100000 in
theorem contains_calls (A : Option Addr) (c : Nat) (xs : List Int) (z : Int) (w : World) (h : Kd.C (Kd.int .i64) w A xs.length xs) :
    Calls Try.prog 13 #[.slice A xs.length c, .int .i64 z] w fun e w' => e = .returned (.bool (decide (z ∈ xs))) ∧ w = w' := by
  have hm := Kd.C_max h
  have H := Aside0.mk h
  obtain ⟨b, hb⟩ : ∃ b, b = decide (z ∈ xs) := ⟨_, rfl⟩
  rw [← hb]
  have HB := Aside0.mk hb
  clear h hb
  go_enter Try.func13, Try.ntmps13
  go_wp2
  go_loop [9] (fun i => ∃ k : Nat, k ≤ xs.length ∧ i = .int .i64 k ∧ Aside0 (z ∉ xs.take k)) (fun i => xs.length - (intOf i).toNat)
  case atStart => exact ⟨0, by omega, rfl, ⟨by simp⟩⟩
  case round =>
    obtain ⟨k, hk, rfl, HN⟩ := hrel
    by_cases hlt : k < xs.length
    · obtain ⟨ad, rfl, hc⟩ := at_num H.out k hlt
      obtain ⟨y, hy⟩ : ∃ y, y = xs[k] := ⟨_, rfl⟩
      rw [← hy] at hc
      have HY := Aside0.mk hy
      clear hy
      by_cases he : y = z
      · have heb : (y == z) = true := by simp [he]
        have HE := Aside0.mk (show b = true by rw [HB.out, decide_eq_true_eq, ← he, HY.out]; exact List.getElem_mem _)
        clear he
        go_wp2
        go_ret
        exact ⟨by rw [HE.out]; rfl, rfl⟩
      · have heb : (y == z) = false := by simp [he]
        have HE := Aside0.mk he
        clear he
        go_wp2
        go_round
        case rel => exact ⟨k + 1, by omega, by go_num, ⟨by
          rw [List.take_succ_eq_append_getElem hlt, List.mem_append]
          rintro (h | h)
          · exact HN.out h
          · simp at h
            exact HE.out (by rw [HY.out, h])⟩⟩
        case measure => simp [intOf]; omega
    · have HE := Aside0.mk (show b = false by rw [HB.out, decide_eq_false_iff_not]; have := HN.out; rw [List.take_of_length_le (by omega)] at this; exact this)
      go_wp2
      go_ret
      exact ⟨by rw [HE.out]; rfl, rfl⟩
/-- Every item that an interval meets has an instant of it. -/
theorem ov_st {Q : Tr S30} {n : Nat} (h : Good Q n) {a N : Int} {id : Int} (hid : id ∈ ovT ⟨a, a + N⟩ Q) (hN : 0 < N) : ∃ i : Nat, (i : Int) < N ∧ id ∈ stT (a + i) Q := by
  obtain ⟨_, z, hz, he, hh⟩ := ((ovT_spec (p := ⟨a, a + N⟩) h.ord).2 id).1 hid
  unfold Hit at hh
  dsimp only at hh
  by_cases hc : a ≤ z.f0.f0
  · exact ⟨(z.f0.f0 - a).toNat, by omega, ((stT_spec (at_ := a + ((z.f0.f0 - a).toNat : Nat)) h).2 id).2 ⟨z, hz, he, by
      have hv := h.val z hz
      unfold vldB at hv
      simp only [decide_eq_true_eq] at hv
      constructor <;> omega⟩⟩
  · exact ⟨0, by omega, ((stT_spec (at_ := a + ((0 : Nat) : Int)) h).2 id).2 ⟨z, hz, he, by constructor <;> simp <;> omega⟩⟩
theorem st_ov {Q : Tr S30} {n : Nat} (h : Good Q n) {a N : Int} {id : Int} {i : Nat} (ha : 0 ≤ a) (hN : a + N ≤ 1099511627776) (hi : (i : Int) < N) (hid : id ∈ stT (a + i) Q) : id ∈ ovT ⟨a, a + N⟩ Q := by
  obtain ⟨z, hz, he, h1, h2⟩ := ((stT_spec (at_ := a + i) h).2 id).1 hid
  refine ((ovT_spec (p := ⟨a, a + N⟩) h.ord).2 id).2 ⟨?_, z, hz, he, ?_⟩
  · unfold vldB; simp only [decide_eq_true_eq]; omega
  · unfold Hit; dsimp only; omega
theorem TB.good {w0 w : World} {t : Nat} {Q : Tr S30} (h : TB w0 w t Q) : Good Q Q.list.length := by
  obtain ⟨S, h1, _⟩ := h
  exact h1.2
theorem HN.len2 {w : World} {base : Nat} {v : Value} {zs : List Int} (h : HN w base v zs) : zs.length ≤ 1000000 := by
  obtain ⟨A, c, rfl, hn, _⟩ := h
  exact hn
/-- The tree and what was found: both of the call's own. -/
structure TF (w0 w : World) (t : Nat) (Q : Tr S30) (v : Value) (F : List Int) : Prop where
  tb : TB w0 w t Q
  hn : HN w w0.heap.size v F
theorem TF.move {w0 w w' : World} {t : Nat} {Q : Tr S30} {v : Value} {F : List Int} (h : TF w0 w t Q v F) (hb : Below w.heap.size w w') : TF w0 w' t Q v F := ⟨h.tb.move hb, h.hn.move hb⟩
theorem HN.row {w : World} {base n c : Nat} {A : Option Addr} {F : List Int} (h : HN w base (.slice A n c) F) : n = F.length ∧ Kd.C (Kd.int .i64) w A F.length F := by
  obtain ⟨A', c', e, _, hC⟩ := h.reads'
  injection e with e1 e2 e3
  subst e1
  exact ⟨e2, hC⟩
set_option maxHeartbeats 8000000 in
set_option maxRecDepth 100000 in
theorem law_instants (A : Option Addr) (c : Nat) (l : List S30) (z1 z2 : Int) (w : World) (hl : Kd.C k30 w A l.length l) (h1 : 0 ≤ z1 ∧ z1 ≤ 65535) (h2 : 0 ≤ z2 ∧ z2 ≤ 255) :
    Calls Try.prog 3 #[.slice A l.length c, .int .u16 z1, .int .u8 z2] w (TruePost w) := by
  have hm := Kd.C_max hl
  have HL := Aside0.mk (fun (W : World) (hB : Below w.heap.size w W) => (show Kd.C k30 W A l.length l from Kd.C_below hl hB))
  have hu30 := Try.underlying30
  have hu28 := Try.underlying28
  obtain ⟨h10, h11⟩ := h1
  obtain ⟨h20, h21⟩ := h2
  obtain ⟨N, hN⟩ : ∃ N : Nat, (N : Int) = z2 % 100 + 1 := ⟨(z2 % 100 + 1).toNat, by omega⟩
  have hN1 : 1 ≤ N := by omega
  have hN100 : N ≤ 100 := by omega
  by_cases hbig : 100 < l.length
  · clear hl
    go_enter Try.func3, Try.ntmps3
    go_wp2_with (go_at_call 9; refine (works_calls w w (Below.refl _ _)).mono ?_; rintro e w2 ⟨rfl, hB⟩; have HB2 := Aside0.mk hB; clear hB)
    go_ret
    exact ⟨rfl, HB2.out⟩
  · clear hl
    go_enter Try.func3, Try.ntmps3
    go_wp2_with (go_at_call 10; refine (bnew w w (Below.refl _ _)).mono ?_; rintro e w1 ⟨t, rfl, hT, hB⟩; have HT := Aside0.mk hT; clear hT hB)
    rw [← hN]
    have HNN := Aside0.mk hN
    clear hN
    go_loopw [31] (fun i wr => ∃ (k : Nat), k ≤ l.length ∧ i = .int .i64 k ∧ Aside0 (∃ Q, TB w wr t Q ∧ Q.list.length ≤ k)) (fun i _ => l.length - (intOf i).toNat)
    case atStart => exact ⟨0, by omega, rfl, ⟨.nil, HT.out, by decide⟩⟩
    case round =>
      obtain ⟨k, hk, rfl, HP⟩ := hrel
      obtain ⟨Q, hP, hnq⟩ := HP.out
      have HPr := Aside0.mk hP
      have HNQ := Aside0.mk hnq
      have HPB := Aside0.mk hP.below
      clear HP hP hnq HT
      by_cases hlt : k < l.length
      · obtain ⟨ad, rfl, hc0, hc1, hc2⟩ := at_item (HL.out wr HPB.out) k hlt
        obtain ⟨x, hx⟩ : ∃ x, x = l[k] := ⟨_, rfl⟩
        rw [← hx] at hc0 hc1 hc2
        clear hx
        obtain ⟨wa, hwa⟩ : ∃ wa, wa = wr.alloc (.cells #[.int .i64 x.f0.f0, .int .i64 x.f0.f1, .int .i64 x.f1] 30) := ⟨_, rfl⟩
        have HWA := Aside0.mk hwa
        have HPa := Aside0.mk (HPr.out.move (w' := wa) (by rw [hwa]; exact below_alloc (Below.refl _ _) _))
        have HLen := Aside0.mk (len_addT Q x)
        clear hwa
        go_wp2_with (go_at_call 11; rw [← HWA.out]; refine (badd w wa t Q x _ rfl HPa.out (by have := HNQ.out; omega)).mono ?_; rintro e w2 ⟨rfl, hT2⟩; have HT2 := Aside0.mk hT2; clear hT2)
        go_roundw
        case rel => exact ⟨k + 1, by omega, by go_num, ⟨_, HT2.out, by have := HLen.out; have := HNQ.out; omega⟩⟩
        case measure => simp [intOf]; omega
      · have hq : Q.list.length ≤ 100 := by have := HNQ.out; omega
        have HQ := Aside0.mk hq
        clear hq
        go_wp2_with (go_at_call 12; refine (bov w wr t Q ⟨z1, z1 + N⟩ HPr.out (by have := HQ.out; omega)).mono ?_
                     rintro e w2 ⟨v2, rfl, hH, hB⟩
                     have HTF := Aside0.mk (TF.mk (HPr.out.move hB) (hH.lower HPB.out.size))
                     have HG := Aside0.mk HPr.out.good
                     obtain ⟨F, hF⟩ : ∃ F, F = ovT ⟨z1, z1 + N⟩ Q := ⟨_, rfl⟩
                     rw [← hF] at HTF
                     have HF := Aside0.mk hF
                     have HFL := Aside0.mk HTF.out.hn.len2
                     obtain ⟨AF, cF, rfl, _, _⟩ := HTF.out.hn
                     obtain ⟨f, hf⟩ : ∃ f, f = F.length := ⟨_, rfl⟩
                     rw [← hf] at HTF ⊢
                     have HFf := Aside0.mk hf
                     clear hF hf hH hB)
        have hfl : f ≤ 1000000 := by have := HFL.out; have := HFf.out; omega
        clear HPr HNQ HPB hk hlt hbig
        go_loopw [12, 53] (fun s i wr => ∃ (k : Nat), k ≤ f ∧ i = .int .i64 k ∧ s = .int .i64 k ∧ Aside0 (TF w wr t Q (.slice AF f cF) F)) (fun _ i _ => f - (intOf i).toNat)
        case atStart => exact ⟨0, by omega, rfl, rfl, HTF⟩
        case round =>
          obtain ⟨k2, hk2, rfl, rfl, HT2⟩ := hrel
          clear HTF
          by_cases hlt2 : k2 < f
          · obtain ⟨ad2, rfl, hc⟩ := at_num (HN.row HT2.out.hn).2 k2 (by rw [← HFf.out]; exact hlt2)
            obtain ⟨id, hid⟩ : ∃ id, id = F[k2]'(by rw [← HFf.out]; exact hlt2) := ⟨_, rfl⟩
            rw [← hid] at hc
            have HID := Aside0.mk (show id ∈ ovT ⟨z1, z1 + N⟩ Q by rw [← HF.out, hid]; exact List.getElem_mem _)
            have HEX := Aside0.mk (ov_st HG.out HID.out (by omega))
            clear hid
            obtain ⟨wo, hwo⟩ : ∃ wo, wo = wr := ⟨_, rfl⟩
            subst hwo
            go_wp2_with fail
            have HTo := Aside0.mk HT2.out
            clear HT2
            go_loopw [15, 16] (fun sm a wi => ∃ (j : Nat) (s : Bool), j ≤ N ∧ a = .int .i64 (z1 + j) ∧ sm = .bool s ∧ Aside0 (s = false → ∀ i : Nat, i < j → id ∉ stT (z1 + i) Q) ∧ Aside0 (TF w wi t Q (.slice (some ad2) f cF) F)) (fun _ a _ => (z1 + N - intOf a).toNat)
            case atStart => exact ⟨0, false, by omega, by simp, rfl, ⟨fun _ i hi => absurd hi (by omega)⟩, HTo⟩
            case round =>
              obtain ⟨j, s, hj, rfl, rfl, HS, HT3⟩ := hrel
              clear HTo
              cases s with
              | true =>
                by_cases hjN : j < N
                all_goals
                  go_wp2_with fail
                  go_roundw
                  case rel => exact ⟨k2 + 1, by omega, by go_num, by go_num, HT3⟩
                  case measure => simp [intOf]; omega
              | false =>
                by_cases hjN : j < N
                · obtain ⟨b, hb⟩ : ∃ b, b = decide (id ∈ stT (z1 + j) Q) := ⟨_, rfl⟩
                  have HB := Aside0.mk hb
                  clear hb
                  go_wp2_with (first
                    | (go_at_call 14; refine (bst w wr t Q (z1 + j) HT3.out.tb (by have := HQ.out; omega)).mono ?_
                       rintro e w4 ⟨v4, rfl, hH, hB⟩
                       have HT4 := Aside0.mk (HT3.out.move hB)
                       obtain ⟨A4, c4, rfl, hc4, hC4⟩ := hH.reads'
                       have HC4 := Aside0.mk (contains_calls A4 c4 _ id w4 hC4)
                       rw [← HB.out] at HC4
                       clear hH hB hc4 hC4)
                    | (go_at_call 13; refine HC4.out.mono ?_; rintro e _ ⟨rfl, rfl⟩; clear HC4))
                  exact ⟨⟨j + 1, b, by omega, by rw [show z1 + (j : Int) + 1 = z1 + ((j + 1 : Nat) : Int) by omega], rfl, ⟨fun hb0 i hi => by
                    rcases Nat.lt_or_eq_of_le (Nat.le_of_lt_succ hi) with h | h
                    · exact HS.out (by trivial) i h
                    · rw [h]; have := HB.out; rw [hb0] at this; simpa using this.symm⟩, HT4⟩, by simp [intOf]; omega⟩
                · exfalso
                  obtain ⟨i, hi, hm⟩ := HEX.out
                  exact HS.out rfl i (by omega) hm
          · obtain ⟨rfl⟩ : k2 = f := by omega
            have HTo := Aside0.mk HT2.out
            clear HT2
            go_wp2_with fail
            go_loopw [17] (fun a wi => ∃ (j : Nat), j ≤ N ∧ a = .int .i64 (z1 + j) ∧ Aside0 (TF w wi t Q (.slice AF f cF) F)) (fun a _ => (z1 + N - intOf a).toNat)
            case atStart => exact ⟨0, by omega, by simp, HTo⟩
            case round =>
              obtain ⟨j, hj, rfl, HT3⟩ := hrel
              clear HTo
              by_cases hjN : j < N
              · go_wp2_with (go_at_call 14; refine (bst w wr t Q (z1 + j) HT3.out.tb (by have := HQ.out; omega)).mono ?_
                             rintro e w4 ⟨v4, rfl, hH, hB⟩
                             have HT4 := Aside0.mk (HT3.out.move hB)
                             have hH' := HN.lower hH HT3.out.tb.below.size
                             obtain ⟨G, hG⟩ : ∃ G, G = stT (z1 + j) Q := ⟨_, rfl⟩
                             rw [← hG] at hH'
                             have HGG := Aside0.mk hG
                             have HGL := Aside0.mk hH'.len2
                             obtain ⟨A4, c4, rfl, _, _⟩ := hH'.reads'
                             obtain ⟨g, hg⟩ : ∃ g, g = G.length := ⟨_, rfl⟩
                             rw [← hg] at hH' ⊢
                             have HGf := Aside0.mk hg
                             have HHG := Aside0.mk hH'
                             clear hG hg hH hB hH')
                have hgl : g ≤ 1000000 := by have := HGL.out; have := HGf.out; omega
                obtain ⟨wo, hwo⟩ : ∃ wo, wo = wr := ⟨_, rfl⟩
                subst hwo
                clear HT3
                go_loopw [95] (fun i wi => ∃ (m : Nat), m ≤ g ∧ i = .int .i64 m ∧ Aside0 (TF w wi t Q (.slice AF f cF) F) ∧ Aside0 (HN wi w.heap.size (.slice A4 g c4) G)) (fun i _ => g - (intOf i).toNat)
                case atStart => exact ⟨0, by omega, rfl, HT4, HHG⟩
                case round =>
                  obtain ⟨m, hm, rfl, HT5, HH5⟩ := hrel
                  clear HT4 HHG
                  by_cases hmg : m < g
                  · obtain ⟨ad4, rfl, hc4⟩ := at_num (HN.row HH5.out).2 m (by rw [← HGf.out]; exact hmg)
                    obtain ⟨id, hid⟩ : ∃ id, id = G[m]'(by rw [← HGf.out]; exact hmg) := ⟨_, rfl⟩
                    rw [← hid] at hc4
                    have HCN := Aside0.mk (contains_calls AF cF F id wr (HN.row HT5.out.hn).2)
                    have hin : id ∈ F := by
                      rw [HF.out]
                      refine st_ov HG.out h10 (by omega) (i := j) (by omega) ?_
                      rw [← HGG.out, hid]
                      exact List.getElem_mem _
                    rw [← HFf.out, decide_eq_true hin] at HCN
                    clear hid hin
                    go_wp2_with (go_at_call 13; refine HCN.out.mono ?_; rintro e _ ⟨rfl, rfl⟩; clear HCN)
                    go_roundw
                    case rel => exact ⟨m + 1, by omega, by go_num, HT5, HH5⟩
                    case measure => simp [intOf]; omega
                  · go_wp2_with fail
                    go_roundw
                    case rel => exact ⟨j + 1, by omega, by rw [show z1 + (j : Int) + 1 = z1 + ((j + 1 : Nat) : Int) by omega], HT5⟩
                    case measure => simp [intOf]; omega
              · go_wp2_with (go_at_call 9; refine (works_calls w wr HT3.out.tb.below).mono ?_; rintro e w4 ⟨rfl, hB⟩; have HB4 := Aside0.mk (below_then HT3.out.tb.below HT3.out.tb.below.size hB); clear hB)
                go_ret
                exact ⟨rfl, HB4.out⟩
end Go.Proofs.Ytdjfjmcnghfdkaa.My
