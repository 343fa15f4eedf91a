/- Operations as arguments; the statement ItreeActs. -/
import Derived.Test.YtdjfjmcnghfdkaaIV
namespace Go.Proofs.Ytdjfjmcnghfdkaa.My
open Go Go.RowKit Go.Proofs.YtdjfjmcnghfdkaaW.PrintWords Go.Proofs.YtdjfjmcnghfdkaaW.PrintLast Go.Proofs.YtdjfjmcnghfdkaaW.PrintMore Go.Proofs.Ytdjfjmcnghfdkaa.PItreeActs
set_option linter.unusedVariables false
set_option linter.unusedSimpArgs false
def k46 : Kd S46 := Kd.iso (Kd.pair (Kd.int .i64) k30) (fun x : S46 => (x.f0, x.f1))
theorem k46_open {w : World} {x : S46} {cs : List Value} (h : k46.K w x cs) : cs = [.int .i64 x.f0, .int .i64 x.f1.f0.f0, .int .i64 x.f1.f0.f1, .int .i64 x.f1.f1] := by
  obtain ⟨_, _, rfl, rfl, s0⟩ := h
  obtain rfl := k30_open s0
  exact rfl
theorem k46_mk (w : World) (x : S46) : k46.K w x [.int .i64 x.f0, .int .i64 x.f1.f0.f0, .int .i64 x.f1.f0.f1, .int .i64 x.f1.f1] := ⟨[.int .i64 x.f0], [.int .i64 x.f1.f0.f0, .int .i64 x.f1.f0.f1, .int .i64 x.f1.f1], rfl, rfl, k30_mk w x.f1⟩
theorem at_op {w : World} {A : Option Addr} {xs : List S46} (h : Kd.C k46 w A xs.length xs) (k : Nat) (hk : k < xs.length) : ∃ ad, A = some ad ∧ w.cell? (ad.add (k * 4)) = some (.int .i64 xs[k].f0) ∧ w.cell? ⟨(ad.add (k * 4)).block, (ad.add (k * 4)).off + 1, none⟩ = some (.int .i64 xs[k].f1.f0.f0) ∧ w.cell? ⟨(ad.add (k * 4)).block, (ad.add (k * 4)).off + 2, none⟩ = some (.int .i64 xs[k].f1.f0.f1) ∧ w.cell? ⟨(ad.add (k * 4)).block, (ad.add (k * 4)).off + 3, none⟩ = some (.int .i64 xs[k].f1.f1) := by
  obtain ⟨ad, c, e, _, hK, hc0⟩ := Kd.C_get h z46 (k : Int) (by omega) (by omega)
  have e1 : xs.getD (k : Int).toNat z46 = xs[k] := by simp [List.getD_eq_getElem?_getD, hk]
  rw [e1] at hK
  have hc : ∀ j u, c[j]? = some u → w.cell? (ad.add (k * 4 + j)) = some u := hc0
  obtain rfl := k46_open hK
  exact ⟨ad, e, hc 0 _ rfl, by rw [← add_field _ _ 1 (by omega)]; exact hc 1 _ rfl, by rw [← add_field _ _ 2 (by omega)]; exact hc 2 _ rfl, by rw [← add_field _ _ 3 (by omega)]; exact hc 3 _ rfl⟩
theorem at_item {w : World} {A : Option Addr} {xs : List S30} (h : Kd.C k30 w A xs.length xs) (k : Nat) (hk : k < xs.length) : ∃ ad, A = some ad ∧ w.cell? (ad.add (k * 3)) = some (.int .i64 xs[k].f0.f0) ∧ w.cell? ⟨(ad.add (k * 3)).block, (ad.add (k * 3)).off + 1, none⟩ = some (.int .i64 xs[k].f0.f1) ∧ w.cell? ⟨(ad.add (k * 3)).block, (ad.add (k * 3)).off + 2, none⟩ = some (.int .i64 xs[k].f1) := by
  obtain ⟨ad, e, h0, h1, h2⟩ := at_T30 h (k : Int) (by omega) (by omega)
  rw [rd_item hk, Int.toNat_natCast] at h0 h1 h2
  exact ⟨ad, e, h0, h1, h2⟩
abbrev TruePost (w : World) : Ending → World → Prop := fun e w' => e = .returned (.bool true) ∧ Below w.heap.size w w'
theorem Pair.start {w0 w : World} {S : Nat → Prop} {t : Nat} {Q : Tr S30} (h : TG w S t .nil) (hs : ∀ k, S k → w0.heap.size ≤ k) (hb : Below w0.heap.size w0 w) : Pair w0 w S (fun _ => False) t (.slice none 0 0) .nil :=
  ⟨h, XR.nil _ _, fun _ _ h => h, hs, hb⟩
theorem itemseq_same (w : World) (A A' : Option Addr) (c c' n : Nat) (L : List S30) (hn : n = L.length) (h : L.length ≤ c ∧ Kd.C k30 w A L.length L) (h' : L.length ≤ c' ∧ Kd.C k30 w A' L.length L) (hl : L.length ≤ 1000000) :
    Calls Try.prog 23 #[.slice A n c, .slice A' n c'] w fun e w' => e = .returned (.bool true) ∧ Drawn0 w w' := by
  subst hn
  exact (itemseq_calls w A A' c c' L L h.2 h'.2 h.1 h'.1 hl).mono fun e w' ⟨he, hd⟩ => ⟨by rw [he]; simp, hd⟩
theorem XR.row {w : World} {base : Nat} {X : Nat → Prop} {A : Option Addr} {n c : Nat} {l : List S30} (h : XR w base X (.slice A n c) l) : l.length ≤ c ∧ Kd.C k30 w A l.length l := by
  obtain ⟨h1, h2, h3⟩ := Kd.R_reads' h.1
  exact ⟨by omega, h3⟩
set_option maxHeartbeats 4000000 in
set_option maxRecDepth 100000 in
theorem law_acts (A : Option Addr) (c : Nat) (l : List S46) (w : World) (hl : Kd.C k46 w A l.length l) :
    Calls Try.prog 6 #[.slice A l.length c] w (TruePost w) := by
  have hm := Kd.C_max hl
  have HL := Aside0.mk (fun (W : World) (hB : Below w.heap.size w W) => (show Kd.C k46 W A l.length l from Kd.C_below hl hB))
  have hu46 := Try.underlying46
  by_cases hbig : 150 < l.length
  · clear hl
    go_enter Try.func6, Try.ntmps6
    go_wp2_with (first
      | (go_at_call 10; refine (bnew w w (Below.refl _ _)).mono ?_; rintro e w1 ⟨t, rfl, hT, hB⟩; have HB := Aside0.mk hB; clear hT hB)
      | (go_at_call 9; refine (works_calls w w1 HB.out).mono ?_; rintro e w2 ⟨rfl, hB⟩; have HB2 := Aside0.mk (below_then HB.out HB.out.size hB); clear hB))
    go_ret
    exact ⟨rfl, HB2.out⟩
  · clear hl
    go_enter Try.func6, Try.ntmps6
    go_wp2_with (first
      | (go_at_call 10; refine (tnew_calls w).mono ?_; rintro e w1 ⟨t, rfl, hT, hB⟩; have HT := Aside0.mk hT; have HB := Aside0.mk hB; clear hT hB))
    go_loopw [4, 24] (fun u i wr => ∃ (k n c' : Nat) (A' : Option Addr), k ≤ l.length ∧ n ≤ k ∧ i = .int .i64 k ∧ u = .slice A' n c' ∧ Aside0 (∃ S X Q, Pair w wr S X t (.slice A' n c') Q ∧ n = Q.list.length)) (fun _ i _ => l.length - (intOf i).toNat)
    case atStart => exact ⟨0, 0, 0, none, by omega, by omega, rfl, rfl, ⟨_, _, .nil, Pair.start (Q := .nil) HT.out (fun k hk => hk.1) HB.out, rfl⟩⟩
    case round =>
      obtain ⟨k, n, c', A', hk, hnk, rfl, rfl, HP⟩ := hrel
      obtain ⟨S, X, Q, hP, hnq⟩ := HP.out
      have HPr := Aside0.mk hP
      have HNQ := Aside0.mk hnq
      have HPB := Aside0.mk hP.below
      clear HP hP hnq HT HB
      by_cases hlt : k < l.length
      · obtain ⟨ad, rfl, hc0, hc1, hc2, hc3⟩ := at_op (HL.out wr HPB.out) k hlt
        obtain ⟨o, ho⟩ : ∃ o, o = l[k] := ⟨_, rfl⟩
        rw [← ho] at hc0 hc1 hc2 hc3
        clear ho
        obtain ⟨wa, hwa⟩ : ∃ wa, wa = wr.alloc (.cells #[.int .i64 o.f0, .int .i64 o.f1.f0.f0, .int .i64 o.f1.f0.f1, .int .i64 o.f1.f1] 46) := ⟨_, rfl⟩
        have HWA := Aside0.mk hwa
        have HPa := Aside0.mk (HPr.out.move (w' := wa) (by rw [hwa]; exact below_alloc (Below.refl _ _) _))
        have HLen := Aside0.mk (len_stepT HPr.out.tree.2.ord o)
        clear hwa
        go_wp2_with (first
          | (go_at_call 22; rw [← HWA.out]; refine (do_calls w wa S X t _ Q o HPa.out (by have := HNQ.out; omega)).mono ?_; rintro e w2 ⟨u', S2, X2, rfl, hP2⟩
             have HP2 := Aside0.mk hP2
             obtain ⟨A2, c2, rfl⟩ := Kd.R_slice hP2.list.1
             obtain ⟨n2, hn2⟩ : ∃ n2, n2 = (stepT Q o).1.list.length := ⟨_, rfl⟩
             have HN2 := Aside0.mk hn2
             rw [← hn2]
             have hn2k : n2 ≤ k + 1 := by have := HLen.out; have := HNQ.out; omega
             clear hP2 hn2)
          | (go_at_call 20; refine (len_calls w2 S2 t _ _ HP2.out.tree.1).mono ?_; rintro e _ ⟨rfl, rfl⟩; rw [← HN2.out])
          | (go_at_call 24; refine (items_calls w2 S2 t _ _ HP2.out.tree.1 (by have := HN2.out; omega)).mono ?_; rintro e w3 ⟨v3, rfl, hR, hB⟩; have HP3 := Aside0.mk (HP2.out.move hB); have hrr := Kd.R_reads hR; obtain ⟨A3, c3, rfl, hc3, hC3⟩ := hrr; have HC3 := Aside0.mk (And.intro hc3 hC3); rw [← HN2.out]; clear hR hB hc3 hC3 HP2)
          | (go_at_call 23; refine (itemseq_same w3 A3 A2 c3 c2 n2 _ HN2.out HC3.out HP3.out.list.row (by have := HN2.out; omega)).mono ?_; rintro e w4 ⟨rfl, hd⟩; have hB4 := hd.below; have HP4 := Aside0.mk (HP3.out.move hB4); clear hd hB4 HP3 HC3))
        go_roundw
        case rel => exact ⟨k + 1, n2, c2, A2, by omega, hn2k, by go_num, rfl, ⟨S2, X2, _, by rw [HN2.out]; exact HP4.out, HN2.out⟩⟩
        case measure => simp [intOf]; omega
      · go_wp2_with (first
          | (go_at_call 9; refine (works_calls w wr HPB.out).mono ?_; rintro e w2 ⟨rfl, hB⟩; have HB2 := Aside0.mk (below_then HPB.out HPB.out.size hB); clear hB))
        go_ret
        exact ⟨rfl, HB2.out⟩
end Go.Proofs.Ytdjfjmcnghfdkaa.My
