/- Two trees; the statement ItreeOrder. -/
import Derived.Test.YtdjfjmcnghfdkaaIW
import Derived.Test.YtdjfjmcnghfdkaaPItreeActsx2
namespace Go.Proofs.Ytdjfjmcnghfdkaa.My
open Go Go.RowKit Go.Proofs.YtdjfjmcnghfdkaaW.PrintWords Go.Proofs.YtdjfjmcnghfdkaaW.PrintLast Go.Proofs.YtdjfjmcnghfdkaaW.PrintMore Go.Proofs.Ytdjfjmcnghfdkaa.PItreeActs
attribute [local go_sem high] eqA28 eqA30
set_option linter.unusedVariables false
set_option linter.unusedSimpArgs false
theorem HN.len3 {w : World} {base : Nat} {v : Value} {zs : List Int} (h : HN w base v zs) : zs.length ≤ 1000000 := by
  obtain ⟨A, c, rfl, hn, _⟩ := h
  exact hn
theorem ints_same2 (w : World) (A A' : Option Addr) (c c' n : Nat) (a : List Int) (hn : n = a.length) (h : n ≤ c) (h' : n ≤ c') (hC : Kd.C (Kd.int .i64) w A a.length a) (hC' : Kd.C (Kd.int .i64) w A' a.length a) (hl : a.length ≤ 1000000) :
    Calls Try.prog 16 #[.slice A n c, .slice A' n c'] w fun e w' => e = .returned (.bool true) ∧ Below w.heap.size w w' := by
  subst hn
  exact (ints_calls w A A' c c' a a hC hC' h h' hl).mono fun e w' ⟨he, hd⟩ => ⟨by rw [he]; simp, hd.below⟩
def TB2 (w0 w : World) (t1 t2 : Nat) (Qa Qb : Tr S30) : Prop :=
  ∃ S1 S2, TG w S1 t1 Qa ∧ TG w S2 t2 Qb ∧ (∀ k, S1 k → ¬ S2 k) ∧ (∀ k, S1 k → w0.heap.size ≤ k) ∧ (∀ k, S2 k → w0.heap.size ≤ k) ∧ Below w0.heap.size w0 w
theorem TB2.move {w0 w w' : World} {t1 t2 : Nat} {Qa Qb : Tr S30} (h : TB2 w0 w t1 t2 Qa Qb) (hb : Below w.heap.size w w') : TB2 w0 w' t1 t2 Qa Qb := by
  obtain ⟨S1, S2, h1, h2, h3, h4, h5, h6⟩ := h
  exact ⟨S1, S2, h1.below hb, h2.below hb, h3, h4, h5, below_then h6 h6.size hb⟩
theorem TB2.left {w0 w : World} {t1 t2 : Nat} {Qa Qb : Tr S30} (h : TB2 w0 w t1 t2 Qa Qb) : TB w0 w t1 Qa := by
  obtain ⟨S1, S2, h1, h2, h3, h4, h5, h6⟩ := h
  exact ⟨S1, h1, h4, h6⟩
theorem TB2.right {w0 w : World} {t1 t2 : Nat} {Qa Qb : Tr S30} (h : TB2 w0 w t1 t2 Qa Qb) : TB w0 w t2 Qb := by
  obtain ⟨S1, S2, h1, h2, h3, h4, h5, h6⟩ := h
  exact ⟨S2, h2, h5, h6⟩
theorem TB2.below {w0 w : World} {t1 t2 : Nat} {Qa Qb : Tr S30} (h : TB2 w0 w t1 t2 Qa Qb) : Below w0.heap.size w0 w := h.left.below
theorem TB2.ga {w0 w : World} {t1 t2 : Nat} {Qa Qb : Tr S30} (h : TB2 w0 w t1 t2 Qa Qb) : Good Qa Qa.list.length := by
  obtain ⟨S1, S2, h1, h2, _⟩ := h
  exact h1.2
theorem TB2.gb {w0 w : World} {t1 t2 : Nat} {Qa Qb : Tr S30} (h : TB2 w0 w t1 t2 Qa Qb) : Good Qb Qb.list.length := by
  obtain ⟨S1, S2, h1, h2, _⟩ := h
  exact h2.2
theorem new2 (w0 w : World) (t1 : Nat) (Qa : Tr S30) (h : TB w0 w t1 Qa) : Calls Try.prog 10 #[] w fun e w' => ∃ t2, e = .returned (.pointer (some ⟨t2, 0, none⟩)) ∧ TB2 w0 w' t1 t2 Qa .nil := by
  obtain ⟨S, h1, h2, h3⟩ := h
  refine (tnew_calls w).mono fun e w' ⟨t2, he, ht, hb⟩ => ⟨t2, he, S, _, h1.below hb, ht, fun k hk hk' => ?_, h2, fun k hk => Nat.le_trans h3.size hk.1, below_then h3 h3.size hb⟩
  have := h1.1.lt k hk
  have := hk'.1
  omega
theorem two_step {w0 w w' : World} {S1 S2 : Nat → Prop} {t1 t2 : Nat} {Qa Qb Q' : Tr S30} (h1 : TG w S1 t1 Qa) (h2 : TG w S2 t2 Qb) (h3 : ∀ k, S1 k → ¬ S2 k) (h4 : ∀ k, S1 k → w0.heap.size ≤ k) (h5 : ∀ k, S2 k → w0.heap.size ≤ k) (h6 : Below w0.heap.size w0 w)
    (ht : TG w' (ext S1 w w') t1 Q') (hw : Wr w w' S1) : TB2 w0 w' t1 t2 Q' Qb := by
  refine ⟨_, S2, ht, h2.off hw (fun k hk hk' => h3 k hk' hk), fun k hk hk' => ?_, ext_base h4 h6.size, h5, Below.wr' h6 hw h4⟩
  rcases hk.1 with h | h
  · exact h3 k h hk'
  · have := h2.1.lt k hk'
    omega
theorem TB2.swap {w0 w : World} {t1 t2 : Nat} {Qa Qb : Tr S30} (h : TB2 w0 w t1 t2 Qa Qb) : TB2 w0 w t2 t1 Qb Qa := by
  obtain ⟨S1, S2, h1, h2, h3, h4, h5, h6⟩ := h
  exact ⟨S2, S1, h2, h1, fun k h h' => h3 k h' h, h5, h4, h6⟩
theorem add2a (w0 w : World) (t1 t2 : Nat) (Qa Qb : Tr S30) (x : S30) (h : TB2 w0 w t1 t2 Qa Qb) (hn : Qa.list.length ≤ 600) :
    Calls Try.prog 11 #[.pointer (some ⟨t1, 0, none⟩), .agg #[.int .i64 x.f0.f0, .int .i64 x.f0.f1], .int .i64 x.f1] w fun e w' => (∃ r, e = .returned (.bool r)) ∧ TB2 w0 w' t1 t2 (addT Qa x).1 Qb := by
  obtain ⟨S1, S2, h1, h2, h3, h4, h5, h6⟩ := h
  exact (tadd_calls w S1 t1 Qa x h1 hn).mono fun e w' ⟨he, ht, hw⟩ => ⟨⟨_, he⟩, two_step h1 h2 h3 h4 h5 h6 ht hw⟩
theorem add2b (w0 w : World) (t1 t2 : Nat) (Qa Qb : Tr S30) (x : S30) (h : TB2 w0 w t1 t2 Qa Qb) (hn : Qb.list.length ≤ 600) :
    Calls Try.prog 11 #[.pointer (some ⟨t2, 0, none⟩), .agg #[.int .i64 x.f0.f0, .int .i64 x.f0.f1], .int .i64 x.f1] w fun e w' => (∃ r, e = .returned (.bool r)) ∧ TB2 w0 w' t1 t2 Qa (addT Qb x).1 :=
  (add2a w0 w t2 t1 Qb Qa x h.swap hn).mono fun e w' ⟨he, h⟩ => ⟨he, h.swap⟩
theorem rem2b (w0 w : World) (t1 t2 : Nat) (Qa Qb : Tr S30) (x : S30) (h : TB2 w0 w t1 t2 Qa Qb) (hn : Qb.list.length ≤ 600) :
    Calls Try.prog 19 #[.pointer (some ⟨t2, 0, none⟩), .agg #[.int .i64 x.f0.f0, .int .i64 x.f0.f1], .int .i64 x.f1] w fun e w' => (∃ r, e = .returned (.bool r)) ∧ TB2 w0 w' t1 t2 Qa (remT Qb x).1 := by
  obtain ⟨S2, S1, h2, h1, h3, h5, h4, h6⟩ := h.swap
  exact (tremove_calls w S2 t2 Qb x h2 hn).mono fun e w' ⟨he, ht, hw⟩ => ⟨⟨_, he⟩, (two_step h2 h1 h3 h5 h4 h6 ht hw).swap⟩
theorem mem_addT {Q : Tr S30} (h : Ord Q) (x z : S30) : z ∈ (addT Q x).1.list ↔ z ∈ Q.list ∨ (z = x ∧ vldB x.f0 = true) := by
  unfold addT
  split
  · rename_i hc
    show z ∈ (ins Q x).list ↔ _
    rw [ins_mem]
    constructor
    · rintro (h | h)
      · exact .inr ⟨h, hc.1⟩
      · exact .inl h
    · rintro (h | h)
      · exact .inr h
      · exact .inl h.1
  · rename_i hc
    constructor
    · exact .inl
    · rintro (h' | ⟨rfl, hv⟩)
      · exact h'
      · have : hasT Q z = true := by
          cases hq : hasT Q z with
          | true => rfl
          | false => exact absurd ⟨hv, hq⟩ hc
        exact (hasT_mem z h).1 this
theorem mem_remT {Q : Tr S30} (h : Ord Q) (x z : S30) : z ∈ (remT Q x).1.list ↔ z ∈ Q.list ∧ z ≠ x := by
  unfold remT
  split
  · rename_i hc
    exact (rem_spec h ((hasT_mem x h).1 hc)).2.1 z
  · rename_i hc
    constructor
    · intro hz
      exact ⟨hz, fun e => hc ((hasT_mem x h).2 (e ▸ hz))⟩
    · exact fun h => h.1
theorem same_list {Qa Qb : Tr S30} (ha : Ord Qa) (hb : Ord Qb) (h : ∀ z, z ∈ Qa.list ↔ z ∈ Qb.list) : Qa.list = Qb.list := asc_ext (R := bef) bef_irrefl bef_trans ha hb h
theorem same_st {Qa Qb : Tr S30} {n m : Nat} (ha : Good Qa n) (hb : Good Qb m) (h : Qa.list = Qb.list) (at_ : Int) : stT at_ Qa = stT at_ Qb := by
  obtain ⟨h1, h2⟩ := stT_spec (at_ := at_) ha
  obtain ⟨h3, h4⟩ := stT_spec (at_ := at_) hb
  exact int_asc_ext h1 h3 (fun z => by rw [h2, h4, h])
theorem same_ov {Qa Qb : Tr S30} {n m : Nat} (ha : Good Qa n) (hb : Good Qb m) (h : Qa.list = Qb.list) (p : S28) : ovT p Qa = ovT p Qb := by
  obtain ⟨h1, h2⟩ := ovT_spec (p := p) ha.ord
  obtain ⟨h3, h4⟩ := ovT_spec (p := p) hb.ord
  exact int_asc_ext h1 h3 (fun z => by rw [h2, h4, h])
def vx (z : S30) : Prop := vldB z.f0 = true
def Mem (Q : Tr S30) (P : S30 → Prop) : Prop := ∀ z, z ∈ Q.list ↔ P z ∧ vx z
theorem Mem.add {Q : Tr S30} {P P' : S30 → Prop} {x : S30} (ho : Ord Q) (h : Mem Q P) (hp : ∀ z, P' z ↔ P z ∨ z = x) : Mem (addT Q x).1 P' := fun z => by
  rw [mem_addT ho, h z, hp]
  constructor
  · rintro (⟨h1, h2⟩ | ⟨rfl, h2⟩)
    · exact ⟨.inl h1, h2⟩
    · exact ⟨.inr rfl, h2⟩
  · rintro ⟨h1 | rfl, h2⟩
    · exact .inl ⟨h1, h2⟩
    · exact .inr ⟨rfl, h2⟩
theorem Mem.rem {Q : Tr S30} {P P' : S30 → Prop} {x : S30} (ho : Ord Q) (h : Mem Q P) (hp : ∀ z, P' z ↔ P z ∧ z ≠ x) : Mem (remT Q x).1 P' := fun z => by
  rw [mem_remT ho, h z, hp]
  constructor
  · rintro ⟨⟨h1, h2⟩, h3⟩
    exact ⟨⟨h1, h3⟩, h2⟩
  · rintro ⟨⟨h1, h3⟩, h2⟩
    exact ⟨⟨h1, h2⟩, h3⟩
theorem Mem.to {Q : Tr S30} {P P' : S30 → Prop} (h : Mem Q P) (hp : ∀ z, P' z ↔ P z) : Mem Q P' := fun z => by rw [h z, hp]
theorem take_mem {α : Type} {l : List α} {k : Nat} (hk : k < l.length) (z : α) : z ∈ l.take (k + 1) ↔ z ∈ l.take k ∨ z = l[k] := by
  rw [List.take_succ_eq_append_getElem hk, List.mem_append, List.mem_singleton]
theorem drop_mem {α : Type} {l : List α} {k : Nat} (hk : k < l.length) (z : α) : z ∈ l.drop k ↔ z ∈ l.drop (k + 1) ∨ z = l[k] := by
  rw [List.drop_eq_getElem_cons hk, List.mem_cons]
  exact or_comm
set_option maxHeartbeats 16000000 in
set_option maxRecDepth 100000 in
theorem law_order (A : Option Addr) (c : Nat) (l : List S30) (A' : Option Addr) (c' : Nat) (m : List S30) (at_ : Int) (p : S28) (w : World) (hl : Kd.C k30 w A l.length l) (hl' : Kd.C k30 w A' m.length m) :
    Calls Try.prog 7 #[.slice A l.length c, .slice A' m.length c', .int .i64 at_, .agg #[.int .i64 p.f0, .int .i64 p.f1]] w (TruePost w) := by
  have hm := Kd.C_max hl
  have hm' := Kd.C_max hl'
  obtain ⟨wb, hwb⟩ : ∃ wb, wb = w.alloc (.cells #[.int .i64 p.f0, .int .i64 p.f1] 28) := ⟨_, rfl⟩
  have hW : Below w.heap.size w wb := by rw [hwb]; exact below_alloc (Below.refl _ _) _
  have hg : wb.heap[w.heap.size]? = some (.cells #[.int .i64 p.f0, .int .i64 p.f1] 28 (0, 0)) := by rw [hwb]; exact blk_new w _
  have HSS := Aside0.mk (fun (w' : World) (hB : Below wb.heap.size wb w') => (show w'.cell? ⟨w.heap.size, 0, none⟩ = some (.int .i64 p.f0) ∧ w'.cell? ⟨w.heap.size, 1, none⟩ = some (.int .i64 p.f1) from
    ⟨(blk_cell ((hB.block _ (blk_lt hg)).trans hg) 0).trans rfl, (blk_cell ((hB.block _ (blk_lt hg)).trans hg) 1).trans rfl⟩))
  have HL := Aside0.mk (fun (W : World) (hB : Below wb.heap.size wb W) => (show Kd.C k30 W A l.length l from Kd.C_below hl (below_then hW hW.size hB)))
  have HM := Aside0.mk (fun (W : World) (hB : Below wb.heap.size wb W) => (show Kd.C k30 W A' m.length m from Kd.C_below hl' (below_then hW hW.size hB)))
  have HW := Aside0.mk hW
  have HWB := Aside0.mk hwb
  have hu30 := Try.underlying30
  have hu28 := Try.underlying28
  clear hl hl' hW hg hwb
  by_cases hbig : 100 < l.length
  · go_enter Try.func7, Try.ntmps7
    go_wp2_with (go_at_call 9; rw [← HWB.out]; refine (works_calls w wb HW.out).mono ?_; rintro e w2 ⟨rfl, hB⟩; have HB2 := Aside0.mk (below_then HW.out HW.out.size hB); clear hB)
    go_ret
    exact ⟨rfl, HB2.out⟩
  by_cases hbig2 : 100 < m.length
  · go_enter Try.func7, Try.ntmps7
    go_wp2_with (go_at_call 9; rw [← HWB.out]; refine (works_calls w wb HW.out).mono ?_; rintro e w2 ⟨rfl, hB⟩; have HB2 := Aside0.mk (below_then HW.out HW.out.size hB); clear hB)
    go_ret
    exact ⟨rfl, HB2.out⟩
  go_enter Try.func7, Try.ntmps7
  go_wp2_with (first
    | (go_at_call 10; rw [← HWB.out]; refine (bnew wb wb (Below.refl _ _)).mono ?_; rintro e w1 ⟨t1, rfl, hT, hB⟩; have HT0 := Aside0.mk hT; clear hT hB HWB)
    | (go_at_call 10; refine (new2 wb w1 t1 .nil HT0.out).mono ?_; rintro e w2 ⟨t2, rfl, hT⟩; have HT := Aside0.mk hT; clear hT HT0))
  go_loopw [34] (fun i wr => ∃ (k : Nat), k ≤ l.length ∧ i = .int .i64 k ∧ Aside0 (∃ Qa, TB2 wb wr t1 t2 Qa .nil ∧ Qa.list.length ≤ k ∧ Mem Qa (fun z => z ∈ l.take k))) (fun i _ => l.length - (intOf i).toNat)
  case atStart => exact ⟨0, by omega, rfl, ⟨.nil, HT.out, by decide, fun z => by simp [Tr.list]⟩⟩
  case round =>
    obtain ⟨k, hk, rfl, HP⟩ := hrel
    obtain ⟨Qa, hP, hna, hma⟩ := HP.out
    have HPr := Aside0.mk hP
    have HNA := Aside0.mk hna
    have HMA := Aside0.mk hma
    clear HP hP hna hma HT
    by_cases hlt : k < l.length
    · obtain ⟨ad, rfl, hc0, hc1, hc2⟩ := at_item (HL.out wr HPr.out.below) k hlt
      obtain ⟨x, hx⟩ : ∃ x, x = l[k] := ⟨_, rfl⟩
      rw [← hx] at hc0 hc1 hc2
      have HX := Aside0.mk hx
      clear hx
      obtain ⟨wa, hwa⟩ : ∃ wa, wa = wr.alloc (.cells #[.int .i64 x.f0.f0, .int .i64 x.f0.f1, .int .i64 x.f1] 30) := ⟨_, rfl⟩
      have HWA := Aside0.mk hwa
      have HPa := Aside0.mk (HPr.out.move (w' := wa) (by rw [hwa]; exact below_alloc (Below.refl _ _) _))
      clear hwa
      go_wp2_with (go_at_call 11; rw [← HWA.out]; refine (add2a wb wa t1 t2 Qa .nil x HPa.out (by have := HNA.out; omega)).mono ?_; rintro e w3 ⟨⟨r, rfl⟩, hT2⟩; have HT2 := Aside0.mk hT2; clear hT2)
      go_roundw
      case rel => exact ⟨k + 1, by omega, by go_num, ⟨_, HT2.out, by have := len_addT Qa x; have := HNA.out; omega, HMA.out.add HPr.out.ga.ord (fun z => by rw [take_mem hlt, HX.out])⟩⟩
      case measure => simp [intOf]; omega
    · have HMA1 := Aside0.mk (HMA.out.to (P' := fun z => z ∈ l) (fun z => by rw [List.take_of_length_le (by omega)]))
      have HNA1 := Aside0.mk (show Qa.list.length ≤ 100 by have := HNA.out; omega)
      have HT := Aside0.mk HPr.out
      clear HPr HNA HMA
      go_wp2_with fail
      clear hlt hk
      go_loopw [47] (fun i wr => ∃ (k : Nat), k ≤ m.length ∧ i = .int .i64 k ∧ Aside0 (∃ Qb, TB2 wb wr t1 t2 Qa Qb ∧ Qb.list.length ≤ k ∧ Mem Qb (fun z => z ∈ m.take k))) (fun i _ => m.length - (intOf i).toNat)
      case atStart => exact ⟨0, by omega, rfl, ⟨.nil, HT.out, by decide, fun z => by simp [Tr.list]⟩⟩
      case round =>
        obtain ⟨k, hk, rfl, HP⟩ := hrel
        obtain ⟨Qb, hP, hnb, hmb⟩ := HP.out
        have HPr := Aside0.mk hP
        have HNB := Aside0.mk hnb
        have HMB := Aside0.mk hmb
        clear HP hP hnb hmb HT
        by_cases hlt : k < m.length
        · obtain ⟨ad, rfl, hc0, hc1, hc2⟩ := at_item (HM.out wr HPr.out.below) k hlt
          obtain ⟨x, hx⟩ : ∃ x, x = m[k] := ⟨_, rfl⟩
          rw [← hx] at hc0 hc1 hc2
          have HX := Aside0.mk hx
          clear hx
          obtain ⟨wa, hwa⟩ : ∃ wa, wa = wr.alloc (.cells #[.int .i64 x.f0.f0, .int .i64 x.f0.f1, .int .i64 x.f1] 30) := ⟨_, rfl⟩
          have HWA := Aside0.mk hwa
          have HPa := Aside0.mk (HPr.out.move (w' := wa) (by rw [hwa]; exact below_alloc (Below.refl _ _) _))
          clear hwa
          go_wp2_with (go_at_call 11; rw [← HWA.out]; refine (add2b wb wa t1 t2 Qa Qb x HPa.out (by have := HNB.out; omega)).mono ?_; rintro e w3 ⟨⟨r, rfl⟩, hT2⟩; have HT2 := Aside0.mk hT2; clear hT2)
          go_roundw
          case rel => exact ⟨k + 1, by omega, by go_num, ⟨_, HT2.out, by have := len_addT Qb x; have := HNB.out; omega, HMB.out.add HPr.out.gb.ord (fun z => by rw [take_mem hlt, HX.out])⟩⟩
          case measure => simp [intOf]; omega
        · have HMB1 := Aside0.mk (HMB.out.to (P' := fun z => z ∈ m ∨ z ∈ l.drop (l.length - 0)) (fun z => by rw [List.take_of_length_le (by omega)]; simp))
          have HNB1 := Aside0.mk (show Qb.list.length ≤ 100 by have := HNB.out; omega)
          have HT := Aside0.mk HPr.out
          clear HPr HNB HMB
          go_wp2_with fail
          clear hlt hk
          go_loopw [60] (fun i wr => ∃ (k : Nat), k ≤ l.length ∧ i = .int .i64 k ∧ Aside0 (∃ Qb, TB2 wb wr t1 t2 Qa Qb ∧ Qb.list.length ≤ 100 + k ∧ Mem Qb (fun z => z ∈ m ∨ z ∈ l.drop (l.length - k)))) (fun i _ => l.length - (intOf i).toNat)
          case atStart => exact ⟨0, by omega, rfl, ⟨Qb, HT.out, HNB1.out, HMB1.out⟩⟩
          case round =>
            obtain ⟨k, hk, rfl, HP⟩ := hrel
            clear HMB1 HNB1
            obtain ⟨Qb, hP, hnb, hmb⟩ := HP.out
            have HPr := Aside0.mk hP
            have HNB := Aside0.mk hnb
            have HMB := Aside0.mk hmb
            clear HP hP hnb hmb HT
            by_cases hlt : k < l.length
            · obtain ⟨j, hj⟩ : ∃ j, j = l.length - 1 - k := ⟨_, rfl⟩
              have hjl : j < l.length := by omega
              obtain ⟨ad, rfl, hc0, hc1, hc2⟩ := at_item (HL.out wr HPr.out.below) j hjl
              obtain ⟨x, hx⟩ : ∃ x, x = l[j] := ⟨_, rfl⟩
              rw [← hx] at hc0 hc1 hc2
              have HX := Aside0.mk hx
              have HJ := Aside0.mk hj
              have hs1 : IntKind.i64.wrap ((l.length : Int) - 1) = (l.length : Int) - 1 := by rw [i64_w]; unfold wrap64; omega
              have hs2 : IntKind.i64.wrap ((l.length : Int) - 1 - (k : Int)) = (j : Int) := by rw [i64_w]; unfold wrap64; omega
              have hs3 : wrap64 ((l.length : Int) - 1) = (l.length : Int) - 1 := by unfold wrap64; omega
              have hs4 : wrap64 ((l.length : Int) - 1 - (k : Int)) = (j : Int) := by unfold wrap64; omega
              clear hx hj
              go_wp2_with fail
              have hss := And.intro hc0 (And.intro hc1 hc2)
              have HC := Aside0.mk hss
              clear hc0 hc1 hc2
              refine start_ (n := 20) (S := fun w' => (w'.cell? (ad.add (j * 3)) = some (.int .i64 x.f0.f0) ∧ w'.cell? ⟨(ad.add (j * 3)).block, (ad.add (j * 3)).off + 1, none⟩ = some (.int .i64 x.f0.f1) ∧ w'.cell? ⟨(ad.add (j * 3)).block, (ad.add (j * 3)).off + 2, none⟩ = some (.int .i64 x.f1))) (ds := []) #[false, false, false, false, false, false, false, false, false, false, false, false, false, false, false, false, false, false, false, false] (by kernel_rfl) rfl rfl ?_ (fun hHeld => ?_)
              · exact hss
              clear hss
              refine pure_ (i := 0) (N := some 63) (v := ?_) (a' := ?_) #[true, false, false, false, false, false, false, false, false, false, false, false, false, false, false, false, false, false, false, false] rfl rfl (by kernel_rfl) (fun _ _ _ h => h) (Or.inl ⟨by rfl, ?_⟩) ?_ ?_
              rotate_left
              · intro w'
                go_simp
                with_reducible rfl
              rotate_left
              · simp only [Act.put, List.setIfInBounds_toArray, List.set_cons_zero, List.set_cons_succ, i64_w, i32_w]
                rfl
              refine pure_ (i := 1) (N := some 64) (v := ?_) (a' := ?_) #[true, true, false, false, false, false, false, false, false, false, false, false, false, false, false, false, false, false, false, false] rfl rfl (by kernel_rfl) (fun _ _ _ h => h) (Or.inl ⟨by rfl, ?_⟩) ?_ ?_
              rotate_left
              · intro w'
                go_simp
                with_reducible rfl
              rotate_left
              · simp only [Act.put, List.setIfInBounds_toArray, List.set_cons_zero, List.set_cons_succ, i64_w, i32_w]
                rfl
              refine pure_ (i := 2) (N := some 65) (v := ?_) (a' := ?_) #[true, true, true, false, false, false, false, false, false, false, false, false, false, false, false, false, false, false, false, false] rfl rfl (by kernel_rfl) (fun _ _ _ h => h) (Or.inl ⟨by rfl, ?_⟩) ?_ ?_
              rotate_left
              · intro w'
                go_simp
                with_reducible rfl
              rotate_left
              · simp only [Act.put, List.setIfInBounds_toArray, List.set_cons_zero, List.set_cons_succ, i64_w, i32_w]
                rfl
              refine pure_ (i := 3) (N := some 66) (v := ?_) (a' := ?_) #[true, true, true, true, false, false, false, false, false, false, false, false, false, false, false, false, false, false, false, false] rfl rfl (by kernel_rfl) (fun _ _ _ h => h) (Or.inl ⟨by rfl, ?_⟩) ?_ ?_
              rotate_left
              · intro w'
                go_simp
                with_reducible rfl
              rotate_left
              · simp only [Act.put, List.setIfInBounds_toArray, List.set_cons_zero, List.set_cons_succ, i64_w, i32_w]
                rfl
              refine pure_ (i := 4) (N := some 67) (v := ?_) (a' := ?_) #[true, true, true, true, true, false, false, false, false, false, false, false, false, false, false, false, false, false, false, false] rfl rfl (by kernel_rfl) (fun _ _ _ h => h) (Or.inl ⟨by rfl, ?_⟩) ?_ ?_
              rotate_left
              · intro w'
                go_simp
                with_reducible rfl
              rotate_left
              · simp only [Act.put, List.setIfInBounds_toArray, List.set_cons_zero, List.set_cons_succ, i64_w, i32_w]
                rfl
              refine pure_ (i := 5) (N := some 68) (v := ?_) (a' := ?_) #[true, true, true, true, true, true, false, false, false, false, false, false, false, false, false, false, false, false, false, false] rfl rfl (by kernel_rfl) (fun _ _ _ h => h) (Or.inl ⟨by rfl, ?_⟩) ?_ ?_
              rotate_left
              · intro w'
                go_simp
                with_reducible rfl
              rotate_left
              · simp only [Act.put, List.setIfInBounds_toArray, List.set_cons_zero, List.set_cons_succ, i64_w, i32_w]
                rfl
              refine pure_ (i := 6) (N := some 69) (v := ?_) (a' := ?_) #[true, true, true, true, true, true, true, false, false, false, false, false, false, false, false, false, false, false, false, false] rfl rfl (by kernel_rfl) (fun _ _ _ h => h) (Or.inl ⟨by rfl, ?_⟩) ?_ ?_
              rotate_left
              · intro w'
                go_simp
                with_reducible rfl
              rotate_left
              · simp only [Act.put, List.setIfInBounds_toArray, List.set_cons_zero, List.set_cons_succ, i64_w, i32_w]
                rfl
              refine pure_ (i := 7) (N := some 70) (v := ?_) (a' := ?_) #[true, true, true, true, true, true, true, true, false, false, false, false, false, false, false, false, false, false, false, false] rfl rfl (by kernel_rfl) (fun _ _ _ h => h) (Or.inl ⟨by rfl, ?_⟩) ?_ ?_
              rotate_left
              · intro w'
                go_simp
                with_reducible rfl
              rotate_left
              · simp only [Act.put, List.setIfInBounds_toArray, List.set_cons_zero, List.set_cons_succ, i64_w, i32_w]
                rfl
              refine pure_ (i := 8) (N := some 71) (v := ?_) (a' := ?_) #[true, true, true, true, true, true, true, true, true, false, false, false, false, false, false, false, false, false, false, false] rfl rfl (by kernel_rfl) (fun _ _ _ h => h) (Or.inl ⟨by rfl, ?_⟩) ?_ ?_
              rotate_left
              · intro w'
                go_simp
                with_reducible rfl
              rotate_left
              · simp only [Act.put, List.setIfInBounds_toArray, List.set_cons_zero, List.set_cons_succ, i64_w, i32_w]
                rfl
              refine take_ (i := 9) (N := some 72) (v := ?_) (a' := ?_) #[true, true, true, true, true, true, true, true, true, true, false, false, false, false, false, false, false, false, false, false] rfl rfl (by kernel_rfl) (fun _ _ _ h => h) (Or.inl ⟨by rfl, ?_⟩) hHeld ?_ ?_
              rotate_left
              · rintro w' ⟨s0, s1, s2⟩
                go_simp
                with_reducible rfl
              rotate_left
              · simp only [Act.put, List.setIfInBounds_toArray, List.set_cons_zero, List.set_cons_succ, i64_w, i32_w]
                rfl
              refine pure_ (i := 10) (N := some 73) (v := ?_) (a' := ?_) #[true, true, true, true, true, true, true, true, true, true, true, false, false, false, false, false, false, false, false, false] rfl rfl (by kernel_rfl) (fun _ _ _ h => h) (Or.inl ⟨by rfl, ?_⟩) ?_ ?_
              rotate_left
              · intro w'
                go_simp
                with_reducible rfl
              rotate_left
              · simp only [Act.put, List.setIfInBounds_toArray, List.set_cons_zero, List.set_cons_succ, i64_w, i32_w]
                rfl
              refine pure_ (i := 11) (N := some 74) (v := ?_) (a' := ?_) #[true, true, true, true, true, true, true, true, true, true, true, true, false, false, false, false, false, false, false, false] rfl rfl (by kernel_rfl) (fun _ _ _ h => h) (Or.inl ⟨by rfl, ?_⟩) ?_ ?_
              rotate_left
              · intro w'
                go_simp
                with_reducible rfl
              rotate_left
              · simp only [Act.put, List.setIfInBounds_toArray, List.set_cons_zero, List.set_cons_succ, i64_w, i32_w]
                rfl
              refine pure_ (i := 12) (N := some 75) (v := ?_) (a' := ?_) #[true, true, true, true, true, true, true, true, true, true, true, true, true, false, false, false, false, false, false, false] rfl rfl (by kernel_rfl) (fun _ _ _ h => h) (Or.inl ⟨by rfl, ?_⟩) ?_ ?_
              rotate_left
              · intro w'
                go_simp
                with_reducible rfl
              rotate_left
              · simp only [Act.put, List.setIfInBounds_toArray, List.set_cons_zero, List.set_cons_succ, i64_w, i32_w]
                rfl
              refine pure_ (i := 13) (N := some 76) (v := ?_) (a' := ?_) #[true, true, true, true, true, true, true, true, true, true, true, true, true, true, false, false, false, false, false, false] rfl rfl (by kernel_rfl) (fun _ _ _ h => h) (Or.inl ⟨by rfl, ?_⟩) ?_ ?_
              rotate_left
              · intro w'
                go_simp
                with_reducible rfl
              rotate_left
              · simp only [Act.put, List.setIfInBounds_toArray, List.set_cons_zero, List.set_cons_succ, i64_w, i32_w]
                rfl
              refine pure_ (i := 14) (N := some 77) (v := ?_) (a' := ?_) #[true, true, true, true, true, true, true, true, true, true, true, true, true, true, true, false, false, false, false, false] rfl rfl (by kernel_rfl) (fun _ _ _ h => h) (Or.inl ⟨by rfl, ?_⟩) ?_ ?_
              rotate_left
              · intro w'
                go_simp
                with_reducible rfl
              rotate_left
              · simp only [Act.put, List.setIfInBounds_toArray, List.set_cons_zero, List.set_cons_succ, i64_w, i32_w]
                rfl
              refine pure_ (i := 15) (N := some 78) (v := ?_) (a' := ?_) #[true, true, true, true, true, true, true, true, true, true, true, true, true, true, true, true, false, false, false, false] rfl rfl (by kernel_rfl) (fun _ _ _ h => h) (Or.inl ⟨by rfl, ?_⟩) ?_ ?_
              rotate_left
              · intro w'
                go_simp
                with_reducible rfl
              rotate_left
              · simp only [Act.put, List.setIfInBounds_toArray, List.set_cons_zero, List.set_cons_succ, i64_w, i32_w]
                rfl
              refine pure_ (i := 16) (N := some 79) (v := ?_) (a' := ?_) #[true, true, true, true, true, true, true, true, true, true, true, true, true, true, true, true, true, false, false, false] rfl rfl (by kernel_rfl) (fun _ _ _ h => h) (Or.inl ⟨by rfl, ?_⟩) ?_ ?_
              rotate_left
              · intro w'
                go_simp
                with_reducible rfl
              rotate_left
              · simp only [Act.put, List.setIfInBounds_toArray, List.set_cons_zero, List.set_cons_succ, i64_w, i32_w]
                rfl
              refine pure_ (i := 17) (N := some 80) (v := ?_) (a' := ?_) #[true, true, true, true, true, true, true, true, true, true, true, true, true, true, true, true, true, true, false, false] rfl rfl (by kernel_rfl) (fun _ _ _ h => h) (Or.inl ⟨by rfl, ?_⟩) ?_ ?_
              rotate_left
              · intro w'
                go_simp
                with_reducible rfl
              rotate_left
              · simp only [Act.put, List.setIfInBounds_toArray, List.set_cons_zero, List.set_cons_succ, i64_w, i32_w]
                rfl
              refine take_ (i := 18) (N := some 81) (v := ?_) (a' := ?_) #[true, true, true, true, true, true, true, true, true, true, true, true, true, true, true, true, true, true, true, false] rfl rfl (by kernel_rfl) (fun _ _ _ h => h) (Or.inl ⟨by rfl, ?_⟩) hHeld ?_ ?_
              rotate_left
              · rintro w' ⟨s0, s1, s2⟩
                go_simp
                with_reducible rfl
              rotate_left
              · simp only [Act.put, List.setIfInBounds_toArray, List.set_cons_zero, List.set_cons_succ, i64_w, i32_w]
                rfl
              clear hs1 hs2 hs3 hs4
              refine one_ (i := 19) (N := some 82) #[true, true, true, true, true, true, true, true, true, true, true, true, true, true, true, true, true, true, true, true] rfl rfl (by kernel_rfl) (by decide) (fun K hK => ?_)
              refine goes_ Try.func11 (by kernel_rfl) rfl #[.pointer (some ⟨t2, 0, none⟩), .agg #[.int .i64 x.f0.f0, .int .i64 x.f0.f1], .int .i64 x.f1] (by rfl) rfl rfl (by (try simp only [List.map_toArray, List.map_cons, List.map_nil]); first | done | rfl) ?_
              refine (add2b wb wr.drew t1 t2 Qa Qb x (HPr.out.move (below_drew (Below.refl _ _))) (by have := HNB.out; omega)).mono ?_
              rintro e w3 ⟨⟨r, rfl⟩, hT2⟩
              have HT2 := Aside0.mk hT2
              have hcc := at_item (HL.out w3 hT2.below) j hjl
              obtain ⟨ad', had, hq0, hq1, hq2⟩ := hcc
              injection had with had
              subst had
              rw [← HX.out] at hq0 hq1 hq2
              refine ⟨_, rfl, hK.out _ _ ⟨hq0, hq1, hq2⟩ (fun _ => ?_)⟩
              clear hK K hT2 hq0 hq1 hq2
              refine norm_ (a' := ?_) ?_ ?_
              rotate_left
              · show Act.put _ (some 82) _ = _
                simp only [Act.put, List.setIfInBounds_toArray, List.set_cons_zero, List.set_cons_succ, i64_w, i32_w]
                rfl
              refine done_ (by kernel_rfl) ?_
              go_wp2
              go_roundw
              case rel => exact ⟨k + 1, by omega, by go_num, ⟨_, HT2.out, by have := len_addT Qb x; have := HNB.out; omega, HMB.out.add HPr.out.gb.ord (fun z => by
                have hj := HJ.out
                rw [show l.length - (k + 1) = j by omega, show l.length - k = j + 1 by omega, drop_mem hjl, HX.out, or_assoc])⟩⟩
              case measure => simp [intOf]; omega
            · have HMB1 := Aside0.mk (HMB.out.to (P' := fun z => z ∈ l ∨ (z ∈ m ∧ z ∉ m.take 0)) (fun z => by rw [show l.length - k = 0 by omega]; simp [or_comm]))
              have HNB1 := Aside0.mk (show Qb.list.length ≤ 200 by have := HNB.out; omega)
              have HT := Aside0.mk HPr.out
              clear HPr HNB HMB
              go_wp2_with fail
              clear hlt hk
              go_loopw [86] (fun i wr => ∃ (k : Nat), k ≤ m.length ∧ i = .int .i64 k ∧ Aside0 (∃ Qb, TB2 wb wr t1 t2 Qa Qb ∧ Qb.list.length ≤ 200 ∧ Mem Qb (fun z => z ∈ l ∨ (z ∈ m ∧ z ∉ m.take k)))) (fun i _ => m.length - (intOf i).toNat)
              case atStart => exact ⟨0, by omega, rfl, ⟨Qb, HT.out, HNB1.out, HMB1.out⟩⟩
              case round =>
                obtain ⟨k, hk, rfl, HP⟩ := hrel
                clear HMB1 HNB1
                obtain ⟨Qb, hP, hnb, hmb⟩ := HP.out
                have HPr := Aside0.mk hP
                have HNB := Aside0.mk hnb
                have HMB := Aside0.mk hmb
                clear HP hP hnb hmb HT
                by_cases hlt : k < m.length
                · obtain ⟨ad, rfl, hc0, hc1, hc2⟩ := at_item (HM.out wr HPr.out.below) k hlt
                  obtain ⟨x, hx⟩ : ∃ x, x = m[k] := ⟨_, rfl⟩
                  rw [← hx] at hc0 hc1 hc2
                  have HX := Aside0.mk hx
                  clear hx
                  obtain ⟨wa, hwa⟩ : ∃ wa, wa = wr.alloc (.cells #[.int .i64 x.f0.f0, .int .i64 x.f0.f1, .int .i64 x.f1] 30) := ⟨_, rfl⟩
                  have HWA := Aside0.mk hwa
                  have HPa := Aside0.mk (HPr.out.move (w' := wa) (by rw [hwa]; exact below_alloc (Below.refl _ _) _))
                  have HGX := Aside0.mk (show wa.heap[wr.heap.size]? = some (boxI x) by rw [hwa]; exact blk_new wr _)
                  clear hwa
                  go_wp2_with fail
                  rw [← HWA.out]
                  obtain ⟨gx, hgx⟩ : ∃ gx, gx = wr.heap.size := ⟨_, rfl⟩
                  rw [← hgx] at HGX ⊢
                  clear hgx HWA hc0 hc1 hc2
                  obtain ⟨wo, hwo⟩ : ∃ wo, wo = wr := ⟨_, rfl⟩
                  subst hwo
                  go_loopw [18, 92] (fun s i wi => ∃ (j : Nat) (b : Bool), j ≤ l.length ∧ i = .int .i64 j ∧ s = .bool b ∧ Aside0 (b = true ↔ x ∈ l.take j) ∧ Aside0 (TB2 wb wi t1 t2 Qa Qb) ∧ Aside0 (wi.heap[gx]? = some (boxI x))) (fun _ i _ => l.length - (intOf i).toNat)
                  case atStart => exact ⟨0, false, by omega, rfl, rfl, ⟨by simp⟩, HPa, HGX⟩
                  case round =>
                    obtain ⟨j, b, hj, rfl, rfl, HB, HT, HG⟩ := hrel
                    clear HPa HGX
                    have hx0 : wr.cell? ⟨gx, 0, none⟩ = some (.int .i64 x.f0.f0) := (blk_cell HG.out 0).trans rfl
                    have hx1 : wr.cell? ⟨gx, 1, none⟩ = some (.int .i64 x.f0.f1) := (blk_cell HG.out 1).trans rfl
                    have hx2 : wr.cell? ⟨gx, 2, none⟩ = some (.int .i64 x.f1) := (blk_cell HG.out 2).trans rfl
                    have hgl := blk_lt HG.out
                    by_cases hltj : j < l.length
                    · obtain ⟨ad2, rfl, hc0, hc1, hc2⟩ := at_item (HL.out wr HT.out.below) j hltj
                      obtain ⟨y, hy⟩ : ∃ y, y = l[j] := ⟨_, rfl⟩
                      rw [← hy] at hc0 hc1 hc2
                      have HY := Aside0.mk hy
                      clear hy
                      have hal : Below wr.heap.size wr (wr.alloc (.cells #[.int .i64 y.f0.f0, .int .i64 y.f0.f1, .int .i64 y.f1] 30)) := below_alloc (Below.refl _ _) _
                      have HT2 := Aside0.mk (HT.out.move hal)
                      have HG2 := Aside0.mk ((hal.block gx hgl).trans HG.out)
                      clear hal
                      cases b with
                      | true =>
                        go_wp2_with fail
                        go_roundw
                        case rel => exact ⟨j + 1, true, by omega, by go_num, rfl, ⟨⟨fun _ => (take_mem hltj x).2 (.inl (HB.out.1 rfl)), fun _ => rfl⟩⟩, HT2, HG2⟩
                        case measure => simp [intOf]; omega
                      | false =>
                        have HBN := Aside0.mk (show x ∉ l.take j from fun h => by have := HB.out.2 h; cases this)
                        clear HB
                        go_wp2_with fail
                        go_roundw
                        case rel => exact ⟨j + 1, _, by omega, by go_num, rfl, ⟨by
                          rw [take_mem hltj, ← HY.out]
                          simp only [Bool.and_eq_true, beq_iff_eq]
                          constructor
                          · rintro ⟨⟨h1, h2⟩, h3⟩
                            exact .inr (S30_ext h1 h2 h3)
                          · rintro (h | rfl)
                            · exact absurd h HBN.out
                            · exact ⟨⟨rfl, rfl⟩, rfl⟩⟩, HT2, HG2⟩
                        case measure => simp [intOf]; omega
                    · have HBX := Aside0.mk (show b = true ↔ x ∈ l by have := HB.out; rw [List.take_of_length_le (by omega)] at this; exact this)
                      clear HB
                      cases b with
                      | true =>
                        go_wp2_with fail
                        go_roundw
                        case rel => exact ⟨k + 1, by omega, by go_num, ⟨Qb, HT.out, HNB.out, HMB.out.to (fun z => by
                          have hxl := HBX.out.1 rfl
                          rw [take_mem hlt, ← HX.out]
                          constructor
                          · rintro (h | ⟨h1, h2⟩)
                            · exact .inl h
                            · exact .inr ⟨h1, fun h => h2 (.inl h)⟩
                          · rintro (h | ⟨h1, h2⟩)
                            · exact .inl h
                            · by_cases he : z = x
                              · exact .inl (he ▸ hxl)
                              · exact .inr ⟨h1, fun h => by rcases h with h | h; exact h2 h; exact he h⟩)⟩⟩
                        case measure => simp [intOf]; omega
                      | false =>
                        go_wp2_with (go_at_call 19; refine (rem2b wb wr t1 t2 Qa Qb x HT.out (by have := HNB.out; omega)).mono ?_; rintro e w3 ⟨⟨r, rfl⟩, hT2⟩; have HT2 := Aside0.mk hT2; clear hT2)
                        go_roundw
                        case rel => exact ⟨k + 1, by omega, by go_num, ⟨_, HT2.out, Nat.le_trans (len_remT HT.out.gb.ord x) HNB.out, HMB.out.rem HT.out.gb.ord (fun z => by
                          have hxl : x ∉ l := fun h => by have := HBX.out.2 h; cases this
                          rw [take_mem hlt, ← HX.out]
                          constructor
                          · rintro (h | ⟨h1, h2⟩)
                            · exact ⟨.inl h, fun e => hxl (e ▸ h)⟩
                            · exact ⟨.inr ⟨h1, fun h => h2 (.inl h)⟩, fun e => h2 (.inr e)⟩
                          · rintro ⟨h | ⟨h1, h2⟩, h3⟩
                            · exact .inl h
                            · exact .inr ⟨h1, fun h => by rcases h with h | h; exact h2 h; exact h3 h⟩)⟩⟩
                        case measure => simp [intOf]; omega
                · have HMB1 := Aside0.mk (HMB.out.to (P' := fun z => z ∈ l) (fun z => by
                    rw [List.take_of_length_le (by omega)]
                    exact ⟨.inl, fun h => h.resolve_right (fun h => h.2 h.1)⟩))
                  have HEQ := Aside0.mk (same_list HPr.out.ga.ord HPr.out.gb.ord (fun z => by rw [HMA1.out z, HMB1.out z]))
                  have HST := Aside0.mk (same_st HPr.out.ga HPr.out.gb HEQ.out at_)
                  have HOV := Aside0.mk (same_ov HPr.out.ga HPr.out.gb HEQ.out p)
                  have HLA := Aside0.mk (show Qb.list.length ≤ 100 by rw [← HEQ.out]; exact HNA1.out)
                  go_wp2_with fail
                  obtain ⟨n, hn⟩ : ∃ n, n = Qb.list.length := ⟨_, rfl⟩
                  have HNN := Aside0.mk hn
                  have HT0 := Aside0.mk (HPr.out.move (w' := wr.drew) (below_drew (Below.refl _ _)))
                  have hla : Qa.list.length ≤ 600 := by have := HLA.out; rw [HEQ.out]; omega
                  have hlb : Qb.list.length ≤ 600 := by have := HLA.out; omega
                  have HLL := Aside0.mk (And.intro hla hlb)
                  clear hn hla hlb
                  refine start_ (n := 34) (S := fun w' => (w'.cell? ⟨w.heap.size, 0, none⟩ = some (.int .i64 p.f0) ∧ w'.cell? ⟨w.heap.size, 1, none⟩ = some (.int .i64 p.f1))) (ds := []) #[false, false, false, false, false, false, false, false, false, false, false, false, false, false, false, false, false, false, false, false, false, false, false, false, false, false, false, false, false, false, false, false, false, false] (by kernel_rfl) rfl rfl ?_ (fun hHeld => ?_)
                  · exact HSS.out _ HT0.out.below
                  refine pure_ (i := 0) (N := some 112) (v := ?_) (a' := ?_) #[true, false, false, false, false, false, false, false, false, false, false, false, false, false, false, false, false, false, false, false, false, false, false, false, false, false, false, false, false, false, false, false, false, false] rfl rfl (by kernel_rfl) (fun _ _ _ h => h) (Or.inl ⟨by rfl, ?_⟩) ?_ ?_
                  rotate_left
                  · intro w'
                    go_simp
                    with_reducible rfl
                  rotate_left
                  · simp only [Act.put, List.setIfInBounds_toArray, List.set_cons_zero, List.set_cons_succ, i64_w, i32_w]
                    rfl
                  refine pure_ (i := 2) (N := some 114) (v := ?_) (a' := ?_) #[true, false, true, false, false, false, false, false, false, false, false, false, false, false, false, false, false, false, false, false, false, false, false, false, false, false, false, false, false, false, false, false, false, false] rfl rfl (by kernel_rfl) (fun _ _ _ h => h) (Or.inl ⟨by rfl, ?_⟩) ?_ ?_
                  rotate_left
                  · intro w'
                    go_simp
                    with_reducible rfl
                  rotate_left
                  · simp only [Act.put, List.setIfInBounds_toArray, List.set_cons_zero, List.set_cons_succ, i64_w, i32_w]
                    rfl
                  refine one_ (i := 1) (N := some 113) #[true, true, true, false, false, false, false, false, false, false, false, false, false, false, false, false, false, false, false, false, false, false, false, false, false, false, false, false, false, false, false, false, false, false] rfl rfl (by kernel_rfl) (by decide) (fun K hK => ?_)
                  refine goes_ Try.func24 (by kernel_rfl) rfl #[.pointer (some ⟨t1, 0, none⟩)] (by rfl) rfl rfl (by (try simp only [List.map_toArray, List.map_cons, List.map_nil]); first | done | rfl) ?_
                  refine (bitems wb _ t1 Qa HT0.out.left HLL.out.1).mono ?_
                  rintro e w3 ⟨v3, rfl, hR, hB⟩
                  rw [HEQ.out] at hR
                  obtain ⟨A3, c3, rfl⟩ := Kd.R_slice hR
                  have hr := Kd.R_reads' hR
                  have HT3 := Aside0.mk (HT0.out.move hB)
                  have HR3 := Aside0.mk hr.2
                  rw [← HNN.out]
                  clear hR hr hB
                  refine ⟨_, rfl, hK.out _ _ (HSS.out _ (HT3.out.below)) (fun _ => ?_)⟩
                  clear hK K hHeld
                  have hHeld := HSS.out _ (HT3.out.below)
                  refine norm_ (a' := ?_) ?_ ?_
                  rotate_left
                  · show Act.put _ (some 113) _ = _
                    simp only [Act.put, List.setIfInBounds_toArray, List.set_cons_zero, List.set_cons_succ, i64_w, i32_w]
                    rfl
                  refine one_ (i := 3) (N := some 115) #[true, true, true, true, false, false, false, false, false, false, false, false, false, false, false, false, false, false, false, false, false, false, false, false, false, false, false, false, false, false, false, false, false, false] rfl rfl (by kernel_rfl) (by decide) (fun K hK => ?_)
                  refine goes_ Try.func24 (by kernel_rfl) rfl #[.pointer (some ⟨t2, 0, none⟩)] (by rfl) rfl rfl (by (try simp only [List.map_toArray, List.map_cons, List.map_nil]); first | done | rfl) ?_
                  refine (bitems wb _ t2 Qb HT3.out.right HLL.out.2).mono ?_
                  rintro e w4 ⟨v4, rfl, hR, hB⟩
                  obtain ⟨A4, c4, rfl⟩ := Kd.R_slice hR
                  have hr := Kd.R_reads' hR
                  have HT4 := Aside0.mk (HT3.out.move hB)
                  have HR4 := Aside0.mk (And.intro (And.intro HR3.out.1 (Kd.C_below HR3.out.2 hB)) hr.2)
                  rw [← HNN.out]
                  clear hR hr hB HR3
                  refine ⟨_, rfl, hK.out _ _ (HSS.out _ (HT4.out.below)) (fun _ => ?_)⟩
                  clear hK K hHeld
                  have hHeld := HSS.out _ (HT4.out.below)
                  refine norm_ (a' := ?_) ?_ ?_
                  rotate_left
                  · show Act.put _ (some 115) _ = _
                    simp only [Act.put, List.setIfInBounds_toArray, List.set_cons_zero, List.set_cons_succ, i64_w, i32_w]
                    rfl
                  refine one_ (i := 4) (N := some 116) #[true, true, true, true, true, false, false, false, false, false, false, false, false, false, false, false, false, false, false, false, false, false, false, false, false, false, false, false, false, false, false, false, false, false] rfl rfl (by kernel_rfl) (by decide) (fun K hK => ?_)
                  refine goes_ Try.func23 (by kernel_rfl) rfl #[.slice A3 n c3, .slice A4 n c4] (by rfl) rfl rfl (by (try simp only [List.map_toArray, List.map_cons, List.map_nil]); first | done | rfl) ?_
                  refine (itemseq_same w4 A3 A4 c3 c4 n Qb.list HNN.out HR4.out.1 HR4.out.2 (by have := HLA.out; omega)).mono ?_
                  rintro e w5 ⟨rfl, hd⟩
                  have HT5 := Aside0.mk (HT4.out.move hd.below)
                  clear hd HR4
                  refine ⟨_, rfl, hK.out _ _ (HSS.out _ (HT5.out.below)) (fun _ => ?_)⟩
                  clear hK K hHeld
                  have hHeld := HSS.out _ (HT5.out.below)
                  refine norm_ (a' := ?_) ?_ ?_
                  rotate_left
                  · show Act.put _ (some 116) _ = _
                    simp only [Act.put, List.setIfInBounds_toArray, List.set_cons_zero, List.set_cons_succ, i64_w, i32_w]
                    rfl
                  refine pure_ (i := 5) (N := some 117) (v := ?_) (a' := ?_) #[true, true, true, true, true, true, false, false, false, false, false, false, false, false, false, false, false, false, false, false, false, false, false, false, false, false, false, false, false, false, false, false, false, false] rfl rfl (by kernel_rfl) (fun _ _ _ h => h) (Or.inl ⟨by rfl, ?_⟩) ?_ ?_
                  rotate_left
                  · intro w'
                    go_simp
                    with_reducible rfl
                  rotate_left
                  · simp only [Act.put, List.setIfInBounds_toArray, List.set_cons_zero, List.set_cons_succ, i64_w, i32_w]
                    rfl
                  refine pure_ (i := 6) (N := some 118) (v := ?_) (a' := ?_) #[true, true, true, true, true, true, true, false, false, false, false, false, false, false, false, false, false, false, false, false, false, false, false, false, false, false, false, false, false, false, false, false, false, false] rfl rfl (by kernel_rfl) (fun _ _ _ h => h) (Or.inl ⟨by rfl, ?_⟩) ?_ ?_
                  rotate_left
                  · intro w'
                    go_simp
                    with_reducible rfl
                  rotate_left
                  · simp only [Act.put, List.setIfInBounds_toArray, List.set_cons_zero, List.set_cons_succ, i64_w, i32_w]
                    rfl
                  refine pure_ (i := 8) (N := some 120) (v := ?_) (a' := ?_) #[true, true, true, true, true, true, true, false, true, false, false, false, false, false, false, false, false, false, false, false, false, false, false, false, false, false, false, false, false, false, false, false, false, false] rfl rfl (by kernel_rfl) (fun _ _ _ h => h) (Or.inl ⟨by rfl, ?_⟩) ?_ ?_
                  rotate_left
                  · intro w'
                    go_simp
                    with_reducible rfl
                  rotate_left
                  · simp only [Act.put, List.setIfInBounds_toArray, List.set_cons_zero, List.set_cons_succ, i64_w, i32_w]
                    rfl
                  refine one_ (i := 7) (N := some 119) #[true, true, true, true, true, true, true, true, true, false, false, false, false, false, false, false, false, false, false, false, false, false, false, false, false, false, false, false, false, false, false, false, false, false] rfl rfl (by kernel_rfl) (by decide) (fun K hK => ?_)
                  refine goes_ Try.func20 (by kernel_rfl) rfl #[.pointer (some ⟨t1, 0, none⟩)] (by rfl) rfl rfl (by (try simp only [List.map_toArray, List.map_cons, List.map_nil]); first | done | rfl) ?_
                  refine (blen wb _ t1 Qa HT5.out.left).mono ?_
                  rintro e _ ⟨rfl, rfl⟩
                  rw [HEQ.out, ← HNN.out]
                  refine ⟨_, rfl, hK.out _ _ (HSS.out _ (HT5.out.below)) (fun _ => ?_)⟩
                  clear hK K hHeld
                  have hHeld := HSS.out _ (HT5.out.below)
                  refine norm_ (a' := ?_) ?_ ?_
                  rotate_left
                  · show Act.put _ (some 119) _ = _
                    simp only [Act.put, List.setIfInBounds_toArray, List.set_cons_zero, List.set_cons_succ, i64_w, i32_w]
                    rfl
                  refine one_ (i := 9) (N := some 121) #[true, true, true, true, true, true, true, true, true, true, false, false, false, false, false, false, false, false, false, false, false, false, false, false, false, false, false, false, false, false, false, false, false, false] rfl rfl (by kernel_rfl) (by decide) (fun K hK => ?_)
                  refine goes_ Try.func20 (by kernel_rfl) rfl #[.pointer (some ⟨t2, 0, none⟩)] (by rfl) rfl rfl (by (try simp only [List.map_toArray, List.map_cons, List.map_nil]); first | done | rfl) ?_
                  refine (blen wb _ t2 Qb HT5.out.right).mono ?_
                  rintro e _ ⟨rfl, rfl⟩
                  rw [← HNN.out]
                  refine ⟨_, rfl, hK.out _ _ (HSS.out _ (HT5.out.below)) (fun _ => ?_)⟩
                  clear hK K hHeld
                  have hHeld := HSS.out _ (HT5.out.below)
                  refine norm_ (a' := ?_) ?_ ?_
                  rotate_left
                  · show Act.put _ (some 121) _ = _
                    simp only [Act.put, List.setIfInBounds_toArray, List.set_cons_zero, List.set_cons_succ, i64_w, i32_w]
                    rfl
                  refine pure_ (i := 10) (N := some 122) (v := ?_) (a' := ?_) #[true, true, true, true, true, true, true, true, true, true, true, false, false, false, false, false, false, false, false, false, false, false, false, false, false, false, false, false, false, false, false, false, false, false] rfl rfl (by kernel_rfl) (fun _ _ _ h => h) (Or.inl ⟨by rfl, ?_⟩) ?_ ?_
                  rotate_left
                  · intro w'
                    go_simp
                    with_reducible rfl
                  rotate_left
                  · simp only [Act.put, List.setIfInBounds_toArray, List.set_cons_zero, List.set_cons_succ, i64_w, i32_w]
                    rfl
                  refine pure_ (i := 11) (N := some 123) (v := ?_) (a' := ?_) #[true, true, true, true, true, true, true, true, true, true, true, true, false, false, false, false, false, false, false, false, false, false, false, false, false, false, false, false, false, false, false, false, false, false] rfl rfl (by kernel_rfl) (fun _ _ _ h => h) (Or.inl ⟨by rfl, ?_⟩) ?_ ?_
                  rotate_left
                  · intro w'
                    go_simp
                    with_reducible rfl
                  rotate_left
                  · simp only [Act.put, List.setIfInBounds_toArray, List.set_cons_zero, List.set_cons_succ, i64_w, i32_w]
                    rfl
                  refine pure_ (i := 12) (N := some 124) (v := ?_) (a' := ?_) #[true, true, true, true, true, true, true, true, true, true, true, true, true, false, false, false, false, false, false, false, false, false, false, false, false, false, false, false, false, false, false, false, false, false] rfl rfl (by kernel_rfl) (fun _ _ _ h => h) (Or.inl ⟨by rfl, ?_⟩) ?_ ?_
                  rotate_left
                  · intro w'
                    go_simp
                    with_reducible rfl
                  rotate_left
                  · simp only [Act.put, List.setIfInBounds_toArray, List.set_cons_zero, List.set_cons_succ, i64_w, i32_w]
                    rfl
                  refine pure_ (i := 13) (N := some 125) (v := ?_) (a' := ?_) #[true, true, true, true, true, true, true, true, true, true, true, true, true, true, false, false, false, false, false, false, false, false, false, false, false, false, false, false, false, false, false, false, false, false] rfl rfl (by kernel_rfl) (fun _ _ _ h => h) (Or.inl ⟨by rfl, ?_⟩) ?_ ?_
                  rotate_left
                  · intro w'
                    go_simp
                    with_reducible rfl
                  rotate_left
                  · simp only [Act.put, List.setIfInBounds_toArray, List.set_cons_zero, List.set_cons_succ, i64_w, i32_w]
                    rfl
                  refine pure_ (i := 14) (N := some 126) (v := ?_) (a' := ?_) #[true, true, true, true, true, true, true, true, true, true, true, true, true, true, true, false, false, false, false, false, false, false, false, false, false, false, false, false, false, false, false, false, false, false] rfl rfl (by kernel_rfl) (fun _ _ _ h => h) (Or.inl ⟨by rfl, ?_⟩) ?_ ?_
                  rotate_left
                  · intro w'
                    go_simp
                    with_reducible rfl
                  rotate_left
                  · simp only [Act.put, List.setIfInBounds_toArray, List.set_cons_zero, List.set_cons_succ, i64_w, i32_w]
                    rfl
                  refine pure_ (i := 16) (N := some 128) (v := ?_) (a' := ?_) #[true, true, true, true, true, true, true, true, true, true, true, true, true, true, true, false, true, false, false, false, false, false, false, false, false, false, false, false, false, false, false, false, false, false] rfl rfl (by kernel_rfl) (fun _ _ _ h => h) (Or.inl ⟨by rfl, ?_⟩) ?_ ?_
                  rotate_left
                  · intro w'
                    go_simp
                    with_reducible rfl
                  rotate_left
                  · simp only [Act.put, List.setIfInBounds_toArray, List.set_cons_zero, List.set_cons_succ, i64_w, i32_w]
                    rfl
                  refine pure_ (i := 17) (N := some 129) (v := ?_) (a' := ?_) #[true, true, true, true, true, true, true, true, true, true, true, true, true, true, true, false, true, true, false, false, false, false, false, false, false, false, false, false, false, false, false, false, false, false] rfl rfl (by kernel_rfl) (fun _ _ _ h => h) (Or.inl ⟨by rfl, ?_⟩) ?_ ?_
                  rotate_left
                  · intro w'
                    go_simp
                    with_reducible rfl
                  rotate_left
                  · simp only [Act.put, List.setIfInBounds_toArray, List.set_cons_zero, List.set_cons_succ, i64_w, i32_w]
                    rfl
                  refine one_ (i := 15) (N := some 127) #[true, true, true, true, true, true, true, true, true, true, true, true, true, true, true, true, true, true, false, false, false, false, false, false, false, false, false, false, false, false, false, false, false, false] rfl rfl (by kernel_rfl) (by decide) (fun K hK => ?_)
                  refine goes_ Try.func14 (by kernel_rfl) rfl #[.pointer (some ⟨t1, 0, none⟩), .int .i64 at_] (by rfl) rfl rfl (by (try simp only [List.map_toArray, List.map_cons, List.map_nil]); first | done | rfl) ?_
                  refine (bst wb _ t1 Qa at_ HT5.out.left HLL.out.1).mono ?_
                  rintro e w6 ⟨v6, rfl, hH, hB⟩
                  rw [HST.out] at hH
                  have HT6 := Aside0.mk (HT5.out.move hB)
                  have hl := hH.len3
                  obtain ⟨A6, c6, hv, hc, hC⟩ := hH.reads'
                  obtain ⟨n1, hn1⟩ : ∃ k, k = (stT at_ Qb).length := ⟨_, rfl⟩
                  rw [← hn1] at hv hc
                  subst hv
                  have HR6 := Aside0.mk (And.intro hc hC)
                  have HNn1 := Aside0.mk (And.intro hn1 hl)
                  clear hH hB hl hc hC hn1
                  refine ⟨_, rfl, hK.out _ _ (HSS.out _ (HT6.out.below)) (fun _ => ?_)⟩
                  clear hK K hHeld
                  have hHeld := HSS.out _ (HT6.out.below)
                  refine norm_ (a' := ?_) ?_ ?_
                  rotate_left
                  · show Act.put _ (some 127) _ = _
                    simp only [Act.put, List.setIfInBounds_toArray, List.set_cons_zero, List.set_cons_succ, i64_w, i32_w]
                    rfl
                  refine one_ (i := 18) (N := some 130) #[true, true, true, true, true, true, true, true, true, true, true, true, true, true, true, true, true, true, true, false, false, false, false, false, false, false, false, false, false, false, false, false, false, false] rfl rfl (by kernel_rfl) (by decide) (fun K hK => ?_)
                  refine goes_ Try.func14 (by kernel_rfl) rfl #[.pointer (some ⟨t2, 0, none⟩), .int .i64 at_] (by rfl) rfl rfl (by (try simp only [List.map_toArray, List.map_cons, List.map_nil]); first | done | rfl) ?_
                  refine (bst wb _ t2 Qb at_ HT6.out.right HLL.out.2).mono ?_
                  rintro e w7 ⟨v7, rfl, hH, hB⟩
                  have HT7 := Aside0.mk (HT6.out.move hB)
                  obtain ⟨A7, c7, hv, hc, hC⟩ := hH.reads'
                  rw [← HNn1.out.1] at hv hc
                  subst hv
                  have HR7 := Aside0.mk (And.intro (And.intro HR6.out.1 (Kd.C_below HR6.out.2 hB)) (And.intro hc hC))
                  clear hH hB hc hC HR6
                  refine ⟨_, rfl, hK.out _ _ (HSS.out _ (HT7.out.below)) (fun _ => ?_)⟩
                  clear hK K hHeld
                  have hHeld := HSS.out _ (HT7.out.below)
                  refine norm_ (a' := ?_) ?_ ?_
                  rotate_left
                  · show Act.put _ (some 130) _ = _
                    simp only [Act.put, List.setIfInBounds_toArray, List.set_cons_zero, List.set_cons_succ, i64_w, i32_w]
                    rfl
                  refine one_ (i := 19) (N := some 131) #[true, true, true, true, true, true, true, true, true, true, true, true, true, true, true, true, true, true, true, true, false, false, false, false, false, false, false, false, false, false, false, false, false, false] rfl rfl (by kernel_rfl) (by decide) (fun K hK => ?_)
                  refine goes_ Try.func16 (by kernel_rfl) rfl #[.slice A6 n1 c6, .slice A7 n1 c7] (by rfl) rfl rfl (by (try simp only [List.map_toArray, List.map_cons, List.map_nil]); first | done | rfl) ?_
                  refine (ints_same2 w7 A6 A7 c6 c7 n1 _ HNn1.out.1 HR7.out.1.1 HR7.out.2.1 HR7.out.1.2 HR7.out.2.2 HNn1.out.2).mono ?_
                  rintro e w8 ⟨rfl, hB⟩
                  have HT8 := Aside0.mk (HT7.out.move hB)
                  clear hB HR7
                  refine ⟨_, rfl, hK.out _ _ (HSS.out _ (HT8.out.below)) (fun _ => ?_)⟩
                  clear hK K hHeld
                  have hHeld := HSS.out _ (HT8.out.below)
                  refine norm_ (a' := ?_) ?_ ?_
                  rotate_left
                  · show Act.put _ (some 131) _ = _
                    simp only [Act.put, List.setIfInBounds_toArray, List.set_cons_zero, List.set_cons_succ, i64_w, i32_w]
                    rfl
                  refine pure_ (i := 20) (N := some 132) (v := ?_) (a' := ?_) #[true, true, true, true, true, true, true, true, true, true, true, true, true, true, true, true, true, true, true, true, true, false, false, false, false, false, false, false, false, false, false, false, false, false] rfl rfl (by kernel_rfl) (fun _ _ _ h => h) (Or.inl ⟨by rfl, ?_⟩) ?_ ?_
                  rotate_left
                  · intro w'
                    go_simp
                    with_reducible rfl
                  rotate_left
                  · simp only [Act.put, List.setIfInBounds_toArray, List.set_cons_zero, List.set_cons_succ, i64_w, i32_w]
                    rfl
                  refine pure_ (i := 21) (N := some 133) (v := ?_) (a' := ?_) #[true, true, true, true, true, true, true, true, true, true, true, true, true, true, true, true, true, true, true, true, true, true, false, false, false, false, false, false, false, false, false, false, false, false] rfl rfl (by kernel_rfl) (fun _ _ _ h => h) (Or.inl ⟨by rfl, ?_⟩) ?_ ?_
                  rotate_left
                  · intro w'
                    go_simp
                    with_reducible rfl
                  rotate_left
                  · simp only [Act.put, List.setIfInBounds_toArray, List.set_cons_zero, List.set_cons_succ, i64_w, i32_w]
                    rfl
                  refine pure_ (i := 22) (N := some 134) (v := ?_) (a' := ?_) #[true, true, true, true, true, true, true, true, true, true, true, true, true, true, true, true, true, true, true, true, true, true, true, false, false, false, false, false, false, false, false, false, false, false] rfl rfl (by kernel_rfl) (fun _ _ _ h => h) (Or.inl ⟨by rfl, ?_⟩) ?_ ?_
                  rotate_left
                  · intro w'
                    go_simp
                    with_reducible rfl
                  rotate_left
                  · simp only [Act.put, List.setIfInBounds_toArray, List.set_cons_zero, List.set_cons_succ, i64_w, i32_w]
                    rfl
                  refine take_ (i := 23) (N := some 135) (v := ?_) (a' := ?_) #[true, true, true, true, true, true, true, true, true, true, true, true, true, true, true, true, true, true, true, true, true, true, true, true, false, false, false, false, false, false, false, false, false, false] rfl rfl (by kernel_rfl) (fun _ _ _ h => h) (Or.inl ⟨by rfl, ?_⟩) hHeld ?_ ?_
                  rotate_left
                  · rintro w' ⟨s0, s1⟩
                    go_simp
                    with_reducible rfl
                  rotate_left
                  · simp only [Act.put, List.setIfInBounds_toArray, List.set_cons_zero, List.set_cons_succ, i64_w, i32_w]
                    rfl
                  refine pure_ (i := 25) (N := some 137) (v := ?_) (a' := ?_) #[true, true, true, true, true, true, true, true, true, true, true, true, true, true, true, true, true, true, true, true, true, true, true, true, false, true, false, false, false, false, false, false, false, false] rfl rfl (by kernel_rfl) (fun _ _ _ h => h) (Or.inl ⟨by rfl, ?_⟩) ?_ ?_
                  rotate_left
                  · intro w'
                    go_simp
                    with_reducible rfl
                  rotate_left
                  · simp only [Act.put, List.setIfInBounds_toArray, List.set_cons_zero, List.set_cons_succ, i64_w, i32_w]
                    rfl
                  refine take_ (i := 26) (N := some 138) (v := ?_) (a' := ?_) #[true, true, true, true, true, true, true, true, true, true, true, true, true, true, true, true, true, true, true, true, true, true, true, true, false, true, true, false, false, false, false, false, false, false] rfl rfl (by kernel_rfl) (fun _ _ _ h => h) (Or.inl ⟨by rfl, ?_⟩) hHeld ?_ ?_
                  rotate_left
                  · rintro w' ⟨s0, s1⟩
                    go_simp
                    with_reducible rfl
                  rotate_left
                  · simp only [Act.put, List.setIfInBounds_toArray, List.set_cons_zero, List.set_cons_succ, i64_w, i32_w]
                    rfl
                  refine one_ (i := 24) (N := some 136) #[true, true, true, true, true, true, true, true, true, true, true, true, true, true, true, true, true, true, true, true, true, true, true, true, true, true, true, false, false, false, false, false, false, false] rfl rfl (by kernel_rfl) (by decide) (fun K hK => ?_)
                  refine goes_ Try.func12 (by kernel_rfl) rfl #[.pointer (some ⟨t1, 0, none⟩), .agg #[.int .i64 p.f0, .int .i64 p.f1]] (by rfl) rfl rfl (by (try simp only [List.map_toArray, List.map_cons, List.map_nil]); first | done | rfl) ?_
                  refine (bov wb _ t1 Qa p HT8.out.left HLL.out.1).mono ?_
                  rintro e w9 ⟨v9, rfl, hH, hB⟩
                  rw [HOV.out] at hH
                  have HT9 := Aside0.mk (HT8.out.move hB)
                  have hl := hH.len3
                  obtain ⟨A9, c9, hv, hc, hC⟩ := hH.reads'
                  obtain ⟨n2, hn2⟩ : ∃ k, k = (ovT p Qb).length := ⟨_, rfl⟩
                  rw [← hn2] at hv hc
                  subst hv
                  have HR9 := Aside0.mk (And.intro hc hC)
                  have HNn2 := Aside0.mk (And.intro hn2 hl)
                  clear hH hB hl hc hC hn2
                  refine ⟨_, rfl, hK.out _ _ (HSS.out _ (HT9.out.below)) (fun _ => ?_)⟩
                  clear hK K hHeld
                  have hHeld := HSS.out _ (HT9.out.below)
                  refine norm_ (a' := ?_) ?_ ?_
                  rotate_left
                  · show Act.put _ (some 136) _ = _
                    simp only [Act.put, List.setIfInBounds_toArray, List.set_cons_zero, List.set_cons_succ, i64_w, i32_w]
                    rfl
                  refine one_ (i := 27) (N := some 139) #[true, true, true, true, true, true, true, true, true, true, true, true, true, true, true, true, true, true, true, true, true, true, true, true, true, true, true, true, false, false, false, false, false, false] rfl rfl (by kernel_rfl) (by decide) (fun K hK => ?_)
                  refine goes_ Try.func12 (by kernel_rfl) rfl #[.pointer (some ⟨t2, 0, none⟩), .agg #[.int .i64 p.f0, .int .i64 p.f1]] (by rfl) rfl rfl (by (try simp only [List.map_toArray, List.map_cons, List.map_nil]); first | done | rfl) ?_
                  refine (bov wb _ t2 Qb p HT9.out.right HLL.out.2).mono ?_
                  rintro e w10 ⟨v10, rfl, hH, hB⟩
                  have HT10 := Aside0.mk (HT9.out.move hB)
                  obtain ⟨A10, c10, hv, hc, hC⟩ := hH.reads'
                  rw [← HNn2.out.1] at hv hc
                  subst hv
                  have HR10 := Aside0.mk (And.intro (And.intro HR9.out.1 (Kd.C_below HR9.out.2 hB)) (And.intro hc hC))
                  clear hH hB hc hC HR9
                  refine ⟨_, rfl, hK.out _ _ (HSS.out _ (HT10.out.below)) (fun _ => ?_)⟩
                  clear hK K hHeld
                  have hHeld := HSS.out _ (HT10.out.below)
                  refine norm_ (a' := ?_) ?_ ?_
                  rotate_left
                  · show Act.put _ (some 139) _ = _
                    simp only [Act.put, List.setIfInBounds_toArray, List.set_cons_zero, List.set_cons_succ, i64_w, i32_w]
                    rfl
                  refine one_ (i := 28) (N := some 140) #[true, true, true, true, true, true, true, true, true, true, true, true, true, true, true, true, true, true, true, true, true, true, true, true, true, true, true, true, true, false, false, false, false, false] rfl rfl (by kernel_rfl) (by decide) (fun K hK => ?_)
                  refine goes_ Try.func16 (by kernel_rfl) rfl #[.slice A9 n2 c9, .slice A10 n2 c10] (by rfl) rfl rfl (by (try simp only [List.map_toArray, List.map_cons, List.map_nil]); first | done | rfl) ?_
                  refine (ints_same2 w10 A9 A10 c9 c10 n2 _ HNn2.out.1 HR10.out.1.1 HR10.out.2.1 HR10.out.1.2 HR10.out.2.2 HNn2.out.2).mono ?_
                  rintro e w11 ⟨rfl, hB⟩
                  have HT11 := Aside0.mk (HT10.out.move hB)
                  clear hB HR10
                  refine ⟨_, rfl, hK.out _ _ (HSS.out _ (HT11.out.below)) (fun _ => ?_)⟩
                  clear hK K hHeld
                  have hHeld := HSS.out _ (HT11.out.below)
                  refine norm_ (a' := ?_) ?_ ?_
                  rotate_left
                  · show Act.put _ (some 140) _ = _
                    simp only [Act.put, List.setIfInBounds_toArray, List.set_cons_zero, List.set_cons_succ, i64_w, i32_w]
                    rfl
                  refine pure_ (i := 29) (N := some 141) (v := ?_) (a' := ?_) #[true, true, true, true, true, true, true, true, true, true, true, true, true, true, true, true, true, true, true, true, true, true, true, true, true, true, true, true, true, true, false, false, false, false] rfl rfl (by kernel_rfl) (fun _ _ _ h => h) (Or.inl ⟨by rfl, ?_⟩) ?_ ?_
                  rotate_left
                  · intro w'
                    go_simp
                    with_reducible rfl
                  rotate_left
                  · simp only [Act.put, List.setIfInBounds_toArray, List.set_cons_zero, List.set_cons_succ, i64_w, i32_w]
                    rfl
                  refine pure_ (i := 30) (N := some 142) (v := ?_) (a' := ?_) #[true, true, true, true, true, true, true, true, true, true, true, true, true, true, true, true, true, true, true, true, true, true, true, true, true, true, true, true, true, true, true, false, false, false] rfl rfl (by kernel_rfl) (fun _ _ _ h => h) (Or.inl ⟨by rfl, ?_⟩) ?_ ?_
                  rotate_left
                  · intro w'
                    go_simp
                    with_reducible rfl
                  rotate_left
                  · simp only [Act.put, List.setIfInBounds_toArray, List.set_cons_zero, List.set_cons_succ, i64_w, i32_w]
                    rfl
                  refine one_ (i := 31) (N := some 143) #[true, true, true, true, true, true, true, true, true, true, true, true, true, true, true, true, true, true, true, true, true, true, true, true, true, true, true, true, true, true, true, true, false, false] rfl rfl (by kernel_rfl) (by decide) (fun K hK => ?_)
                  refine goes_ Try.func9 (by kernel_rfl) rfl #[] (by rfl) rfl rfl (by (try simp only [List.map_toArray, List.map_cons, List.map_nil]); first | done | rfl) ?_
                  refine (works_calls wb _ HT11.out.below).mono ?_
                  rintro e w12 ⟨rfl, hB⟩
                  have HB12 := Aside0.mk (below_then HT11.out.below HT11.out.below.size hB)
                  refine ⟨_, rfl, hK.out _ _ (HSS.out _ HB12.out) (fun _ => ?_)⟩
                  clear hK K hB
                  refine norm_ (a' := ?_) ?_ ?_
                  rotate_left
                  · show Act.put _ (some 143) _ = _
                    simp only [Act.put, List.setIfInBounds_toArray, List.set_cons_zero, List.set_cons_succ, i64_w, i32_w]
                    rfl
                  refine pure_ (i := 32) (N := some 144) (v := ?_) (a' := ?_) #[true, true, true, true, true, true, true, true, true, true, true, true, true, true, true, true, true, true, true, true, true, true, true, true, true, true, true, true, true, true, true, true, true, false] rfl rfl (by kernel_rfl) (fun _ _ _ h => h) (Or.inl ⟨by rfl, ?_⟩) ?_ ?_
                  rotate_left
                  · intro w'
                    go_simp
                    with_reducible rfl
                  rotate_left
                  · simp only [Act.put, List.setIfInBounds_toArray, List.set_cons_zero, List.set_cons_succ, i64_w, i32_w]
                    rfl
                  refine pure_ (i := 33) (N := some 8) (v := ?_) (a' := ?_) #[true, true, true, true, true, true, true, true, true, true, true, true, true, true, true, true, true, true, true, true, true, true, true, true, true, true, true, true, true, true, true, true, true, true] rfl rfl (by kernel_rfl) (fun _ _ _ h => h) (Or.inl ⟨by rfl, ?_⟩) ?_ ?_
                  rotate_left
                  · intro w'
                    go_simp
                    with_reducible rfl
                  rotate_left
                  · simp only [Act.put, List.setIfInBounds_toArray, List.set_cons_zero, List.set_cons_succ, i64_w, i32_w]
                    rfl
                  refine done_ (by kernel_rfl) ?_
                  go_wp2
                  go_ret
                  exact ⟨rfl, below_then HW.out HW.out.size HB12.out⟩
end Go.Proofs.Ytdjfjmcnghfdkaa.My
