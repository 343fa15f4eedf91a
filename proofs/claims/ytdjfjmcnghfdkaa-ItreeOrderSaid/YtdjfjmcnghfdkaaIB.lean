/- levels, last, measure, fix. -/
import Derived.Test.YtdjfjmcnghfdkaaIA
namespace Go.Proofs.Ytdjfjmcnghfdkaa.My
open Go Go.RowKit Go.Proofs.YtdjfjmcnghfdkaaW.PrintWords Go.Proofs.YtdjfjmcnghfdkaaW.PrintLast Go.Proofs.YtdjfjmcnghfdkaaW.PrintMore Go.Proofs.Ytdjfjmcnghfdkaa.PItreeActs
set_option linter.unusedVariables false
set_option linter.unusedSimpArgs false
theorem max2_mx (k k' : IntKind) (x y : Int) : Builtin.max2 (.int k x) (.int k' y) = pure (.int k (max x y)) := by rw [max2_int]; congr 2; omega
attribute [local go_sem] max2_mx max_two
theorem levels_calls (t : BT) (w : World) (h : t.At w) : Calls Try.prog 34 #[t.ptr] w fun e w' => e = .returned (.int .i64 (t.ht : Nat)) ∧ w = w' := by
  cases t with
  | nil =>
    show Calls Try.prog 34 #[.pointer none] w _
    go_enter Try.func34, Try.ntmps34
    go_wp2
    go_ret
    exact ⟨rfl, rfl⟩
  | nd x l r =>
    show Calls Try.prog 34 #[.pointer (some ⟨x.1, 0, none⟩)] w _
    have hc : w.cell? ⟨x.1, 5, none⟩ = some (.int .i64 (((Tr.nd x l r).ht : Nat) : Int)) := (blk_cell h.1 5).trans rfl
    obtain ⟨n, hn⟩ : ∃ n : Nat, n = (Tr.nd x l r).ht := ⟨_, rfl⟩
    rw [← hn] at hc ⊢
    clear hn h
    go_enter Try.func34, Try.ntmps34
    go_wp2
    go_ret
    exact ⟨rfl, rfl⟩
theorem last_calls (t : BT) (w : World) (h : t.At w) : Calls Try.prog 61 #[t.ptr] w fun e w' => e = .returned (.int .i64 t.sk.en) ∧ w = w' := by
  cases t with
  | nil =>
    show Calls Try.prog 61 #[.pointer none] w _
    go_enter Try.func61, Try.ntmps61
    go_wp2
    go_ret
    exact ⟨rfl, rfl⟩
  | nd x l r =>
    show Calls Try.prog 61 #[.pointer (some ⟨x.1, 0, none⟩)] w _
    have hc : w.cell? ⟨x.1, 6, none⟩ = some (.int .i64 (Tr.nd x l r).sk.en) := (blk_cell h.1 6).trans rfl
    obtain ⟨n, hn⟩ : ∃ n : Int, n = (Tr.nd x l r).sk.en := ⟨_, rfl⟩
    rw [← hn] at hc ⊢
    clear hn h
    go_enter Try.func61, Try.ntmps61
    go_wp2
    go_ret
    exact ⟨rfl, rfl⟩
theorem ptr_pointer (t : BT) : ∃ u, t.ptr = .pointer u := by cases t <;> exact ⟨_, rfl⟩
theorem Tr.At.drewN {t : BT} {w : World} (h : t.At w) (n : Nat) : t.At (w.drewN n) := h.keep (fun _ _ _ => rfl)
theorem levels_q (t : BT) (w : World) (h : t.At w) (n : Nat) : Calls Try.prog 34 #[t.ptr] (w.drewN n) fun e w'' => e = .returned (.int .i64 (t.ht : Nat)) ∧ ∃ m, w'' = w.drewN m :=
  Calls.quiet_of_same ((levels_calls t _ (h.drewN n)).mono fun _ _ ⟨he, hw⟩ => ⟨he, hw.symm⟩)
theorem last_q (t : BT) (w : World) (h : t.At w) (n : Nat) : Calls Try.prog 61 #[t.ptr] (w.drewN n) fun e w'' => e = .returned (.int .i64 t.sk.en) ∧ ∃ m, w'' = w.drewN m :=
  Calls.quiet_of_same ((last_calls t _ (h.drewN n)).mono fun _ _ ⟨he, hw⟩ => ⟨he, hw.symm⟩)
set_option maxHeartbeats 1000000 in
theorem measure_levels (g : Nat) (l r : BT) (w : World) (hl : l.At w) (hr : r.At w) (h3 : w.cell? ⟨g, 3, none⟩ = some l.ptr) (h4 : w.cell? ⟨g, 4, none⟩ = some r.ptr) :
    Calls Try.prog 60 #[.func (.func 34) #[] #[], .pointer (some ⟨g, 0, none⟩)] w fun e w' => e = .returned (.int .i64 (max (l.ht : Int) (r.ht : Int))) ∧ Drawn0 w w' := by
  have H1 := Aside0.mk (levels_q l w hl)
  have H2 := Aside0.mk (levels_q r w hr)
  obtain ⟨vl, hvl⟩ := ptr_pointer l
  obtain ⟨vr, hvr⟩ := ptr_pointer r
  rw [hvl] at h3 H1
  rw [hvr] at h4 H2
  obtain ⟨nl, hnl⟩ : ∃ n : Nat, n = l.ht := ⟨_, rfl⟩
  obtain ⟨nr, hnr⟩ : ∃ n : Nat, n = r.ht := ⟨_, rfl⟩
  rw [← hnl] at H1 ⊢
  rw [← hnr] at H2 ⊢
  clear hvl hvr hl hr hnl hnr
  go_enter Try.func60, Try.ntmps60
  go_wp2
  go_quiet ((go_at_call 34; first | exact H1.out _ | exact H2.out _))
  go_wp2
  go_ret
  exact ⟨rfl, (Drawn0.refl _).step _⟩
set_option maxHeartbeats 1000000 in
theorem measure_last (g : Nat) (l r : BT) (w : World) (hl : l.At w) (hr : r.At w) (h3 : w.cell? ⟨g, 3, none⟩ = some l.ptr) (h4 : w.cell? ⟨g, 4, none⟩ = some r.ptr) :
    Calls Try.prog 60 #[.func (.func 61) #[] #[], .pointer (some ⟨g, 0, none⟩)] w fun e w' => e = .returned (.int .i64 (max l.sk.en r.sk.en)) ∧ Drawn0 w w' := by
  have H1 := Aside0.mk (last_q l w hl)
  have H2 := Aside0.mk (last_q r w hr)
  obtain ⟨vl, hvl⟩ := ptr_pointer l
  obtain ⟨vr, hvr⟩ := ptr_pointer r
  rw [hvl] at h3 H1
  rw [hvr] at h4 H2
  obtain ⟨nl, hnl⟩ : ∃ n : Int, n = l.sk.en := ⟨_, rfl⟩
  obtain ⟨nr, hnr⟩ : ∃ n : Int, n = r.sk.en := ⟨_, rfl⟩
  rw [← hnl] at H1 ⊢
  rw [← hnr] at H2 ⊢
  clear hvl hvr hl hr hnl hnr
  go_enter Try.func60, Try.ntmps60
  go_wp2
  go_quiet ((go_at_call 61; first | exact H1.out _ | exact H2.out _))
  go_wp2
  go_ret
  exact ⟨rfl, (Drawn0.refl _).step _⟩
end Go.Proofs.Ytdjfjmcnghfdkaa.My
