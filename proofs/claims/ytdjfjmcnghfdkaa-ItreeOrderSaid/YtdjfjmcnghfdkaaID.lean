/- rotate. -/
import Derived.Test.YtdjfjmcnghfdkaaIC
namespace Go.Proofs.Ytdjfjmcnghfdkaa.My
open Go Go.RowKit Go.Proofs.YtdjfjmcnghfdkaaW.PrintWords Go.Proofs.YtdjfjmcnghfdkaaW.PrintLast Go.Proofs.YtdjfjmcnghfdkaaW.PrintMore Go.Proofs.Ytdjfjmcnghfdkaa.PItreeActs
set_option linter.unusedVariables false
set_option linter.unusedSimpArgs false
theorem blks_nodup_nd {x : Nat × S30} {l r : BT} (h : (Tr.nd x l r).blks.Nodup) : l.blks.Nodup ∧ r.blks.Nodup ∧ x.1 ∉ l.blks ∧ x.1 ∉ r.blks ∧ (∀ k ∈ l.blks, k ∉ r.blks) := by
  rw [Tr.blks_nd, List.nodup_append] at h
  obtain ⟨h1, h2, h3⟩ := h
  rw [List.nodup_cons] at h2
  refine ⟨h1, h2.2, fun hx => h3 _ hx _ (by simp) rfl, h2.1, fun k hk hk' => h3 _ hk _ (by simp [hk']) rfl⟩
abbrev RotPost (w : World) (T : BT) (b b' : Nat) : Ending → World → Prop := fun e w' => e = .returned T.ptr ∧ T.At w' ∧ Wr w w' (fun k => k = b ∨ k = b')
set_option maxHeartbeats 1000000 in
set_option maxRecDepth 100000 in
theorem rotate_up (b : Nat) (x : S30) (b' : Nat) (y : S30) (a c r : BT) (w : World) (h : Raw w b x (.nd (b', y) a c) r) (hn : (Tr.nd (b, x) (.nd (b', y) a c) r).blks.Nodup) (hh1 : a.ht ≤ 900000) (hh2 : c.ht ≤ 900000) (hh3 : r.ht ≤ 900000) :
    Calls Try.prog 47 #[.pointer (some ⟨b, 0, none⟩), .bool true] w (RotPost w (.nd (b', y) a (.nd (b, x) c r)) b b') := by
  obtain ⟨⟨h0, e0, hb⟩, ⟨hb', hA, hC⟩, hR⟩ := h
  obtain ⟨n1, n2, n3, n4, n5⟩ := blks_nodup_nd hn
  obtain ⟨m1, m2, m3, m4, m5⟩ := blks_nodup_nd n1
  simp only [Tr.blks_nd, List.mem_append, List.mem_cons, not_or] at n3 n4 n5
  have n6 : b' ∉ r.blks := n5 b' (.inr (.inl rfl))
  have k1 : b ∉ c.blks := n3.2.2
  have k2 : b ∉ a.blks := n3.1
  have k3 : b ∉ r.blks := n4
  have hne : b ≠ b' := n3.2.1
  have hne' : b' ≠ b := fun e => hne e.symm
  obtain ⟨vc, hvc⟩ := ptr_pointer c
  obtain ⟨W1, hW1⟩ : ∃ W1, W1 = (w.setCell ⟨b, 3, none⟩ (.pointer vc)).setCell ⟨b', 4, none⟩ (.pointer (some ⟨b, 0, none⟩)) := ⟨_, rfl⟩
  have hw1 : Wr w W1 (fun k => k = b ∨ k = b') := by
    rw [hW1]
    exact ((Wr.refl w (fun k => k = b ∨ k = b')).set (S := fun k => k = b ∨ k = b') (.inl rfl) 3 _).set (S := fun k => k = b ∨ k = b') (.inr rfl) 4 _
  have hb1 : W1.heap[b]? = some (.cells (nodeC x c.ptr r.ptr h0 e0) 69 (0, 0)) := by
    rw [hW1]
    refine blk_far (blk_put (cs := nodeC x (.pointer (some ⟨b', 0, none⟩)) r.ptr h0 e0) hb 3 _ ?_) hne _
    rw [hvc]; rfl
  have hb1' : W1.heap[b']? = some (.cells (nodeC y a.ptr (.pointer (some ⟨b, 0, none⟩)) ((Tr.nd (b', y) a c).ht : Nat) (Tr.nd (b', y) a c).sk.en) 69 (0, 0)) := by
    rw [hW1]
    exact blk_put (cs := nodeC y a.ptr c.ptr ((Tr.nd (b', y) a c).ht : Nat) (Tr.nd (b', y) a c).sk.en) (blk_far hb' hne' _) 4 _ rfl
  have hA1 := hA.wr hw1 (fun k hk e => by rcases e with rfl | rfl; exact k2 hk; exact m3 hk)
  have hC1 := hC.wr hw1 (fun k hk e => by rcases e with rfl | rfl; exact k1 hk; exact m4 hk)
  have hR1 := hR.wr hw1 (fun k hk e => by rcases e with rfl | rfl; exact k3 hk; exact n6 hk)
  have HF := Aside0.mk (fix_calls b x c r W1 ⟨⟨_, _, hb1⟩, hC1, hR1⟩ k1 k3 (by omega) (by omega))
  have HG := Aside0.mk (fun (w2 : World) (hT : (Tr.nd (b, x) c r).At w2) (hw : Wr W1 w2 (fun k => k = b)) =>
    And.intro (fix_calls b' y a (.nd (b, x) c r) w2 ⟨⟨_, _, hw.keep hb1' hne'⟩, hA1.wr hw (fun k hk e => k2 (e ▸ hk)), hT⟩ m3 (by simp only [Tr.blks_nd, List.mem_append, List.mem_cons, not_or]; exact ⟨m4, hne', n6⟩) (by (try simp only [Tr.ht]); omega) (by (try simp only [Tr.ht]); omega)) (hw1.trans hw (fun k hk => .inl (.inl hk))))
  have c3 : w.cell? ⟨b, 3, none⟩ = some (.pointer (some ⟨b', 0, none⟩)) := (blk_cell hb 3).trans rfl
  have c4 : w.cell? ⟨b', 4, none⟩ = some (.pointer vc) := (blk_cell hb' 4).trans (congrArg some hvc)
  have f3 := blk_frozen hb 3
  have f4 : w.frozen? ⟨b', 4, none⟩ = false := blk_frozen hb' 4
  have HW1 := Aside0.mk hW1
  rw [hW1] at HF
  clear hb hb' hA hC hR hvc n1 n2 n3 n4 n5 n6 m1 m2 m3 m4 m5 hn k1 k2 k3 hw1 hb1 hb1' hA1 hC1 hR1 hW1
  go_enter Try.func47, Try.ntmps47
  go_wp2_with (first
    | (go_at_call 46; with_reducible refine HF.out.mono ?_; rintro e w2 ⟨rfl, hT, hw⟩; rw [← HW1.out] at hw; have HG2 := Aside0.mk (HG.out w2 hT hw); clear hT hw HF)
    | (go_at_call 46; with_reducible refine HG2.out.1.mono ?_; rintro e w3 ⟨rfl, hT, hw⟩; have HE := Aside0.mk (And.intro hT (HG2.out.2.trans hw (fun k hk => .inl (.inr hk)))); clear hT hw HG2))
  go_ret
  exact ⟨rfl, HE.out.1, HE.out.2⟩
set_option maxHeartbeats 1000000 in
set_option maxRecDepth 100000 in
theorem rotate_dn (b : Nat) (x : S30) (b' : Nat) (y : S30) (a c r : BT) (w : World) (h : Raw w b x r (.nd (b', y) c a)) (hn : (Tr.nd (b, x) r (.nd (b', y) c a)).blks.Nodup) (hh1 : a.ht ≤ 900000) (hh2 : c.ht ≤ 900000) (hh3 : r.ht ≤ 900000) :
    Calls Try.prog 47 #[.pointer (some ⟨b, 0, none⟩), .bool false] w (RotPost w (.nd (b', y) (.nd (b, x) r c) a) b b') := by
  obtain ⟨⟨h0, e0, hb⟩, hR, ⟨hb', hC, hA⟩⟩ := h
  obtain ⟨n1, n2, n3, n4, n5⟩ := blks_nodup_nd hn
  obtain ⟨m1, m2, m3, m4, m5⟩ := blks_nodup_nd n2
  simp only [Tr.blks_nd, List.mem_append, List.mem_cons, not_or] at n3 n4 n5
  have n6 : b' ∉ r.blks := fun hk => (n5 b' hk).2.1 rfl
  have k1 : b ∉ c.blks := n4.1
  have k2 : b ∉ a.blks := n4.2.2
  have k3 : b ∉ r.blks := n3
  have hne : b ≠ b' := n4.2.1
  have hne' : b' ≠ b := fun e => hne e.symm
  obtain ⟨vc, hvc⟩ := ptr_pointer c
  obtain ⟨W1, hW1⟩ : ∃ W1, W1 = (w.setCell ⟨b, 4, none⟩ (.pointer vc)).setCell ⟨b', 3, none⟩ (.pointer (some ⟨b, 0, none⟩)) := ⟨_, rfl⟩
  have hw1 : Wr w W1 (fun k => k = b ∨ k = b') := by
    rw [hW1]
    exact ((Wr.refl w (fun k => k = b ∨ k = b')).set (S := fun k => k = b ∨ k = b') (.inl rfl) 4 _).set (S := fun k => k = b ∨ k = b') (.inr rfl) 3 _
  have hb1 : W1.heap[b]? = some (.cells (nodeC x r.ptr c.ptr h0 e0) 69 (0, 0)) := by
    rw [hW1]
    refine blk_far (blk_put (cs := nodeC x r.ptr (.pointer (some ⟨b', 0, none⟩)) h0 e0) hb 4 _ ?_) hne _
    rw [hvc]; rfl
  have hb1' : W1.heap[b']? = some (.cells (nodeC y (.pointer (some ⟨b, 0, none⟩)) a.ptr ((Tr.nd (b', y) c a).ht : Nat) (Tr.nd (b', y) c a).sk.en) 69 (0, 0)) := by
    rw [hW1]
    exact blk_put (cs := nodeC y c.ptr a.ptr ((Tr.nd (b', y) c a).ht : Nat) (Tr.nd (b', y) c a).sk.en) (blk_far hb' hne' _) 3 _ rfl
  have hA1 := hA.wr hw1 (fun k hk e => by rcases e with rfl | rfl; exact k2 hk; exact m4 hk)
  have hC1 := hC.wr hw1 (fun k hk e => by rcases e with rfl | rfl; exact k1 hk; exact m3 hk)
  have hR1 := hR.wr hw1 (fun k hk e => by rcases e with rfl | rfl; exact k3 hk; exact n6 hk)
  have HF := Aside0.mk (fix_calls b x r c W1 ⟨⟨_, _, hb1⟩, hR1, hC1⟩ k3 k1 (by omega) (by omega))
  have HG := Aside0.mk (fun (w2 : World) (hT : (Tr.nd (b, x) r c).At w2) (hw : Wr W1 w2 (fun k => k = b)) =>
    And.intro (fix_calls b' y (.nd (b, x) r c) a w2 ⟨⟨_, _, hw.keep hb1' hne'⟩, hT, hA1.wr hw (fun k hk e => k2 (e ▸ hk))⟩ (by simp only [Tr.blks_nd, List.mem_append, List.mem_cons, not_or]; exact ⟨n6, hne', m3⟩) m4 (by (try simp only [Tr.ht]); omega) (by (try simp only [Tr.ht]); omega)) (hw1.trans hw (fun k hk => .inl (.inl hk))))
  have c3 : w.cell? ⟨b, 4, none⟩ = some (.pointer (some ⟨b', 0, none⟩)) := (blk_cell hb 4).trans rfl
  have c4 : w.cell? ⟨b', 3, none⟩ = some (.pointer vc) := (blk_cell hb' 3).trans (congrArg some hvc)
  have f3 := blk_frozen hb 4
  have f4 : w.frozen? ⟨b', 3, none⟩ = false := blk_frozen hb' 3
  have HW1 := Aside0.mk hW1
  rw [hW1] at HF
  clear hb hb' hA hC hR hvc n1 n2 n3 n4 n5 n6 m1 m2 m3 m4 m5 hn k1 k2 k3 hw1 hb1 hb1' hA1 hC1 hR1 hW1
  go_enter Try.func47, Try.ntmps47
  go_wp2_with (first
    | (go_at_call 46; with_reducible refine HF.out.mono ?_; rintro e w2 ⟨rfl, hT, hw⟩; rw [← HW1.out] at hw; have HG2 := Aside0.mk (HG.out w2 hT hw); clear hT hw HF)
    | (go_at_call 46; with_reducible refine HG2.out.1.mono ?_; rintro e w3 ⟨rfl, hT, hw⟩; have HE := Aside0.mk (And.intro hT (HG2.out.2.trans hw (fun k hk => .inl (.inr hk)))); clear hT hw HG2))
  go_ret
  exact ⟨rfl, HE.out.1, HE.out.2⟩
end Go.Proofs.Ytdjfjmcnghfdkaa.My
