/- The statement FrameAppend, walked, for any bytes that an argument can hold. -/
import Derived.Test.YtfaniohoplbdoaaMR
namespace Go.Proofs.Ytfaniohoplbdoaa.My
open Go Go.RowKit Go.Proofs.YtfaniohoplbdoaaW.PrintWords Go.Proofs.YtfaniohoplbdoaaW.PrintLast Go.Proofs.YtfaniohoplbdoaaW.PrintMore
set_option linter.unusedVariables false
set_option linter.unusedSimpArgs false
set_option maxHeartbeats 200000 in
set_option maxRecDepth 100000 in
theorem law_append_far (A : Option Addr) (c : Nat) (b : List Int) (A' : Option Addr) (c' : Nat) (body : List Int) (cut n : Int) (w : World) (hC : CB w A b) (hc : b.length ≤ c) (hC' : CB w A' body) (hc' : body.length ≤ c') (hb' : Byt body)
    (hs : b.length ≤ 140737488351232) (hs' : body.length ≤ 1048576) :
    Calls Try.prog 4 #[.slice A b.length c, .slice A' body.length c', .int .i64 cut, .int .i64 n] w (LawPost w) := by
  obtain ⟨m0, k, hkl, hkk, hmin, hmax⟩ := clamp cut b.length
  clear hkk
  obtain ⟨hcut, hCk⟩ := cutB_to A c b k k rfl hc hkl
  have HCk := Aside0.mk (hCk w hC)
  have HC := Aside0.mk hC
  have HC' := Aside0.mk hC'
  have HB' := Aside0.mk hb'
  have hlk : (b.take k).length ≤ c := by rw [List.length_take]; omega
  have hlk2 : (b.take k).length ≤ 140737488351232 := by rw [List.length_take]; omega
  clear hC hC' hb' hCk
  generalize b.take k = l at hcut HCk hlk hlk2
  have HF := Aside0.mk (fun w' (hw : Below w.heap.size w w') => fAppend_ok A c l A' c' body w' (Kd.C_below HCk.out hw) hlk (Kd.C_below HC'.out hw) hc' HB'.out hs' (by omega))
  have HR := Aside0.mk (fun w' (hw : Below w.heap.size w w') => rAppend_far A c l A' c' body w' (Kd.C_below HCk.out hw) hlk (Kd.C_below HC'.out hw) hc' HB'.out hs' (by omega))
  have hcv := fun (W : World) (h : CB W A b) => Kd.C_string (P := Try.prog) (A := A) (c := c) Try.underlying22 Try.underlying5 Try.underlying9 h
  have hcv0 := hcv w HC.out
  have HV := Aside0.mk hcv
  clear hcv
  go_enter Try.func4, Try.ntmps4
  go_wp2_with fail
  with_reducible refine (HF.out w (Below.refl _ _)).mono ?_
  rintro e w1 ⟨v1, rfl, hr1, hw1⟩
  obtain ⟨y, hy⟩ : ∃ y, y = l ++ frameL body := ⟨_, rfl⟩
  rw [← hy] at hr1 HR
  clear hy HF hcv0
  obtain ⟨A1, c1, rfl, hc1, hC1⟩ := Kd.R_reads hr1
  have HC1 := Aside0.mk hC1
  have HW1 := Aside0.mk hw1
  clear hr1 hC1 hw1
  go_wp2_with fail
  with_reducible refine (HR.out _ HW1.out).mono ?_
  rintro e w2 ⟨v2, rfl, hr2, hw2⟩
  obtain ⟨A2, c2, rfl, hc2, hC2⟩ := Kd.R_reads hr2
  have HC2 := Aside0.mk hC2
  have HC12 := Aside0.mk (Kd.C_below HC1.out hw2)
  have HW2 := Aside0.mk (below_then HW1.out HW1.out.size hw2)
  clear hr2 hC2 hw2 HC1 HR
  go_wp2_with fail
  with_reducible refine (PFrameAppend.bitemporallaw10_equal.calls A1 c1 y A2 c2 y true w2 HC12.out hc1 HC2.out hc2 (by simp [PFrameAppend.bitemporallaw10_equal.f])).mono ?_
  rintro e w3 ⟨rfl, n3, rfl⟩
  have hcv1 := HV.out (w2.drewN n3) (Kd.C_drewN (Kd.C_below HC.out HW2.out) n3)
  have hqs : ((strOfNums b).toList == (strOfNums b).toList) = true := by simp
  have hqn : (lenL n == lenL n) = true := by simp
  have HL := Aside0.mk (len_calls n)
  have HL' := Aside0.mk (rlen_calls n)
  generalize lenL n = ln at HL HL' hqn
  go_wp2_with fail
  with_reducible refine (HL.out _).mono ?_
  rintro e w4 ⟨rfl, n4, rfl⟩
  go_wp2_with fail
  with_reducible refine (HL'.out _).mono ?_
  rintro e w5 ⟨rfl, n5, rfl⟩
  go_wp2_with fail
  with_reducible refine (works_calls _).mono ?_
  rintro e w' ⟨rfl, hw⟩
  go_wp2
  go_ret
  exact ⟨rfl, below_then (pw_below_drewN HW2.out (n3 + n4 + n5)) HW2.out.size hw⟩
set_option maxHeartbeats 200000 in
set_option maxRecDepth 100000 in
theorem law_append_long (A : Option Addr) (c : Nat) (b : List Int) (A' : Option Addr) (c' m : Nat) (cut n : Int) (w : World) (hC : CB w A b) (hc : b.length ≤ c)
    (hs' : 1048576 < m) (hm : m ≤ 140737488351232) :
    Calls Try.prog 4 #[.slice A b.length c, .slice A' m c', .int .i64 cut, .int .i64 n] w (LawPost w) := by
  obtain ⟨m0, k, hkl, hkk, hmin, hmax⟩ := clamp cut b.length
  clear hkk
  obtain ⟨hcut, hCk⟩ := cutB_to A c b k k rfl hc hkl
  have HC := Aside0.mk hC
  have hlk : (b.take k).length ≤ c := by rw [List.length_take]; omega
  clear hC hCk
  generalize b.take k = l at hcut hlk
  have HF := Aside0.mk (fun w' => fAppend_long A c l.length A' c' m w' hs' (by omega))
  have HR := Aside0.mk (fun w' => rAppend_long A c l.length A' c' m w' hs' (by omega))
  have hcv := fun (W : World) (h : CB W A b) => Kd.C_string (P := Try.prog) (A := A) (c := c) Try.underlying22 Try.underlying5 Try.underlying9 h
  have hcv0 := hcv w HC.out
  have HV := Aside0.mk hcv
  clear hcv
  have hE : ∀ w' : World, Calls Try.prog 23 #[.slice none 0 0, .slice none 0 0] w' fun e w'' => e = .returned (.bool true) ∧ Drawn0 w' w'' := fun w' => PFrameAppend.bitemporallaw10_equal.calls none 0 [] none 0 [] true w' (Kd.C_nil _ _) (by simp) (Kd.C_nil _ _) (by simp) (by simp [PFrameAppend.bitemporallaw10_equal.f])
  have HE := Aside0.mk hE
  clear hE
  go_enter Try.func4, Try.ntmps4
  go_wp2_with fail
  with_reducible refine (HF.out w).mono ?_
  rintro e w1 ⟨rfl, n1, hn1⟩
  have HW1 := Aside0.mk (show Below w.heap.size w w1 by rw [hn1]; exact pw_below_drewN (Below.refl _ _) _)
  clear HF hcv0 hn1
  go_wp2_with fail
  with_reducible refine (HR.out _).mono ?_
  rintro e w2 ⟨rfl, n2, hn2⟩
  have HW2 := Aside0.mk (show Below w.heap.size w w2 by rw [hn2]; exact pw_below_drewN HW1.out _)
  clear HR hn2
  go_wp2_with fail
  with_reducible refine (HE.out _).mono ?_
  rintro e w3 ⟨rfl, n3, rfl⟩
  have hcv1 := HV.out (w2.drewN n3) (Kd.C_drewN (Kd.C_below HC.out HW2.out) n3)
  have hqs : ((strOfNums b).toList == (strOfNums b).toList) = true := by simp
  have hqn : (lenL n == lenL n) = true := by simp
  have HL := Aside0.mk (len_calls n)
  have HL' := Aside0.mk (rlen_calls n)
  generalize lenL n = ln at HL HL' hqn
  go_wp2_with fail
  with_reducible refine (HL.out _).mono ?_
  rintro e w4 ⟨rfl, n4, rfl⟩
  go_wp2_with fail
  with_reducible refine (HL'.out _).mono ?_
  rintro e w5 ⟨rfl, n5, rfl⟩
  go_wp2_with fail
  with_reducible refine (works_calls _).mono ?_
  rintro e w' ⟨rfl, hw⟩
  go_wp2
  go_ret
  exact ⟨rfl, below_then (pw_below_drewN HW2.out (n3 + n4 + n5)) HW2.out.size hw⟩
theorem law_append_all (A : Option Addr) (c : Nat) (b : List Int) (A' : Option Addr) (c' : Nat) (body : List Int) (cut n : Int) (w : World) (hC : CB w A b) (hc : b.length ≤ c) (hC' : CB w A' body) (hc' : body.length ≤ c') (hb' : Byt body)
    (hs : b.length ≤ 140737488351232) (hs' : body.length ≤ 140737488351232) :
    Calls Try.prog 4 #[.slice A b.length c, .slice A' body.length c', .int .i64 cut, .int .i64 n] w (LawPost w) := by
  by_cases h : body.length ≤ 1048576
  · exact law_append_far A c b A' c' body cut n w hC hc hC' hc' hb' hs h
  · exact law_append_long A c b A' c' body.length cut n w hC hc (by omega) hs'
end Go.Proofs.Ytfaniohoplbdoaa.My
