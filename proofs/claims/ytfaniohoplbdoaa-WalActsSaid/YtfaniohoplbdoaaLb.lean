/- Files by name, as the reference's list has them and as a map has them. -/
import Derived.Test.YtfaniohoplbdoaaPDiskActsx0
import Derived.Maps.Own
import Derived.Maps.OwnOps
import Derived.Maps.OwnSet
import Derived.Maps.Ext
import Derived.Sort.KeysCollected
import Derived.Lib.Strings
import Derived.Test.YtfaniohoplbdoaaLa
namespace Go.Proofs.Ytfaniohoplbdoaa.My
open Go Go.RowKit Go.Proofs.YtfaniohoplbdoaaW.PrintWords Go.Proofs.YtfaniohoplbdoaaW.PrintLast Go.Proofs.YtfaniohoplbdoaaW.PrintMore Go.Proofs.Ytfaniohoplbdoaa.PDiskActs
set_option linter.unusedVariables false
set_option linter.unusedSimpArgs false

/-! ### lists of files -/
def findL (l : List S109) (nm : ByteArray) : Option (List Int) := (l.find? fun f => f.f0.toList == nm.toList).map S109.f1
def withoutL (l : List S109) (nm : ByteArray) : List S109 := l.filter fun f => f.f0.toList != nm.toList
def insL (f : S109) : List S109 → List S109
  | [] => [f]
  | x :: r => if Op.bytesLess f.f0.toList x.f0.toList then f :: x :: r else x :: insL f r
def withL (l : List S109) (f : S109) : List S109 := insL f (withoutL l f.f0)
def carryL (l : List S109) (o : S123) : List S109 :=
  if o.f0 = 0 then withL l ⟨o.f1, (findL l o.f1).getD [] ++ o.f3⟩
  else if o.f0 = 1 then withoutL l o.f1
  else match findL l o.f1 with
    | none => l
    | some b => if o.f1.toList == o.f2.toList then l else withL (withoutL l o.f1) ⟨o.f2, b⟩
def viewL (l : List S109) (ops : List S123) : List S109 := ops.foldl carryL l
theorem insL_length (f : S109) : ∀ l, (insL f l).length = l.length + 1
  | [] => rfl
  | x :: r => by
    unfold insL
    split
    · simp
    · simp [insL_length f r]
theorem withoutL_length (l : List S109) (nm : ByteArray) : (withoutL l nm).length ≤ l.length := List.length_filter_le _ _
theorem withL_length (l : List S109) (f : S109) : (withL l f).length ≤ l.length + 1 := by
  unfold withL
  rw [insL_length]
  have := withoutL_length l f.f0
  omega
theorem carryL_length (l : List S109) (o : S123) : (carryL l o).length ≤ l.length + 1 := by
  unfold carryL
  split
  · exact withL_length _ _
  · split
    · have := withoutL_length l o.f1
      omega
    · split
      · omega
      · split
        · omega
        · have := withL_length (withoutL l o.f1) ⟨o.f2, by assumption⟩
          have := withoutL_length l o.f1
          omega
theorem viewL_length (ops : List S123) : ∀ l : List S109, (viewL l ops).length ≤ l.length + ops.length := by
  induction ops with
  | nil => intro l; simp [viewL]
  | cons o r ih =>
    intro l
    have h := ih (carryL l o)
    have := carryL_length l o
    simp only [viewL, List.foldl_cons, List.length_cons] at h ⊢
    omega
/-- The bytes of a list of files, and of operations. -/
def byF (l : List S109) : Nat := (l.map fun f => f.f1.length).sum
def byO (l : List S123) : Nat := (l.map fun f => f.f3.length).sum
theorem byF_insL (f : S109) : ∀ l, byF (insL f l) = f.f1.length + byF l
  | [] => by simp [insL, byF]
  | x :: r => by
    unfold insL
    split
    · simp [byF]
    · have := byF_insL f r
      simp only [byF, List.map_cons, List.sum_cons] at this ⊢
      omega
theorem byF_find (nm : ByteArray) : ∀ l : List S109, ((findL l nm).getD []).length + byF (withoutL l nm) ≤ byF l
  | [] => by simp [findL, withoutL, byF]
  | x :: r => by
    have h := byF_find nm r
    by_cases he : x.f0.toList = nm.toList
    · have h1 : findL (x :: r) nm = some x.f1 := by simp [findL, he]
      have h2 : withoutL (x :: r) nm = withoutL r nm := by simp [withoutL, he]
      rw [h1, h2]
      simp only [byF, List.map_cons, List.sum_cons, Option.getD_some] at h ⊢
      omega
    · have h1 : findL (x :: r) nm = findL r nm := by simp [findL, he]
      have h2 : withoutL (x :: r) nm = x :: withoutL r nm := by simp [withoutL, he]
      rw [h1, h2]
      simp only [byF, List.map_cons, List.sum_cons] at h ⊢
      omega
theorem byF_without (nm : ByteArray) (l : List S109) : byF (withoutL l nm) ≤ byF l := by
  have := byF_find nm l
  omega
theorem byF_carryL (l : List S109) (o : S123) : byF (carryL l o) ≤ byF l + o.f3.length := by
  unfold carryL
  split
  · unfold withL
    rw [byF_insL]
    have := byF_find o.f1 l
    simp only [List.length_append]
    omega
  · split
    · have := byF_without o.f1 l
      omega
    · split
      · omega
      · rename_i b hb
        split
        · omega
        · unfold withL
          rw [byF_insL]
          have h1 := byF_find o.f1 l
          have h2 := byF_without o.f2 (withoutL l o.f1)
          rw [hb] at h1
          simp only [Option.getD_some] at h1
          show b.length + byF (withoutL (withoutL l o.f1) o.f2) ≤ _
          omega
theorem byF_viewL (ops : List S123) : ∀ l : List S109, byF (viewL l ops) ≤ byF l + byO ops := by
  induction ops with
  | nil => intro l; simp [viewL, byO]
  | cons o r ih =>
    intro l
    have h := ih (carryL l o)
    have := byF_carryL l o
    simp only [viewL, List.foldl_cons, byO, List.map_cons, List.sum_cons] at h ⊢
    omega
theorem byF_le {l : List S109} {f : S109} (h : f ∈ l) : f.f1.length ≤ byF l := by
  obtain ⟨s, t, rfl⟩ := List.append_of_mem h
  simp [byF]
  omega
theorem byO_le {l : List S123} {f : S123} (h : f ∈ l) : f.f3.length ≤ byO l := by
  obtain ⟨s, t, rfl⟩ := List.append_of_mem h
  simp [byO]
  omega
theorem findL_mem {l : List S109} {nm : ByteArray} {b : List Int} (h : findL l nm = some b) : ∃ f ∈ l, f.f1 = b ∧ f.f0.toList = nm.toList := by
  unfold findL at h
  obtain ⟨f, hf, rfl⟩ := Option.map_eq_some_iff.1 h
  exact ⟨f, List.mem_of_find?_eq_some hf, rfl, by simpa using List.find?_some hf⟩
theorem findL_le {l : List S109} {nm : ByteArray} : ((findL l nm).getD []).length ≤ byF l := by
  have := byF_find nm l
  omega

/-! ### the same as a map -/
def All2 {α β : Type} (R : α → β → Prop) : List α → List β → Prop
  | [], [] => True
  | a :: x, b :: y => R a b ∧ All2 R x y
  | _, _ => False
theorem All2.imp {α β : Type} {R S : α → β → Prop} (h : ∀ a b, R a b → S a b) : ∀ {x : List α} {y : List β}, All2 R x y → All2 S x y
  | [], [], _ => trivial
  | a :: x, b :: y, hh => ⟨h _ _ hh.1, All2.imp h hh.2⟩
theorem All2.length {α β : Type} {R : α → β → Prop} : ∀ {x : List α} {y : List β}, All2 R x y → x.length = y.length
  | [], [], _ => rfl
  | a :: x, b :: y, hh => by simp [All2.length hh.2]
/-- What a map's entry has to do with a file. -/
def EntryOf (Rv : Value → List Int → Prop) (e : Lit × DataW Value) (f : S109) : Prop := e.1 = .string f.f0.data.toList ∧ ∃ v, e.2 = .held v ∧ Rv v f.f1
theorem before_less : ∀ a b : List UInt8, bytesBefore a b = Op.bytesLess a b
  | [], [] => rfl
  | [], _ :: _ => rfl
  | _ :: _, [] => rfl
  | a :: r, b :: s => by simp only [bytesBefore, Op.bytesLess, before_less r s]
theorem All2.insert {Rv : Value → List Int → Prop} {e : Lit × DataW Value} {f : S109} (he : EntryOf Rv e f) : ∀ {es : List (Lit × DataW Value)} {l : List S109}, All2 (EntryOf Rv) es l → All2 (EntryOf Rv) (DataW.insert e es) (insL f l)
  | [], [], _ => ⟨he, trivial⟩
  | y :: r, g :: l, h => by
    obtain ⟨h1, h2⟩ := h
    have hb : e.1.before y.1 = Op.bytesLess f.f0.toList g.f0.toList := by
      rw [he.1, h1.1, ByteArray.toList_eq, ByteArray.toList_eq]
      exact before_less _ _
    unfold DataW.insert insL
    rw [hb]
    split
    · exact ⟨he, h1, h2⟩
    · exact ⟨h1, All2.insert he h2⟩
theorem same_toList (a b : ByteArray) : (Lit.string a.data.toList).sameKey (.string b.data.toList) = (a.toList == b.toList) := by
  rw [ByteArray.toList_eq, ByteArray.toList_eq]
  rfl
theorem All2.without {Rv : Value → List Int → Prop} (nm : ByteArray) : ∀ {es : List (Lit × DataW Value)} {l : List S109}, All2 (EntryOf Rv) es l → All2 (EntryOf Rv) (es.filter fun p => !p.1.sameKey (.string nm.data.toList)) (withoutL l nm)
  | [], [], _ => trivial
  | y :: r, g :: l, h => by
    obtain ⟨h1, h2⟩ := h
    have hr := All2.without nm h2
    have hb : y.1.sameKey (.string nm.data.toList) = (g.f0.toList == nm.toList) := by rw [h1.1]; exact same_toList _ _
    unfold withoutL at hr ⊢
    rw [List.filter_cons, List.filter_cons, hb]
    cases hq : (g.f0.toList == nm.toList)
    · simp only [Bool.not_false, if_true, show (g.f0.toList != nm.toList) = true from by simp [bne, hq]]
      exact ⟨h1, hr⟩
    · simp only [Bool.not_true, Bool.false_eq_true, if_false, show (g.f0.toList != nm.toList) = false from by simp [bne, hq]]
      exact hr
theorem All2.find {Rv : Value → List Int → Prop} (nm : ByteArray) : ∀ {es : List (Lit × DataW Value)} {l : List S109}, All2 (EntryOf Rv) es l →
    (findL l nm = none ∧ es.find? (fun p => p.1.sameKey (.string nm.data.toList)) = none) ∨ ∃ p v b, findL l nm = some b ∧ es.find? (fun p => p.1.sameKey (.string nm.data.toList)) = some p ∧ p.2 = .held v ∧ Rv v b
  | [], [], _ => .inl ⟨rfl, rfl⟩
  | y :: r, g :: l, h => by
    obtain ⟨h1, h2⟩ := h
    have hr := All2.find nm h2
    have hb : y.1.sameKey (.string nm.data.toList) = (g.f0.toList == nm.toList) := by rw [h1.1]; exact same_toList _ _
    unfold findL at hr ⊢
    rw [List.find?_cons, List.find?_cons, hb]
    cases hq : (g.f0.toList == nm.toList)
    · exact hr
    · obtain ⟨v, hv, hR⟩ := h1.2
      exact .inr ⟨y, v, g.f1, rfl, rfl, hv, hR⟩
/-- A map that reads as a list of files. -/
def Mir (Rv : Value → List Int → Prop) (D : DataW Value) (l : List S109) : Prop := ∃ es, D = .map es ∧ All2 (EntryOf Rv) es l
theorem Mir.imp {Rv Rv' : Value → List Int → Prop} {D : DataW Value} {l : List S109} (h : Mir Rv D l) (hi : ∀ v b, Rv v b → Rv' v b) : Mir Rv' D l := by
  obtain ⟨es, rfl, ha⟩ := h
  exact ⟨es, rfl, ha.imp fun a b hab => ⟨hab.1, hab.2.imp fun v hv => ⟨hv.1, hi _ _ hv.2⟩⟩⟩
theorem Mir.nil (Rv : Value → List Int → Prop) : Mir Rv (.map []) [] := ⟨[], rfl, trivial⟩
theorem Mir.put {Rv : Value → List Int → Prop} {D : DataW Value} {l : List S109} (h : Mir Rv D l) (f : S109) {v : Value} (hv : Rv v f.f1) : Mir Rv (D.put (.string f.f0.data.toList) (.held v)) (withL l f) := by
  obtain ⟨es, rfl, ha⟩ := h
  exact ⟨_, rfl, All2.insert ⟨rfl, v, rfl, hv⟩ (All2.without f.f0 ha)⟩
theorem Mir.del {Rv : Value → List Int → Prop} {D : DataW Value} {l : List S109} (h : Mir Rv D l) (nm : ByteArray) : Mir Rv (D.del (.string nm.data.toList)) (withoutL l nm) := by
  obtain ⟨es, rfl, ha⟩ := h
  exact ⟨_, rfl, All2.without nm ha⟩
theorem Mir.look {Rv : Value → List Int → Prop} {D : DataW Value} {l : List S109} (h : Mir Rv D l) (nm : ByteArray) (z : DataW Value) :
    (findL l nm = none ∧ Maps.has D (.string nm.data.toList) = false ∧ D.atKey (.string nm.data.toList) z = z) ∨
    ∃ v b, findL l nm = some b ∧ Maps.has D (.string nm.data.toList) = true ∧ D.atKey (.string nm.data.toList) z = .held v ∧ Rv v b := by
  obtain ⟨es, rfl, ha⟩ := h
  rcases All2.find nm ha with ⟨h1, h2⟩ | ⟨p, v, b, h1, h2, h3, h4⟩
  · refine .inl ⟨h1, ?_, ?_⟩
    · rw [Maps.has_eq]
      exact List.any_eq_false.2 (fun x hx => by simpa using List.find?_eq_none.1 h2 x hx)
    · unfold DataW.atKey
      simp only [h2]
  · refine .inr ⟨v, b, h1, ?_, ?_, h4⟩
    · rw [Maps.has_eq]
      exact List.any_eq_true.2 ⟨p, List.mem_of_find?_eq_some h2, by have := List.find?_some h2; exact this⟩
    · unfold DataW.atKey
      simp only [h2, h3]
theorem Mir.size {Rv : Value → List Int → Prop} {D : DataW Value} {l : List S109} (h : Mir Rv D l) : Maps.size D = l.length := by
  obtain ⟨es, rfl, ha⟩ := h
  exact ha.length
theorem Mir.keys {Rv : Value → List Int → Prop} {D : DataW Value} {l : List S109} (h : Mir Rv D l) : strKeys D = l.map fun f => f.f0.data.toList := by
  obtain ⟨es, rfl, ha⟩ := h
  show es.map (fun p => strOf p.1) = _
  have : ∀ {es : List (Lit × DataW Value)} {l : List S109}, All2 (EntryOf Rv) es l → es.map (fun p => strOf p.1) = l.map fun f => f.f0.data.toList := by
    intro es
    induction es with
    | nil => intro l h; cases l with | nil => rfl | cons => exact h.elim
    | cons e es ih =>
      intro l h
      cases l with
      | nil => exact h.elim
      | cons f l =>
        rw [List.map_cons, List.map_cons, ih h.2, h.1.1]
        rfl
  exact this ha
end Go.Proofs.Ytfaniohoplbdoaa.My
/- The reference's find, without and with. -/
namespace Go.Proofs.Ytfaniohoplbdoaa.My
open Go Go.RowKit Go.Proofs.YtfaniohoplbdoaaW.PrintWords Go.Proofs.YtfaniohoplbdoaaW.PrintLast Go.Proofs.YtfaniohoplbdoaaW.PrintMore Go.Proofs.Ytfaniohoplbdoaa.PDiskActs
set_option linter.unusedVariables false
set_option linter.unusedSimpArgs false
theorem alloc_size (W : World) (o : Obj) : (W.alloc o).heap.size = W.heap.size + 1 := by simp [World.alloc_eq]
theorem RB_lit0 {W : World} {g : Nat} (hg : g = W.heap.size) {base : Nat} (hb : base ≤ W.heap.size) : RB (W.alloc (.cells #[] 5)) base (.slice (some ⟨g, 0, none⟩) 0 0) [] := by
  subst hg
  exact Kd.R_lower (RB_new W) hb
/-- A list of files that is read, with its footprint. -/
abbrev VF (w : World) (ok : Nat → Prop) (v : Value) (l : List S109) : Prop := Kd.V k109 109 w 0 ok v l
abbrev VB (w : World) (ok : Nat → Prop) (v : Value) (l : List Int) : Prop := Kd.V (Kd.int .u8) 5 w 0 ok v l
abbrev CF (w : World) (A : Option Addr) (l : List S109) : Prop := Kd.C k109 w A l.length l
theorem CF.at_ {w : World} {A : Option Addr} {l : List S109} (h : CF w A l) (j : Nat) (hj : j < l.length) :
    ∃ ad A' c', A = some ad ∧ w.cell? (ad.add (j * 2)) = some (.string l[j].f0) ∧ w.cell? ⟨(ad.add (j * 2)).block, (ad.add (j * 2)).off + 1, none⟩ = some (.slice A' l[j].f1.length c') ∧ l[j].f1.length ≤ c' ∧ CB w A' l[j].f1 := by
  have e : rd_T109 l (j : Int) = l[j] := by simp [rd_T109, List.getD_eq_getElem?_getD, hj]
  have := at_T109 h (j : Int) (by omega) (by omega)
  rw [e, Int.toNat_natCast] at this
  exact this
set_option maxHeartbeats 1000000 in
set_option maxRecDepth 100000 in
theorem find_calls (A : Option Addr) (c : Nat) (l : List S109) (nm : ByteArray) (w : World) (hC : CF w A l) (hs : ∀ f ∈ l, f.f1.length ≤ 140737488351232) :
    Calls Try.prog 89 #[.slice A l.length c, .string nm] w fun e w' => (∃ v, e = .returned (.tuple #[v, .bool (findL l nm).isSome]) ∧ RB w' w.heap.size v ((findL l nm).getD [])) ∧ Below w.heap.size w w' := by
  have hm := Kd.C_max hC
  have HC := Aside0.mk hC
  have HS := Aside0.mk hs
  clear hC hs
  have hu109 := Try.underlying109
  go_enter Try.func89, Try.ntmps89
  go_wp2
  go_loopw [10] (fun i wr => ∃ k : Nat, k ≤ l.length ∧ i = .int .i64 k ∧ Aside0 (findL l nm = findL (l.drop k) nm) ∧ Aside0 (Below w.heap.size w wr)) (fun i _ => l.length - (intOf i).toNat)
  case atStart => exact ⟨0, by omega, rfl, ⟨by simp⟩, ⟨Below.refl _ _⟩⟩
  case round =>
    obtain ⟨k, hk, rfl, HF, HW⟩ := hrel
    by_cases hlt : k < l.length
    · obtain ⟨ad, B, d, rfl, hc0, hc1, hd, hCB⟩ := CF.at_ (Kd.C_below HC.out HW.out) k hlt
      have HCB := Aside0.mk hCB
      have hst := HF.out
      rw [List.drop_eq_getElem_cons hlt] at hst
      have hsz := HS.out l[k] (List.getElem_mem hlt)
      obtain ⟨f, hf⟩ : ∃ f, f = l[k] := ⟨_, rfl⟩
      rw [← hf] at hc0 hc1 hd HCB hst hsz
      clear hf hCB
      by_cases hq : (f.f0.toList == nm.toList) = true
      · have hst2 : findL l nm = some f.f1 := by rw [hst]; simp [findL, hq]
        have HST := Aside0.mk hst2
        clear hst hst2
        go_wp2_with (first | ((with_reducible refine gate_dst (N := 21) rfl ?_); refine app_bts (w0 := w) w.heap.size rfl (.tmp 18) (.tmp 20) rfl _ [] f.f1 B d rfl rfl ?ho (Kd.C_alloc (Kd.C_alloc HCB.out _) _) (below_alloc (below_alloc HW.out _) _) ?hbase (by simp; omega) ?_; (case ho => exact RB_lit0 (alloc_size _ _).symm (below_alloc HW.out _).size); (case hbase => exact (below_alloc (below_alloc HW.out _) _).size); intro z v w2 EZ HR HW2) | fail)
        go_ret2
        refine ⟨⟨v, by rw [HST.out]; rfl, ?_⟩, HW2.out⟩
        rw [HST.out]
        have := HR.out
        rw [EZ.out] at this
        exact this
      · have hst2 : findL l nm = findL (l.drop (k + 1)) nm := by rw [hst]; simp [findL, hq]
        have hqf : (f.f0.toList == nm.toList) = false := by simpa using hq
        have HST := Aside0.mk hst2
        clear hst hst2 hq
        go_wp2
        go_roundw
        case rel => exact ⟨k + 1, by omega, by go_num, HST, ⟨below_alloc HW.out _⟩⟩
        case measure => simp [intOf]; omega
    · obtain rfl : k = l.length := by omega
      have hst : findL l nm = none := by rw [HF.out]; simp [findL]
      have HST := Aside0.mk hst
      clear hst
      go_wp2
      go_ret2
      refine ⟨⟨.slice none 0 0, by rw [HST.out]; rfl, ?_⟩, HW.out⟩
      rw [HST.out]
      exact Kd.R_nil _ _ _ _ _
end Go.Proofs.Ytfaniohoplbdoaa.My
/- The reference's without and with. -/
namespace Go.Proofs.Ytfaniohoplbdoaa.My
open Go Go.RowKit Go.Proofs.YtfaniohoplbdoaaW.PrintWords Go.Proofs.YtfaniohoplbdoaaW.PrintLast Go.Proofs.YtfaniohoplbdoaaW.PrintMore Go.Proofs.Ytfaniohoplbdoaa.PDiskActs
set_option linter.unusedVariables false
set_option linter.unusedSimpArgs false
theorem VF.at_ {w : World} {ok : Nat → Prop} {A : Option Addr} {n c : Nat} {l : List S109} (h : VF w ok (.slice A n c) l) (j : Nat) (hj : j < l.length) :
    ∃ ad A' c', A = some ad ∧ w.cell? (ad.add (j * 2)) = some (.string l[j].f0) ∧ w.cell? ⟨(ad.add (j * 2)).block, (ad.add (j * 2)).off + 1, none⟩ = some (.slice A' l[j].f1.length c') ∧ l[j].f1.length ≤ c' ∧ Kd.F (Kd.int .u8) w ok A' l[j].f1.length l[j].f1 := by
  obtain ⟨rfl, hc, hF⟩ := Kd.V_at h
  obtain ⟨ad, A', c', rfl, h0, h1, hl, hC⟩ := CF.at_ (Kd.F_now hF) j hj
  obtain ⟨cs, hlen, hFK, hcell⟩ := Kd.V_get h z109 (j : Int) (by omega) (by omega)
  have e : l.getD (j : Int).toNat z109 = l[j] := by simp [List.getD_eq_getElem?_getD, hj]
  rw [e] at hFK
  obtain ⟨A1, c1, rfl, hl1, hF1⟩ := k109_openF hFK
  have h1' := hcell 1 _ rfl
  rw [Int.toNat_natCast] at h1'
  have e2 : (ad.add (j * Kd.sz k109 + 1)) = ⟨(ad.add (j * 2)).block, (ad.add (j * 2)).off + 1, none⟩ := by rw [← add_field _ _ 1 (by omega)]; rfl
  rw [e2, h1] at h1'
  injection h1' with h1'
  injection h1' with ea _ ec
  subst ea
  exact ⟨ad, _, c', rfl, h0, h1, hl, hF1⟩
theorem cell_of_below {w wr : World} (hB : Below w.heap.size w wr) {a : Addr} {v : Value} (h : w.cell? a = some v) : wr.cell? a = some v := by
  have hlt : a.block < w.heap.size := by
    rcases Nat.lt_or_ge a.block w.heap.size with hh | hh
    · exact hh
    · simp [World.cell?, Array.getElem?_eq_none hh] at h
  unfold World.cell? at h ⊢
  rw [hB.block _ hlt]
  exact h
theorem VF.elem {w wr : World} {ok : Nat → Prop} {A : Option Addr} {n c : Nat} {l : List S109} (h : VF w ok (.slice A n c) l) (hB : Below w.heap.size w wr) (j : Nat) (hj : j < l.length) :
    ∃ ad A' c', A = some ad ∧ wr.cell? (ad.add (j * 2)) = some (.string l[j].f0) ∧ wr.cell? ⟨(ad.add (j * 2)).block, (ad.add (j * 2)).off + 1, none⟩ = some (.slice A' l[j].f1.length c') ∧ l[j].f1.length ≤ c' ∧ Kd.F (Kd.int .u8) w (fun k => ok k ∧ k < w.heap.size) A' l[j].f1.length l[j].f1 := by
  obtain ⟨ad, A', c', h1, h2, h3, h4, h5⟩ := VF.at_ h j hj
  exact ⟨ad, A', c', h1, cell_of_below hB h2, cell_of_below hB h3, h4, Kd.F_bound h5⟩
theorem VF.reads {w : World} {ok : Nat → Prop} {A : Option Addr} {n c : Nat} {l : List S109} (h : VF w ok (.slice A n c) l) : n = l.length ∧ l.length ≤ c ∧ CF w A l := by
  obtain ⟨h1, h2, h3⟩ := Kd.V_reads' h
  exact ⟨h1, by omega, h3⟩
abbrev NF (w : World) (base : Nat) (ok : Nat → Prop) (v : Value) (l : List S109) : Prop := Kd.N k109 109 w base ok v l
theorem app_file {ops : Array Oper} {rest : List Oper} {o : Oper} {a : Act} {Q : Exit → Act → World → Prop} {w0 W : World} (base : Nat) (hgd : o.guard = none) (s x : Operand)
    (ho : o.op = .call { callee := .builtin .append, args := #[s, x], argTypes := #[42, 42] }) (v : Value) (xs : List S109) (p : S109) (A : Option Addr) (c : Nat) (ok okp : Nat → Prop) {g : Nat} (hs : a.eval s = v) (hx : a.eval x = .slice (some ⟨g, 0, none⟩) 1 1) (hgw : g = W.heap.size)
    (hl1 : p.f1.length ≤ c) (hp : Kd.F (Kd.int .u8) W okp A p.f1.length p.f1) (hokp : ∀ k, okp k → ok k ∧ k < base) (hfresh : ∀ k, W.heap.size ≤ k → ok k)
    (HO : NF W base ok v xs) (HB : Below base w0 W) (hbase : base ≤ W.heap.size) (hl : xs.length + 1 ≤ 3518437208883)
    (h : ∀ (ys : List S109) v1 w1, Aside0 (ys = xs ++ [p]) → Aside0 (NF w1 base ok v1 ys) → Aside0 (Below base w0 w1) → Aside0 (∀ k, k < W.heap.size → some k ≠ v.ownBlock → w1.heap[k]? = W.heap[k]?) → wpList Try.prog ops Q rest (a.put o.dst v1) w1) : wpList Try.prog ops Q (o :: rest) a (W.alloc (.cells #[.string p.f0, .slice A p.f1.length c] 109)) :=
  Kd.N_append k109 base hgd s x 42 109 (.agg #[(.string ⟨#[]⟩), (.slice none 0 0)]) 40 ho Try.underlying42 info109 rfl (by decide) (by decide) v xs p [.string p.f0, .slice A p.f1.length c] ok okp hs (hgw ▸ hx) (k109_mkF W okp p hl1 hp)
    (fun k hk => ⟨(hokp k hk).1, fun he => by have := Kd.N_base HO k he.symm; have := (hokp k hk).2; omega⟩) hfresh HO HB hbase (by omega)
    (fun v1 w1 h1 h2 h3 _ => h _ v1 w1 ⟨rfl⟩ ⟨h1⟩ ⟨h2⟩ ⟨fun k hk hne => h3.block k hk hne⟩)
theorem VF.entry {w wr : World} {ok : Nat → Prop} {A : Option Addr} {n c : Nat} {l : List S109} (h : VF w ok (.slice A n c) l) (hB : Below w.heap.size w wr) : VF wr (fun k => ok k ∧ k < w.heap.size) (.slice A n c) l := Kd.V_old h hB
set_option maxHeartbeats 1000000 in
set_option maxRecDepth 100000 in
theorem without_calls (ok : Nat → Prop) (A : Option Addr) (c : Nat) (l : List S109) (nm : ByteArray) (w : World) (hok : ∀ k, w.heap.size ≤ k → ok k) (hV : VF w ok (.slice A l.length c) l) (hl : l.length ≤ 3518437208880) :
    Calls Try.prog 90 #[.slice A l.length c, .string nm] w fun e w' => (∃ v, e = .returned v ∧ VF w' ok v (withoutL l nm)) ∧ Below w.heap.size w w' := by
  have HV := Aside0.mk hV
  have HOK := Aside0.mk hok
  clear hV hok
  have hu109 := Try.underlying109
  go_enter Try.func90, Try.ntmps90
  go_wp2
  go_loopw [5, 10] (fun v i wr => ∃ k : Nat, k ≤ l.length ∧ i = .int .i64 k ∧ Aside0 (NF wr w.heap.size ok v (withoutL (l.take k) nm)) ∧ Aside0 (Below w.heap.size w wr)) (fun _ i _ => l.length - (intOf i).toNat)
  case atStart => exact ⟨0, by omega, rfl, ⟨Kd.N_nil _ _ _ _ _⟩, ⟨Below.refl _ _⟩⟩
  case round =>
    obtain ⟨k, hk, rfl, HN, HW⟩ := hrel
    by_cases hlt : k < l.length
    · obtain ⟨ad, B, d, rfl, hc0, hc1, hd, hF⟩ := VF.at_ (VF.entry HV.out HW.out) k hlt
      have HF := Aside0.mk hF
      have hst : withoutL (l.take (k + 1)) nm = withoutL (l.take k) nm ++ withoutL [l[k]] nm := by
        unfold withoutL
        rw [List.take_succ_eq_append_getElem hlt, List.filter_append]
      have hlen := withoutL_length (l.take k) nm
      rw [List.length_take] at hlen
      obtain ⟨f, hf⟩ : ∃ f, f = l[k] := ⟨_, rfl⟩
      rw [← hf] at hc0 hc1 hd HF hst
      clear hf hF
      by_cases hq : (f.f0.toList == nm.toList) = true
      · have hqn : (f.f0.toList != nm.toList) = false := by simp [bne, hq]
        have HST := Aside0.mk (show withoutL (l.take (k + 1)) nm = withoutL (l.take k) nm by rw [hst]; simp [withoutL, hqn])
        clear hst
        go_wp2
        go_roundw
        case rel => exact ⟨k + 1, by omega, by go_num, ⟨by rw [HST.out]; exact Kd.N_alloc HN.out _⟩, ⟨below_alloc HW.out _⟩⟩
        case measure => simp [intOf]; omega
      · have hqf : (f.f0.toList == nm.toList) = false := by simpa using hq
        have hqn : (f.f0.toList != nm.toList) = true := by simp [bne, hqf]
        have HST := Aside0.mk (show withoutL (l.take (k + 1)) nm = withoutL (l.take k) nm ++ [f] by rw [hst]; simp [withoutL, hqn])
        clear hst hq
        go_wp2_with (first | ((with_reducible refine gate_dst (N := 21) rfl ?_); refine app_file (w0 := w) w.heap.size rfl (.tmp 18) (.tmp 20) rfl _ (withoutL (l.take k) nm) f B d ok _ rfl rfl (alloc_size _ _).symm hd (Kd.F_alloc HF.out _) (fun _ hk => hk) ?hfr (Kd.N_alloc HN.out _) (below_alloc HW.out _) (below_alloc HW.out _).size (by omega) ?_; (case hfr => exact fun k hk => HOK.out k (Nat.le_trans (below_alloc HW.out _).size hk)); intro z v2 w2 EZ HN2 HW2 HG2) | fail)
        go_roundw
        case rel => exact ⟨k + 1, by omega, by go_num, ⟨by rw [HST.out, ← EZ.out]; exact HN2.out⟩, HW2⟩
        case measure => simp [intOf]; omega
    · obtain rfl : k = l.length := by omega
      rw [List.take_length] at HN
      go_wp2
      go_ret
      exact ⟨⟨_, rfl, Kd.N_V HN.out⟩, HW.out⟩
/-- What comes out of with, some of the files still to come. -/
def finL (f : S109) (rest out : List S109) (put : Bool) : List S109 := if put then out ++ rest else out ++ insL f rest
theorem finL_less {f x : S109} {r out : List S109} (h : Op.bytesLess f.f0.toList x.f0.toList = true) : finL f (x :: r) out false = finL f r (out ++ [f] ++ [x]) true := by simp [finL, insL, h]
theorem finL_no {f x : S109} {r out : List S109} (h : Op.bytesLess f.f0.toList x.f0.toList = false) : finL f (x :: r) out false = finL f r (out ++ [x]) false := by simp [finL, insL, h]
theorem finL_put {f x : S109} {r out : List S109} : finL f (x :: r) out true = finL f r (out ++ [x]) true := by simp [finL]
theorem with_t {w1 : World} {ok : Nat → Prop} {v : Value} {t : List S109} (h : VF w1 ok v t) : ∃ A c, v = .slice A t.length c ∧ VF w1 ok (.slice A t.length c) t := by
  obtain ⟨A, c, rfl⟩ := Kd.V_slice h
  exact ⟨A, c, rfl, h⟩
set_option maxHeartbeats 2000000 in
set_option maxRecDepth 100000 in
theorem with_calls (ok : Nat → Prop) (A : Option Addr) (c : Nat) (l : List S109) (f : S109) (B : Option Addr) (d : Nat) (w : World) (hok : ∀ k, w.heap.size ≤ k → ok k) (hV : VF w ok (.slice A l.length c) l) (hd : f.f1.length ≤ d)
    (hF : Kd.F (Kd.int .u8) w ok B f.f1.length f.f1) (hl : l.length ≤ 3518437208800) :
    Calls Try.prog 80 #[.slice A l.length c, .agg #[.string f.f0, .slice B f.f1.length d]] w fun e w' => (∃ v, e = .returned v ∧ VF w' ok v (withL l f)) ∧ Below w.heap.size w w' := by
  have HF := Aside0.mk hF
  have HOK := Aside0.mk hok
  have hu109 := Try.underlying109
  have HWo := Aside0.mk (without_calls ok A c l f.f0 (w.alloc (.cells #[.string f.f0, .slice B f.f1.length d] 109)) (fun k hk => hok k (by rw [alloc_size] at hk; omega)) (Kd.V_alloc hV _) (by omega))
  have htl := withoutL_length l f.f0
  obtain ⟨t, ht⟩ : ∃ t, t = withoutL l f.f0 := ⟨_, rfl⟩
  rw [← ht] at HWo htl
  have HT := Aside0.mk ht
  clear hV hok hF ht
  go_enter Try.func80, Try.ntmps80
  go_wp2_with fail
  with_reducible refine HWo.out.mono ?_
  rintro e w1 ⟨⟨v1, rfl, hv1⟩, hB1⟩
  obtain ⟨A1, c1, rfl, hv1'⟩ := with_t hv1
  have HV1 := Aside0.mk hv1'
  have hbx : w1.heap[w.heap.size]? = some (.cells #[.string f.f0, .slice B f.f1.length d] 109 (0, 0)) := (hB1.block w.heap.size (by rw [alloc_size]; omega)).trans (blk_new w _)
  have HBX := Aside0.mk hbx
  have HW1 := Aside0.mk (below_then (below_alloc (Below.refl w.heap.size w) _) (by rw [alloc_size]; omega) hB1)
  have HF1 := Aside0.mk (Kd.F_below HF.out HW1.out)
  clear hv1 hv1' hB1 hbx HWo
  go_wp2
  go_loopw [5, 6, 14] (fun v p i wr => ∃ (k : Nat) (out : List S109) (put : Bool), k ≤ t.length ∧ i = .int .i64 k ∧ p = .bool put ∧ out.length ≤ k + put.toNat ∧ Aside0 (finL f (t.drop k) out put = insL f t) ∧ Aside0 (NF wr w1.heap.size ok v out) ∧ Aside0 (Below w1.heap.size w1 wr)) (fun _ _ i _ => t.length - (intOf i).toNat)
  case atStart => exact ⟨0, [], false, by omega, rfl, rfl, by simp, ⟨by simp [finL]⟩, ⟨Kd.N_nil _ _ _ _ _⟩, ⟨Below.refl _ _⟩⟩
  case round =>
    obtain ⟨k, out, put, hk, rfl, rfl, hol, HI, HN, HW⟩ := hrel
    have hbr : wr.heap[w.heap.size]? = some (.cells #[.string f.f0, .slice B f.f1.length d] 109 (0, 0)) := (HW.out.block _ (blk_lt HBX.out)).trans HBX.out
    have HBR := Aside0.mk hbr
    have hz0 : wr.cell? ⟨w.heap.size, 0, none⟩ = some (.string f.f0) := (blk_cell hbr 0).trans rfl
    have hz1 : wr.cell? ⟨w.heap.size, 1, none⟩ = some (.slice B f.f1.length d) := (blk_cell hbr 1).trans rfl
    have hfr := blk_lt hbr
    clear hbr
    by_cases hlt : k < t.length
    · obtain ⟨ad, B', d', rfl, hc0, hc1, hd', hF'⟩ := VF.elem HV1.out HW.out k hlt
      have HX := Aside0.mk hF'
      have hi := HI.out
      rw [List.drop_eq_getElem_cons hlt] at hi
      obtain ⟨x, hx⟩ : ∃ x, x = t[k] := ⟨_, rfl⟩
      rw [← hx] at hc0 hc1 hd' HX hi
      clear hx hF'
      cases put with
      | true =>
        replace hol : out.length ≤ k + 1 := hol
        rw [finL_put] at hi
        have HI2 := Aside0.mk hi
        clear hi
        go_wp2_with (first | ((with_reducible refine gate_dst (N := 34) rfl ?_); refine app_file (w0 := w1) w1.heap.size rfl (.tmp 31) (.tmp 33) rfl _ out x B' d' ok _ rfl rfl (alloc_size _ _).symm hd' (Kd.F_alloc (Kd.F_below HX.out HW.out) _) (fun _ hk => hk) ?hfr (Kd.N_alloc HN.out _) (below_alloc HW.out _) ((below_alloc HW.out _).size) (by omega) ?_; (case hfr => exact fun k hk => HOK.out k (Nat.le_trans HW1.out.size (Nat.le_trans ((below_alloc HW.out _).size) hk))); intro z4 v4 w4 EZ4 HN4 HW4 HG4) | fail)
        go_roundw
        case rel => exact ⟨k + 1, z4, true, by omega, by go_num, rfl, by rw [EZ4.out, List.length_append]; simp only [List.length_cons, List.length_nil, Bool.toNat_true, Bool.toNat_false]; omega, ⟨by rw [EZ4.out]; exact HI2.out⟩, HN4, HW4⟩
        case measure => simp [intOf]; omega
      | false =>
        replace hol : out.length ≤ k := hol
        by_cases hlt2 : Op.bytesLess f.f0.toList x.f0.toList = true
        · rw [finL_less hlt2] at hi
          have HI2 := Aside0.mk hi
          clear hi
          go_wp2_with (first | ((with_reducible refine gate_dst (N := 30) rfl ?_); refine app_file (w0 := w1) w1.heap.size rfl (.tmp 27) (.tmp 29) rfl _ out f B d ok _ rfl rfl (alloc_size _ _).symm hd (Kd.F_alloc (Kd.F_below (Kd.F_bound HF1.out) HW.out) _) (fun _ hk => hk) ?hfr (Kd.N_alloc HN.out _) (below_alloc HW.out _) (below_alloc HW.out _).size (by omega) ?_; (case hfr => exact fun k hk => HOK.out k (Nat.le_trans HW1.out.size (Nat.le_trans (below_alloc HW.out _).size hk))); intro z2 v2 w2 EZ2 HN2 HW2 HG2; have hb2 : w2.heap[wr.heap.size]? = some (.cells #[.string x.f0, .slice B' x.f1.length d'] 109 (0, 0)) := (HG2.out wr.heap.size (by rw [alloc_size]; omega) (fun he => by have := Kd.N_lt HN.out _ he.symm; omega)).trans (blk_new wr _); have hz3 : w2.cell? ⟨wr.heap.size, 0, none⟩ = some (.string x.f0) := (blk_cell hb2 0).trans rfl; have hz4 : w2.cell? ⟨wr.heap.size, 1, none⟩ = some (.slice B' x.f1.length d') := (blk_cell hb2 1).trans rfl; clear hb2) | ((with_reducible refine gate_dst (N := 34) rfl ?_); refine app_file (w0 := w1) w1.heap.size rfl (.tmp 31) (.tmp 33) rfl _ z2 x B' d' ok _ rfl rfl rfl hd' (Kd.F_below HX.out HW2.out) (fun _ hk => hk) ?hfr (HN2.out) (HW2.out) (HW2.out.size) (by rw [EZ2.out, List.length_append]; simp; omega) ?_; (case hfr => exact fun k hk => HOK.out k (Nat.le_trans HW1.out.size (Nat.le_trans (HW2.out.size) hk))); intro z4 v4 w4 EZ4 HN4 HW4 HG4) | fail)
          go_roundw
          case rel => exact ⟨k + 1, z4, true, by omega, by go_num, rfl, by rw [EZ4.out, EZ2.out, List.length_append, List.length_append]; simp only [List.length_cons, List.length_nil, Bool.toNat_true]; omega, ⟨by rw [EZ4.out, EZ2.out]; exact HI2.out⟩, HN4, HW4⟩
          case measure => simp [intOf]; omega
        · have hlt3 : Op.bytesLess f.f0.toList x.f0.toList = false := by simpa using hlt2
          rw [finL_no hlt3] at hi
          have HI2 := Aside0.mk hi
          clear hi hlt2
          go_wp2_with (first | ((with_reducible refine gate_dst (N := 34) rfl ?_); refine app_file (w0 := w1) w1.heap.size rfl (.tmp 31) (.tmp 33) rfl _ out x B' d' ok _ rfl rfl (alloc_size _ _).symm hd' (Kd.F_alloc (Kd.F_below HX.out HW.out) _) (fun _ hk => hk) ?hfr (Kd.N_alloc HN.out _) (below_alloc HW.out _) ((below_alloc HW.out _).size) (by omega) ?_; (case hfr => exact fun k hk => HOK.out k (Nat.le_trans HW1.out.size (Nat.le_trans ((below_alloc HW.out _).size) hk))); intro z4 v4 w4 EZ4 HN4 HW4 HG4) | fail)
          go_roundw
          case rel => exact ⟨k + 1, z4, false, by omega, by go_num, rfl, by rw [EZ4.out, List.length_append]; simp only [List.length_cons, List.length_nil, Bool.toNat_true, Bool.toNat_false]; omega, ⟨by rw [EZ4.out]; exact HI2.out⟩, HN4, HW4⟩
          case measure => simp [intOf]; omega
    · obtain rfl : k = t.length := by omega
      have hi := HI.out
      rw [List.drop_length] at hi
      cases put with
      | true =>
        have HI2 := Aside0.mk (show out = withL l f by unfold withL; rw [← HT.out, ← hi]; simp [finL])
        clear hi
        go_wp2
        go_ret
        exact ⟨⟨_, rfl, by rw [← HI2.out]; exact Kd.N_V HN.out⟩, below_then HW1.out HW1.out.size HW.out⟩
      | false =>
        replace hol : out.length ≤ t.length := hol
        have HI2 := Aside0.mk (show out ++ [f] = withL l f by unfold withL; rw [← HT.out, ← hi]; simp [finL, insL])
        clear hi
        go_wp2_with (first | ((with_reducible refine gate_dst (N := 41) rfl ?_); refine app_file (w0 := w1) w1.heap.size rfl (.tmp 38) (.tmp 40) rfl _ out f B d ok _ rfl rfl rfl hd (Kd.F_below (Kd.F_bound HF1.out) HW.out) (fun _ hk => hk) ?hfr HN.out HW.out HW.out.size (by omega) ?_; (case hfr => exact fun k hk => HOK.out k (Nat.le_trans HW1.out.size (Nat.le_trans HW.out.size hk))); intro z4 v4 w4 EZ4 HN4 HW4 HG4) | fail)
        go_ret
        exact ⟨⟨_, rfl, by rw [← HI2.out, ← EZ4.out]; exact Kd.N_V HN4.out⟩, below_then HW1.out HW1.out.size HW4.out⟩
end Go.Proofs.Ytfaniohoplbdoaa.My
/- The reference's carry, View and Read. -/
namespace Go.Proofs.Ytfaniohoplbdoaa.My
open Go Go.RowKit Go.Proofs.YtfaniohoplbdoaaW.PrintWords Go.Proofs.YtfaniohoplbdoaaW.PrintLast Go.Proofs.YtfaniohoplbdoaaW.PrintMore Go.Proofs.Ytfaniohoplbdoaa.PDiskActs
set_option linter.unusedVariables false
set_option linter.unusedSimpArgs false
/-- A row of the call's own, as one that is read. -/
theorem RB.foot {w : World} {base : Nat} {ok : Nat → Prop} {A : Option Addr} {n c : Nat} {l : List Int} (h : RB w base (.slice A n c) l) (hok : ∀ k, base ≤ k → ok k) : n = l.length ∧ l.length ≤ c ∧ Kd.F (Kd.int .u8) w ok A l.length l := by
  obtain ⟨h1, h2, h3⟩ := Kd.R_reads' h
  subst h1
  exact ⟨rfl, h2, Kd.F_mono (Kd.R_F (Kd.R_bound h)) (fun k hk => hok k hk.2.1)⟩
abbrev doV (o : S123) (B : Option Addr) (d : Nat) : Value := .agg #[.int .i64 o.f0, .string o.f1, .string o.f2, .slice B o.f3.length d]
abbrev doC (o : S123) (B : Option Addr) (d : Nat) : Array Value := #[.int .i64 o.f0, .string o.f1, .string o.f2, .slice B o.f3.length d]
abbrev ViewPost (w : World) (ok : Nat → Prop) (l : List S109) : Ending → World → Prop := fun e w' => (∃ v, e = .returned v ∧ VF w' ok v l) ∧ Below w.heap.size w w'
set_option maxHeartbeats 2000000 in
set_option maxRecDepth 100000 in
theorem carry_calls (ok : Nat → Prop) (A : Option Addr) (c : Nat) (l : List S109) (o : S123) (B : Option Addr) (d : Nat) (w : World) (hok : ∀ k, w.heap.size ≤ k → ok k) (hV : VF w ok (.slice A l.length c) l) (hd : o.f3.length ≤ d)
    (hC : CB w B o.f3) (hl : l.length ≤ 3518437208800) (hs : byF l + o.f3.length ≤ 140737488351232) :
    Calls Try.prog 85 #[.slice A l.length c, doV o B d] w (ViewPost w ok (carryL l o)) := by
  have HV := Aside0.mk hV
  have HOK := Aside0.mk hok
  have HC := Aside0.mk hC
  have hBx : Below w.heap.size w (w.alloc (.cells (doC o B d) 123)) := below_alloc (Below.refl _ _) _
  have HBx := Aside0.mk hBx
  have HFi := Aside0.mk (find_calls A c l o.f1 (w.alloc (.cells (doC o B d) 123)) (Kd.C_below (VF.reads hV).2.2 hBx) (fun f hf => by have := byF_le hf; omega))
  have hfl := findL_le (l := l) (nm := o.f1)
  obtain ⟨r, hr⟩ : ∃ r, r = findL l o.f1 := ⟨_, rfl⟩
  rw [← hr] at HFi hfl
  have HR := Aside0.mk hr
  have hsz1 : (w.alloc (.cells (doC o B d) 123)).heap.size = w.heap.size + 1 := alloc_size _ _
  have HSZ1 := Aside0.mk hsz1
  have hblk := blk_new w (.cells (doC o B d) 123)
  obtain ⟨wb, hwb⟩ : ∃ wb, wb = w.alloc (.cells (doC o B d) 123) := ⟨_, rfl⟩
  rw [← hwb] at hBx HBx HFi hsz1 HSZ1 hblk
  have HBK := Aside0.mk hblk
  have HWB := Aside0.mk hwb
  have hu123 := Try.underlying123
  have hu109 := Try.underlying109
  clear hV hok hC hBx hr hsz1 hblk hwb
  have HWW := Aside0.mk (fun (w1 : World) (h : Below wb.heap.size wb w1) => below_then HBx.out HBx.out.size h)
  by_cases h0 : o.f0 = 0
  · have h0b : (o.f0 == 0) = true := by simpa using h0
    have HK := Aside0.mk (show carryL l o = withL l ⟨o.f1, r.getD [] ++ o.f3⟩ by rw [HR.out]; unfold carryL; rw [if_pos h0])
    clear h0
    go_enter Try.func85, Try.ntmps85
    go_wp2_with (first | (go_at_call 89; rw [← HWB.out]; with_reducible refine HFi.out.mono ?_; rintro e w1 ⟨⟨v1, rfl, hr1⟩, hB1⟩; have hb1 := (hB1.block _ (blk_lt HBK.out)).trans HBK.out; have HB1 := Aside0.mk hb1; have hz0 : w1.cell? ⟨w.heap.size, 0, none⟩ = some (.int .i64 o.f0) := (blk_cell hb1 0).trans rfl; have hz1 : w1.cell? ⟨w.heap.size, 1, none⟩ = some (.string o.f1) := (blk_cell hb1 1).trans rfl; have hz2 : w1.cell? ⟨w.heap.size, 2, none⟩ = some (.string o.f2) := (blk_cell hb1 2).trans rfl; have hz3 : w1.cell? ⟨w.heap.size, 3, none⟩ = some (.slice B o.f3.length d) := (blk_cell hb1 3).trans rfl; have HR1 := Aside0.mk hr1; have HW1 := Aside0.mk hB1; clear hb1 hr1 hB1 HFi) | ((with_reducible refine gate_dst (N := 21) rfl ?_); obtain ⟨A1, c1, rfl, hc1, hC1⟩ := Kd.R_reads HR1.out; refine app_bts (w0 := wb) wb.heap.size rfl (.tmp 18) (.tmp 20) rfl _ (r.getD []) o.f3 B d rfl rfl HR1.out (Kd.C_below HC.out (HWW.out _ HW1.out)) HW1.out HW1.out.size (by omega) ?_; intro z2 v2 w2 EZ2 HR2 HW2; obtain ⟨A2, c2, rfl⟩ := Kd.R_slice HR2.out; have hb2 := (HW2.out.block _ (blk_lt HBK.out)).trans HBK.out; have hy1 : w2.cell? ⟨w.heap.size, 1, none⟩ = some (.string o.f1) := (blk_cell hb2 1).trans rfl; clear hb2) | fail)
    obtain ⟨_, hc2, hF2⟩ := RB.foot (ok := ok) HR2.out (fun k hk => HOK.out k (Nat.le_trans HBx.out.size hk))
    have HWz := Aside0.mk (HWW.out _ HW2.out)
    with_reducible refine (with_calls ok A c l ⟨o.f1, z2⟩ A2 c2 w2 (fun k hk => HOK.out k (Nat.le_trans HWz.out.size hk)) (Kd.V_below HV.out HWz.out) hc2 hF2 hl).mono ?_
    rintro e w3 ⟨⟨v3, rfl, hv3⟩, hB3⟩
    have HV3 := Aside0.mk hv3
    have HB3 := Aside0.mk (below_then HWz.out HWz.out.size hB3)
    clear hv3 hB3 hc2 hF2
    go_wp2
    go_ret
    exact ⟨⟨_, rfl, by rw [HK.out, ← EZ2.out]; exact HV3.out⟩, HB3.out⟩
  have h0b : (o.f0 == 0) = false := by simpa using h0
  by_cases h1 : o.f0 = 1
  · have h1b : (o.f0 == 1) = true := by simpa using h1
    have HK := Aside0.mk (show carryL l o = withoutL l o.f1 by unfold carryL; rw [if_neg h0, if_pos h1])
    clear h0 h1
    go_enter Try.func85, Try.ntmps85
    go_wp2_with (first | (go_at_call 89; rw [← HWB.out]; with_reducible refine HFi.out.mono ?_; rintro e w1 ⟨⟨v1, rfl, hr1⟩, hB1⟩; have hb1 := (hB1.block _ (blk_lt HBK.out)).trans HBK.out; have HB1 := Aside0.mk hb1; have hz0 : w1.cell? ⟨w.heap.size, 0, none⟩ = some (.int .i64 o.f0) := (blk_cell hb1 0).trans rfl; have hz1 : w1.cell? ⟨w.heap.size, 1, none⟩ = some (.string o.f1) := (blk_cell hb1 1).trans rfl; have hz2 : w1.cell? ⟨w.heap.size, 2, none⟩ = some (.string o.f2) := (blk_cell hb1 2).trans rfl; have hz3 : w1.cell? ⟨w.heap.size, 3, none⟩ = some (.slice B o.f3.length d) := (blk_cell hb1 3).trans rfl; have HR1 := Aside0.mk hr1; have HW1 := Aside0.mk hB1; clear hb1 hr1 hB1 HFi) | fail)
    have HWz := Aside0.mk (HWW.out _ HW1.out)
    with_reducible refine (without_calls ok A c l o.f1 w1 (fun k hk => HOK.out k (Nat.le_trans HWz.out.size hk)) (Kd.V_below HV.out HWz.out) (by omega)).mono ?_
    rintro e w3 ⟨⟨v3, rfl, hv3⟩, hB3⟩
    have HV3 := Aside0.mk hv3
    have HB3 := Aside0.mk (below_then HWz.out HWz.out.size hB3)
    clear hv3 hB3
    go_wp2
    go_ret
    exact ⟨⟨_, rfl, by rw [HK.out]; exact HV3.out⟩, HB3.out⟩
  have h1b : (o.f0 == 1) = false := by simpa using h1
  cases r with
  | none =>
    have HK := Aside0.mk (show carryL l o = l by unfold carryL; rw [if_neg h0, if_neg h1, ← HR.out])
    clear h0 h1
    go_enter Try.func85, Try.ntmps85
    go_wp2_with (first | (go_at_call 89; rw [← HWB.out]; with_reducible refine HFi.out.mono ?_; rintro e w1 ⟨⟨v1, rfl, hr1⟩, hB1⟩; have hb1 := (hB1.block _ (blk_lt HBK.out)).trans HBK.out; have HB1 := Aside0.mk hb1; have hz0 : w1.cell? ⟨w.heap.size, 0, none⟩ = some (.int .i64 o.f0) := (blk_cell hb1 0).trans rfl; have hz1 : w1.cell? ⟨w.heap.size, 1, none⟩ = some (.string o.f1) := (blk_cell hb1 1).trans rfl; have hz2 : w1.cell? ⟨w.heap.size, 2, none⟩ = some (.string o.f2) := (blk_cell hb1 2).trans rfl; have hz3 : w1.cell? ⟨w.heap.size, 3, none⟩ = some (.slice B o.f3.length d) := (blk_cell hb1 3).trans rfl; have HR1 := Aside0.mk hr1; have HW1 := Aside0.mk hB1; clear hb1 hr1 hB1 HFi) | fail)
    go_ret
    exact ⟨⟨_, rfl, by rw [HK.out]; exact Kd.V_below HV.out (HWW.out _ HW1.out)⟩, HWW.out _ HW1.out⟩
  | some b =>
    by_cases hq : (o.f1.toList == o.f2.toList) = true
    · have HK := Aside0.mk (show carryL l o = l by unfold carryL; rw [if_neg h0, if_neg h1, ← HR.out]; simp [hq])
      clear h0 h1
      go_enter Try.func85, Try.ntmps85
      go_wp2_with (first | (go_at_call 89; rw [← HWB.out]; with_reducible refine HFi.out.mono ?_; rintro e w1 ⟨⟨v1, rfl, hr1⟩, hB1⟩; have hb1 := (hB1.block _ (blk_lt HBK.out)).trans HBK.out; have HB1 := Aside0.mk hb1; have hz0 : w1.cell? ⟨w.heap.size, 0, none⟩ = some (.int .i64 o.f0) := (blk_cell hb1 0).trans rfl; have hz1 : w1.cell? ⟨w.heap.size, 1, none⟩ = some (.string o.f1) := (blk_cell hb1 1).trans rfl; have hz2 : w1.cell? ⟨w.heap.size, 2, none⟩ = some (.string o.f2) := (blk_cell hb1 2).trans rfl; have hz3 : w1.cell? ⟨w.heap.size, 3, none⟩ = some (.slice B o.f3.length d) := (blk_cell hb1 3).trans rfl; have HR1 := Aside0.mk hr1; have HW1 := Aside0.mk hB1; clear hb1 hr1 hB1 HFi) | fail)
      go_ret
      exact ⟨⟨_, rfl, by rw [HK.out]; exact Kd.V_below HV.out (HWW.out _ HW1.out)⟩, HWW.out _ HW1.out⟩
    · have hqf : (o.f1.toList == o.f2.toList) = false := by simpa using hq
      have HK := Aside0.mk (show carryL l o = withL (withoutL l o.f1) ⟨o.f2, b⟩ by unfold carryL; rw [if_neg h0, if_neg h1, ← HR.out]; simp [hqf])
      clear h0 h1 hq
      go_enter Try.func85, Try.ntmps85
      go_wp2_with (first | (go_at_call 89; rw [← HWB.out]; with_reducible refine HFi.out.mono ?_; rintro e w1 ⟨⟨v1, rfl, hr1⟩, hB1⟩; have hb1 := (hB1.block _ (blk_lt HBK.out)).trans HBK.out; have HB1 := Aside0.mk hb1; have hz0 : w1.cell? ⟨w.heap.size, 0, none⟩ = some (.int .i64 o.f0) := (blk_cell hb1 0).trans rfl; have hz1 : w1.cell? ⟨w.heap.size, 1, none⟩ = some (.string o.f1) := (blk_cell hb1 1).trans rfl; have hz2 : w1.cell? ⟨w.heap.size, 2, none⟩ = some (.string o.f2) := (blk_cell hb1 2).trans rfl; have hz3 : w1.cell? ⟨w.heap.size, 3, none⟩ = some (.slice B o.f3.length d) := (blk_cell hb1 3).trans rfl; have HR1 := Aside0.mk hr1; have HW1 := Aside0.mk hB1; clear hb1 hr1 hB1 HFi) | fail)
      have HR1' := Aside0.mk (show RB w1 wb.heap.size v1 b from HR1.out)
      obtain ⟨A1, c1, rfl⟩ := Kd.R_slice HR1'.out
      refine start_ (n := 10) (S := fun w' => w'.cell? ⟨w.heap.size, 1, none⟩ = some (.string o.f1) ∧ w'.cell? ⟨w.heap.size, 2, none⟩ = some (.string o.f2)) (ds := []) #[false, false, false, false, false, false, false, false, false, false] (by kernel_rfl) rfl rfl ?_ (fun hHeld => ?_)
      · exact ⟨hz1, hz2⟩
      refine pure_ (i := 0) (N := some 44) (v := ?_) (a' := ?_) #[true, false, false, false, false, false, false, false, false, false] rfl rfl (by kernel_rfl) (fun _ _ _ h => h) (Or.inl ⟨by rfl, ?_⟩) ?_ ?_
      rotate_left
      · intro w'
        go_simp
        with_reducible rfl
      rotate_left
      · simp only [Act.put, List.setIfInBounds_toArray, List.set_cons_zero, List.set_cons_succ, i64_w, i32_w]
        rfl
      refine pure_ (i := 1) (N := some 45) (v := ?_) (a' := ?_) #[true, true, false, false, false, false, false, false, false, false] rfl rfl (by kernel_rfl) (fun _ _ _ h => h) (Or.inl ⟨by rfl, ?_⟩) ?_ ?_
      rotate_left
      · intro w'
        go_simp
        with_reducible rfl
      rotate_left
      · simp only [Act.put, List.setIfInBounds_toArray, List.set_cons_zero, List.set_cons_succ, i64_w, i32_w]
        rfl
      refine take_ (i := 2) (N := some 46) (v := ?_) (a' := ?_) #[true, true, true, false, false, false, false, false, false, false] rfl rfl (by kernel_rfl) (fun _ _ _ h => h) (Or.inl ⟨by rfl, ?_⟩) hHeld ?_ ?_
      rotate_left
      · rintro w' ⟨hq1, hq2⟩
        go_simp
        with_reducible rfl
      rotate_left
      · simp only [Act.put, List.setIfInBounds_toArray, List.set_cons_zero, List.set_cons_succ, i64_w, i32_w]
        rfl
      refine pure_ (i := 4) (N := some 48) (v := ?_) (a' := ?_) #[true, true, true, false, true, false, false, false, false, false] rfl rfl (by kernel_rfl) (fun _ _ _ h => h) (Or.inl ⟨by rfl, ?_⟩) ?_ ?_
      rotate_left
      · intro w'
        go_simp
        with_reducible rfl
      rotate_left
      · simp only [Act.put, List.setIfInBounds_toArray, List.set_cons_zero, List.set_cons_succ, i64_w, i32_w]
        rfl
      refine take_ (i := 5) (N := some 49) (v := ?_) (a' := ?_) #[true, true, true, false, true, true, false, false, false, false] rfl rfl (by kernel_rfl) (fun _ _ _ h => h) (Or.inl ⟨by rfl, ?_⟩) hHeld ?_ ?_
      rotate_left
      · rintro w' ⟨hq1, hq2⟩
        go_simp
        with_reducible rfl
      rotate_left
      · simp only [Act.put, List.setIfInBounds_toArray, List.set_cons_zero, List.set_cons_succ, i64_w, i32_w]
        rfl
      refine pure_ (i := 6) (N := some 50) (v := ?_) (a' := ?_) #[true, true, true, false, true, true, true, false, false, false] rfl rfl (by kernel_rfl) (fun _ _ _ h => h) (Or.inl ⟨by rfl, ?_⟩) ?_ ?_
      rotate_left
      · intro w'
        go_simp
        with_reducible rfl
      rotate_left
      · simp only [Act.put, List.setIfInBounds_toArray, List.set_cons_zero, List.set_cons_succ, i64_w, i32_w]
        rfl
      refine pure_ (i := 7) (N := some 51) (v := ?_) (a' := ?_) #[true, true, true, false, true, true, true, true, false, false] rfl rfl (by kernel_rfl) (fun _ _ _ h => h) (Or.inl ⟨by rfl, ?_⟩) ?_ ?_
      rotate_left
      · intro w'
        go_simp
        with_reducible rfl
      rotate_left
      · simp only [Act.put, List.setIfInBounds_toArray, List.set_cons_zero, List.set_cons_succ, i64_w, i32_w]
        rfl
      have HWz := Aside0.mk (below_drew (HWW.out _ HW1.out))
      have HBd := Aside0.mk (below_drew HW1.out)
      clear hz0 hz1 hz2 hz3
      refine one_ (i := 3) (N := some 47) #[true, true, true, true, true, true, true, true, false, false] rfl rfl (by kernel_rfl) (by decide) (fun K hK => ?_)
      refine goes_ Try.func90 (by kernel_rfl) rfl #[.slice A l.length c, .string o.f1] (by rfl) rfl rfl (by (try simp only [List.map_toArray, List.map_cons, List.map_nil]); first | done | rfl) ?_
      refine (without_calls ok A c l o.f1 w1.drew (fun k hk => HOK.out k (Nat.le_trans HWz.out.size hk)) (Kd.V_below HV.out HWz.out) (by omega)).mono ?_
      rintro e w3 ⟨⟨v3, rfl, hv3⟩, hB3⟩
      have htl := withoutL_length l o.f1
      obtain ⟨t, ht⟩ : ∃ t, t = withoutL l o.f1 := ⟨_, rfl⟩
      rw [← ht] at hv3 HK htl
      clear ht
      obtain ⟨A3, c3, rfl, hv3'⟩ := with_t hv3
      have HV3 := Aside0.mk hv3'
      have HW3 := Aside0.mk (below_then HBd.out HBd.out.size hB3)
      have HWz3 := Aside0.mk (HWW.out _ HW3.out)
      have HF3 := Aside0.mk (RB.foot (ok := ok) (Kd.R_below (Kd.R_drew HR1'.out) hB3) (fun k hk => HOK.out k (Nat.le_trans HBx.out.size hk)))
      have hb3 := (HW3.out.block _ (blk_lt HBK.out)).trans HBK.out
      have hy1 : w3.cell? ⟨w.heap.size, 1, none⟩ = some (.string o.f1) := (blk_cell hb3 1).trans rfl
      have hy2 : w3.cell? ⟨w.heap.size, 2, none⟩ = some (.string o.f2) := (blk_cell hb3 2).trans rfl
      refine ⟨_, rfl, hK.out _ _ ⟨hy1, hy2⟩ (fun _ => ?_)⟩
      clear hK K hv3 hv3' hB3 hb3 hy1 hy2
      refine norm_ (a' := ?_) ?_ ?_
      rotate_left
      · show Act.put _ (some 47) _ = _
        simp only [Act.put, List.setIfInBounds_toArray, List.set_cons_zero, List.set_cons_succ, i64_w, i32_w]
        rfl
      refine one_ (i := 8) (N := some 52) #[true, true, true, true, true, true, true, true, true, false] rfl rfl (by kernel_rfl) (by decide) (fun K hK => ?_)
      refine goes_ Try.func80 (by kernel_rfl) rfl #[.slice A3 t.length c3, .agg #[.string o.f2, .slice A1 b.length c1]] (by rfl) rfl rfl (by (try simp only [List.map_toArray, List.map_cons, List.map_nil]); first | done | rfl) ?_
      refine (with_calls ok A3 c3 t ⟨o.f2, b⟩ A1 c1 w3 (fun k hk => HOK.out k (Nat.le_trans HWz3.out.size hk)) HV3.out HF3.out.2.1 HF3.out.2.2 (by omega)).mono ?_
      rintro e w4 ⟨⟨v4, rfl, hv4⟩, hB4⟩
      have HV4 := Aside0.mk hv4
      have HW4 := Aside0.mk (below_then HW3.out HW3.out.size hB4)
      have hb3 := (HW4.out.block _ (blk_lt HBK.out)).trans HBK.out
      have hy1 : w4.cell? ⟨w.heap.size, 1, none⟩ = some (.string o.f1) := (blk_cell hb3 1).trans rfl
      have hy2 : w4.cell? ⟨w.heap.size, 2, none⟩ = some (.string o.f2) := (blk_cell hb3 2).trans rfl
      refine ⟨_, rfl, hK.out _ _ ⟨hy1, hy2⟩ (fun _ => ?_)⟩
      clear hK K hv4 hB4 hb3 hy1 hy2
      refine norm_ (a' := ?_) ?_ ?_
      rotate_left
      · show Act.put _ (some 52) _ = _
        simp only [Act.put, List.setIfInBounds_toArray, List.set_cons_zero, List.set_cons_succ, i64_w, i32_w]
        rfl
      refine pure_ (i := 9) (N := some 4) (v := ?_) (a' := ?_) #[true, true, true, true, true, true, true, true, true, true] rfl rfl (by kernel_rfl) (fun _ _ _ h => h) (Or.inl ⟨by rfl, ?_⟩) ?_ ?_
      rotate_left
      · intro w'
        go_simp
        with_reducible rfl
      rotate_left
      · simp only [Act.put, List.setIfInBounds_toArray, List.set_cons_zero, List.set_cons_succ, i64_w, i32_w]
        rfl
      refine done_ (by kernel_rfl) ?_
      go_wp2
      go_ret
      exact ⟨⟨_, rfl, by rw [HK.out]; exact HV4.out⟩, HWW.out _ HW4.out⟩
end Go.Proofs.Ytfaniohoplbdoaa.My
/- The reference's View, Read and Sync. -/
namespace Go.Proofs.Ytfaniohoplbdoaa.My
open Go Go.RowKit Go.Proofs.YtfaniohoplbdoaaW.PrintWords Go.Proofs.YtfaniohoplbdoaaW.PrintLast Go.Proofs.YtfaniohoplbdoaaW.PrintMore Go.Proofs.Ytfaniohoplbdoaa.PDiskActs
set_option linter.unusedVariables false
set_option linter.unusedSimpArgs false
abbrev CO (w : World) (A : Option Addr) (l : List S123) : Prop := Kd.C k123 w A l.length l
theorem CO.at_ {w : World} {A : Option Addr} {l : List S123} (h : CO w A l) (j : Nat) (hj : j < l.length) :
    ∃ ad A' c', A = some ad ∧ w.cell? (ad.add (j * 4)) = some (.int .i64 l[j].f0) ∧ w.cell? ⟨(ad.add (j * 4)).block, (ad.add (j * 4)).off + 1, none⟩ = some (.string l[j].f1) ∧ w.cell? ⟨(ad.add (j * 4)).block, (ad.add (j * 4)).off + 2, none⟩ = some (.string l[j].f2) ∧ w.cell? ⟨(ad.add (j * 4)).block, (ad.add (j * 4)).off + 3, none⟩ = some (.slice A' l[j].f3.length c') ∧ l[j].f3.length ≤ c' ∧ CB w A' l[j].f3 := by
  have e : rd_T123 l (j : Int) = l[j] := by simp [rd_T123, List.getD_eq_getElem?_getD, hj]
  have := at_T123 h (j : Int) (by omega) (by omega)
  rw [e, Int.toNat_natCast] at this
  exact this
theorem viewL_take_succ {l : List S109} {ops : List S123} {k : Nat} (h : k < ops.length) : viewL l (ops.take (k + 1)) = carryL (viewL l (ops.take k)) ops[k] := by
  unfold viewL
  rw [List.take_succ_eq_append_getElem h, List.foldl_append]
  rfl
theorem byO_take {ops : List S123} {k : Nat} (h : k < ops.length) : byO (ops.take k) + ops[k].f3.length ≤ byO ops := by
  have e : ops = ops.take k ++ (ops[k] :: ops.drop (k + 1)) := by rw [← List.drop_eq_getElem_cons h, List.take_append_drop]
  have : byO ops = byO (ops.take k) + (ops[k].f3.length + byO (ops.drop (k + 1))) := by
    conv => lhs; rw [e]
    unfold byO
    rw [List.map_append, List.sum_append, List.map_cons, List.sum_cons]
  omega
abbrev dkV (A : Option Addr) (n c : Nat) (A' : Option Addr) (m c' : Nat) : Value := .agg #[.slice A n c, .slice A' m c']
set_option maxHeartbeats 2000000 in
set_option maxRecDepth 100000 in
theorem view_calls (ok : Nat → Prop) (A : Option Addr) (c : Nat) (l : List S109) (A' : Option Addr) (c' : Nat) (ops : List S123) (w : World) (hok : ∀ k, w.heap.size ≤ k → ok k) (hV : VF w ok (.slice A l.length c) l) (hO : CO w A' ops)
    (hl : l.length + ops.length ≤ 3518437208800) (hs : byF l + byO ops ≤ 140737488351232) :
    Calls Try.prog 84 #[dkV A l.length c A' ops.length c'] w (ViewPost w ok (viewL l ops)) := by
  have hm := Kd.C_max hO
  have HV := Aside0.mk hV
  have HOK := Aside0.mk hok
  have HO := Aside0.mk hO
  have hu123 := Try.underlying123
  have hu53 := Try.underlying53
  clear hV hok hO
  go_enter Try.func84, Try.ntmps84
  go_wp2
  go_loopw [3, 11] (fun v i wr => ∃ k : Nat, k ≤ ops.length ∧ i = .int .i64 k ∧ Aside0 (VF wr ok v (viewL l (ops.take k))) ∧ Aside0 (Below w.heap.size w wr)) (fun _ i _ => ops.length - (intOf i).toNat)
  case atStart => exact ⟨0, by omega, rfl, ⟨Kd.V_alloc HV.out _⟩, ⟨below_alloc (Below.refl _ _) _⟩⟩
  case round =>
    obtain ⟨k, hk, rfl, HVr, HW⟩ := hrel
    by_cases hlt : k < ops.length
    · obtain ⟨ad, B, d, rfl, hc0, hc1, hc2, hc3, hd, hC⟩ := CO.at_ (Kd.C_below HO.out HW.out) k hlt
      have HCo := Aside0.mk hC
      have HST := Aside0.mk (viewL_take_succ (l := l) hlt)
      have hb1 := byO_take hlt
      have hb2 := byF_viewL (ops.take k) l
      have hb3 := viewL_length (ops.take k) l
      rw [List.length_take] at hb3
      obtain ⟨o, ho⟩ : ∃ o, o = ops[k] := ⟨_, rfl⟩
      rw [← ho] at hc0 hc1 hc2 hc3 hd HCo HST hb1
      clear ho hC
      generalize viewL l (ops.take k) = x at HVr HST hb2 hb3
      obtain ⟨A1, c1, rfl, hv1⟩ := with_t HVr.out
      have HV1 := Aside0.mk hv1
      clear hv1 HVr
      go_wp2_with fail
      have HWb := Aside0.mk (below_alloc HW.out (.cells (doC o B d) 123))
      with_reducible refine (carry_calls ok A1 c1 x o B d (wr.alloc (.cells (doC o B d) 123)) (fun k hk => HOK.out k (Nat.le_trans HWb.out.size hk)) (Kd.V_alloc HV1.out _) hd (Kd.C_alloc HCo.out _) (by omega) (by omega)).mono ?_
      rintro e w3 ⟨⟨v3, rfl, hv3⟩, hB3⟩
      have HV3 := Aside0.mk hv3
      have HB3 := Aside0.mk (below_then HWb.out HWb.out.size hB3)
      clear hv3 hB3
      go_wp2
      go_roundw
      case rel => exact ⟨k + 1, by omega, by go_num, ⟨by rw [HST.out]; exact HV3.out⟩, HB3⟩
      case measure => simp [intOf]; omega
    · obtain rfl : k = ops.length := by omega
      rw [List.take_length] at HVr
      go_wp2
      go_ret
      exact ⟨⟨_, rfl, HVr.out⟩, HW.out⟩
theorem viewL_fits {l : List S109} {ops : List S123} (hs : byF l + byO ops ≤ 140737488351232) : ∀ f ∈ viewL l ops, f.f1.length ≤ 140737488351232 := by
  intro f hf
  have := byF_le hf
  have := byF_viewL ops l
  omega
abbrev ReadPost (w : World) (r : Option (List Int)) : Ending → World → Prop := fun e w' => (∃ v, e = .returned (.tuple #[v, .bool r.isSome]) ∧ RB w' w.heap.size v (r.getD [])) ∧ Below w.heap.size w w'
set_option maxHeartbeats 2000000 in
set_option maxRecDepth 100000 in
theorem read_calls (A : Option Addr) (c : Nat) (l : List S109) (A' : Option Addr) (c' : Nat) (ops : List S123) (nm : ByteArray) (w : World) (hc : l.length ≤ c) (hC : CF w A l) (hO : CO w A' ops)
    (hl : l.length + ops.length ≤ 3518437208800) (hs : byF l + byO ops ≤ 140737488351232) :
    Calls Try.prog 66 #[dkV A l.length c A' ops.length c', .string nm] w (ReadPost w (findL (viewL l ops) nm)) := by
  have hV : VF w (fun _ => True) (.slice A l.length c) l := Kd.V_mk hc (Kd.F_mono (Kd.C_F k109_heap hC) (fun _ _ => trivial))
  have hwb : Below w.heap.size w (w.alloc (.cells #[.slice A l.length c, .slice A' ops.length c'] 53)) := below_alloc (Below.refl _ _) _
  have HW := Aside0.mk hwb
  have HVi := Aside0.mk (view_calls (fun _ => True) A c l A' c' ops (w.alloc (.cells #[.slice A l.length c, .slice A' ops.length c'] 53)) (fun _ _ => trivial) (Kd.V_alloc hV _) (Kd.C_alloc hO _) hl hs)
  have HFt := Aside0.mk (viewL_fits hs)
  have hu53 := Try.underlying53
  obtain ⟨x, hx⟩ : ∃ x, x = viewL l ops := ⟨_, rfl⟩
  rw [← hx] at HVi HFt
  rw [← hx]
  clear hV hwb hC hO hx
  go_enter Try.func66, Try.ntmps66
  go_wp2_with fail
  with_reducible refine HVi.out.mono ?_
  rintro e w1 ⟨⟨v1, rfl, hv1⟩, hB1⟩
  obtain ⟨A1, c1, rfl, hv1'⟩ := with_t hv1
  have HV1 := Aside0.mk hv1'
  have HB1 := Aside0.mk (below_then HW.out HW.out.size hB1)
  clear hv1 hv1' hB1 HVi
  go_wp2_with fail
  with_reducible refine (find_calls A1 c1 x nm w1 (VF.reads HV1.out).2.2 HFt.out).mono ?_
  rintro e w2 ⟨⟨v2, rfl, hr2⟩, hB2⟩
  have HR2 := Aside0.mk (Kd.R_lower hr2 HB1.out.size)
  have HB2 := Aside0.mk (below_then HB1.out HB1.out.size hB2)
  clear hr2 hB2
  go_wp2
  go_ret2
  exact ⟨⟨_, rfl, HR2.out⟩, HB2.out⟩
end Go.Proofs.Ytfaniohoplbdoaa.My
/- The reference's Sync, buffered, Append, Remove, Rename. -/
namespace Go.Proofs.Ytfaniohoplbdoaa.My
open Go Go.RowKit Go.Proofs.YtfaniohoplbdoaaW.PrintWords Go.Proofs.YtfaniohoplbdoaaW.PrintLast Go.Proofs.YtfaniohoplbdoaaW.PrintMore Go.Proofs.Ytfaniohoplbdoaa.PDiskActs
set_option linter.unusedVariables false
set_option linter.unusedSimpArgs false
abbrev VO (w : World) (ok : Nat → Prop) (v : Value) (l : List S123) : Prop := Kd.V k123 123 w 0 ok v l
/-- A disk of the reference's, as a value. -/
abbrev DkPost (w : World) (ok : Nat → Prop) (l : List S109) (ops : List S123) : Ending → World → Prop := fun e w' => (∃ u v, e = .returned (.agg #[u, v]) ∧ VF w' ok u l ∧ VO w' ok v ops) ∧ Below w.heap.size w w'
theorem V_set2 {α : Type} {d : Kd α} {e base g : Nat} {w : World} {ok : Nat → Prop} {v : Value} {xs : List α} (h : Kd.V d e w base (fun k => ok k ∧ k ≠ g) v xs) (i j : Nat) (a b : Value) : Kd.V d e ((w.setCell ⟨g, i, none⟩ a).setCell ⟨g, j, none⟩ b) base ok v xs :=
  Kd.V_mono (Kd.V_far (Kd.V_far h (p := ⟨g, i, none⟩) (fun _ hk => hk.2) a) (p := ⟨g, j, none⟩) (fun _ hk => hk.2) b) (fun _ hk => hk.1)
theorem blk_put2 {w : World} {g t : Nat} {x y : Value} (h : w.heap[g]? = some (.cells #[x, y] t (0, 0))) (a b : Value) : ((w.setCell ⟨g, 0, none⟩ a).setCell ⟨g, 1, none⟩ b).heap[g]? = some (.cells #[a, b] t (0, 0)) :=
  blk_put (cs := #[a, y]) (blk_put (cs := #[x, y]) h 0 _ rfl) 1 _ rfl
abbrev dk2 : Obj := .cells #[.slice none 0 0, .slice none 0 0] 53
set_option maxHeartbeats 2000000 in
set_option maxRecDepth 100000 in
theorem sync_calls (ok : Nat → Prop) (A : Option Addr) (c : Nat) (l : List S109) (A' : Option Addr) (c' : Nat) (ops : List S123) (w : World) (hok : ∀ k, w.heap.size ≤ k → ok k) (hV : VF w ok (.slice A l.length c) l) (hO : CO w A' ops)
    (hl : l.length + ops.length ≤ 3518437208800) (hs : byF l + byO ops ≤ 140737488351232) :
    Calls Try.prog 48 #[dkV A l.length c A' ops.length c'] w (DkPost w ok (viewL l ops) []) := by
  obtain ⟨wb, hwb⟩ : ∃ wb, wb = (w.alloc (.cells #[.slice A l.length c, .slice A' ops.length c'] 53)).alloc dk2 := ⟨_, rfl⟩
  have hW : Below w.heap.size w wb := by rw [hwb]; exact below_alloc (below_alloc (Below.refl _ _) _) _
  have hsz : wb.heap.size = w.heap.size + 1 + 1 := by rw [hwb, alloc_size, alloc_size]
  have hbk : wb.heap[w.heap.size + 1]? = some dk2 := by rw [hwb, ← alloc_size w (.cells #[.slice A l.length c, .slice A' ops.length c'] 53)]; exact blk_new _ _
  have hVb : VF wb (fun k => ok k ∧ k ≠ w.heap.size + 1) (.slice A l.length c) l := Kd.V_below (Kd.V_elderB hV (w.heap.size + 1) (by omega)) hW
  have HVi := Aside0.mk (view_calls (fun k => ok k ∧ k ≠ w.heap.size + 1) A c l A' c' ops wb (fun k hk => ⟨hok k (by omega), by omega⟩) hVb (Kd.C_below hO hW) hl hs)
  have HWB := Aside0.mk hwb
  have HW := Aside0.mk hW
  have HBK := Aside0.mk hbk
  have HSZ := Aside0.mk hsz
  have HOK := Aside0.mk hok
  obtain ⟨x, hx⟩ : ∃ x, x = viewL l ops := ⟨_, rfl⟩
  rw [← hx] at HVi
  rw [← hx]
  have hu53 := Try.underlying53
  clear hwb hW hsz hbk hVb hV hO hok hx
  go_enter Try.func48, Try.ntmps48
  go_wp2_with (first | (go_at_call 84; rw [← HWB.out]; with_reducible refine HVi.out.mono ?_; rintro e w1 ⟨⟨v1, rfl, hv1⟩, hB1⟩; obtain ⟨A1, c1, rfl, hv1'⟩ := with_t hv1; have HV1 := Aside0.mk hv1'; have HB1 := Aside0.mk hB1; have hb1 := (hB1.block _ (blk_lt HBK.out)).trans HBK.out; have HBK1 := Aside0.mk hb1; have hz0 : w1.cell? ⟨w.heap.size + 1, 0, none⟩ = some (.slice none 0 0) := (blk_cell hb1 0).trans rfl; have hz1 : w1.cell? ⟨w.heap.size + 1, 1, none⟩ = some (.slice none 0 0) := (blk_cell hb1 1).trans rfl; have hf0 := blk_frozen hb1 0; have hf1 := blk_frozen hb1 1; clear hb1 hB1 hv1 hv1' HVi) | fail)
  have HWz := below_then HW.out HW.out.size HB1.out
  refine bodyPost_ret (results_cell_row rfl _ _ (w.heap.size + 1) 53 #[.slice A1 x.length c1, .slice none 0 0] (0, 0) _ rfl (blk_put2 HBK1.out _ _) Try.underlying53 rfl (by kernel_rfl)) rfl ?_
  exact ⟨⟨_, _, rfl, V_set2 HV1.out _ _ _ _, Kd.V_nil _ _ _ _ _⟩, below_set (below_set HWz (by omega)) (by omega)⟩
end Go.Proofs.Ytfaniohoplbdoaa.My
/- The reference's buffered. -/
namespace Go.Proofs.Ytfaniohoplbdoaa.My
open Go Go.RowKit Go.Proofs.YtfaniohoplbdoaaW.PrintWords Go.Proofs.YtfaniohoplbdoaaW.PrintLast Go.Proofs.YtfaniohoplbdoaaW.PrintMore Go.Proofs.Ytfaniohoplbdoaa.PDiskActs
set_option linter.unusedVariables false
set_option linter.unusedSimpArgs false
abbrev NO (w : World) (base : Nat) (ok : Nat → Prop) (v : Value) (l : List S123) : Prop := Kd.N k123 123 w base ok v l
section
variable {ops : Array Oper} {o : Oper} {a : Act} {Q : Exit → Act → World → Prop} {Kc : Act → World → Prop}
/-- '[]Do{}'. -/
theorem lit0_step {W : World} {ok : Nat → Prop} {N' : Tmp} (hok : ∀ k, W.heap.size ≤ k → ok k) (hw : Region.wanted o (yielded ops a.tmps) = true) (hd : o.dst = some N')
    (hrun : (execOp a.eval o).run Try.prog W = .ok (.value (.slice (some ⟨W.heap.size, 0, none⟩) 0 0)) (W.alloc (.cells #[] 123)))
    (h : ∀ v1 w1, Aside0 (NO w1 W.heap.size ok v1 []) → Aside0 (Below W.heap.size W w1) → Aside0 (W.grownBy w1 none) → Kc (a.put o.dst v1) w1) : if Region.wanted o (yielded ops a.tmps) = true then Oper.wp Try.prog o a W Kc Q else Kc (a.put o.dst undef) W :=
  Kd.N_lit_step k123 (w0 := W) W.heap.size 123 hw hd (xs := ([] : List S123)) (inner := []) (ok := ok) (okp := fun _ => False) hrun (Reps.none _ _) (fun _ hk => hk.elim) (hok _ (Nat.le_refl _)) (Below.refl _ _) (Nat.le_refl _) (by simp) (fun v1 w1 h1 h2 h3 _ => h v1 w1 ⟨h1⟩ ⟨h2⟩ ⟨h3⟩)
/-- '[]Do{o}'. -/
theorem lit1_step {W : World} {cs : Array Value} {t : TypeId} (hw : Region.wanted o (yielded ops a.tmps) = true)
    (hrun : (execOp a.eval o).run Try.prog W = .ok (.value (.slice (some ⟨W.heap.size, 0, none⟩) 1 1)) (W.alloc (.cells cs t (0, 0))))
    (h : ∀ g w1, Aside0 (g = W.heap.size) → Aside0 (w1.heap[g]? = some (.cells cs t (0, 0))) → Aside0 (Below W.heap.size W w1) → Aside0 (W.grownBy w1 none) → Kc (a.put o.dst (.slice (some ⟨g, 0, none⟩) 1 1)) w1) : if Region.wanted o (yielded ops a.tmps) = true then Oper.wp Try.prog o a W Kc Q else Kc (a.put o.dst undef) W :=
  event_step hw hrun (h _ _ ⟨rfl⟩ ⟨blk_new W _⟩ ⟨below_alloc (Below.refl _ _) _⟩ ⟨World.grownBy_alloc W _ none⟩)
/-- 'append(v, ys...)' on operations. -/
theorem app_ops_step {w0 W : World} (base : Nat) (hw : Region.wanted o (yielded ops a.tmps) = true) (s x : Operand) (ho : o.op = .call { callee := .builtin .append, args := #[s, x], argTypes := #[51, 51] })
    (v : Value) (xs ys : List S123) (A : Option Addr) (m c : Nat) (ok okp : Nat → Prop) (hs : a.eval s = v) (hx : a.eval x = .slice A m c)
    (HO : NO W base ok v xs) (HR : Kd.F k123 W okp A m ys) (hokp : ∀ k, okp k → ok k ∧ some k ≠ v.ownBlock) (hfresh : ∀ k, W.heap.size ≤ k → ok k)
    (HB : Below base w0 W) (hbase : base ≤ W.heap.size) (hl : xs.length + m ≤ 2199023255552)
    (h : ∀ v1 w1, Aside0 (NO w1 base ok v1 (xs ++ ys)) → Aside0 (Below base w0 w1) → Aside0 (W.grownBy w1 v.ownBlock) → Aside0 (v1.ownBlock = v.ownBlock ∨ ∃ b, v1.ownBlock = some b ∧ W.heap.size ≤ b) → Kc (a.put o.dst v1) w1) :
    if Region.wanted o (yielded ops a.tmps) = true then Oper.wp Try.prog o a W Kc Q else Kc (a.put o.dst undef) W :=
  Kd.N_append_rows_step k123 base hw s x 51 123 (.agg #[(.int .i64 0), (.string ⟨#[]⟩), (.string ⟨#[]⟩), (.slice none 0 0)]) 64 ho Try.underlying51 info123 rfl (by decide) (by decide) v xs ys A m c ok okp hs hx HO HR hokp hfresh HB hbase (by omega)
    (fun v1 w1 h1 h2 h3 h4 => h v1 w1 ⟨h1⟩ ⟨h2⟩ ⟨h3⟩ ⟨h4⟩)
end
/-- A block with one operation, as a row that is read. -/
theorem F_do {w : World} {ok : Nat → Prop} {g : Nat} {o : S123} {B : Option Addr} {d : Nat} (hb : w.heap[g]? = some (.cells (doC o B d) 123 (0, 0))) (hg : ok g) (hd : o.f3.length ≤ d) (hF : Kd.F (Kd.int .u8) w ok B o.f3.length o.f3) : Kd.F k123 w ok (some ⟨g, 0, none⟩) 1 [o] := by
  intro W' hW
  have hb' : W'.heap[g]? = some (.cells (doC o B d) 123 (0, 0)) := (hW g hg (blk_lt hb)).trans hb
  refine ⟨rfl, by omega, fun _ => ⟨_, rfl, fun j p hj => ?_⟩⟩
  rcases j with _ | j
  · simp at hj
    subst hj
    refine ⟨_, rfl, k123_mk W' o hd (hF W' hW), fun i v hi => ?_⟩
    show W'.cell? (Addr.add ⟨g, 0, none⟩ (0 * 4 + i)) = _
    rw [show Addr.add ⟨g, 0, none⟩ (0 * 4 + i) = ⟨g, i, none⟩ from by simp [Addr.add, eq_comm], blk_cell hb' i]
    rw [← hi]
    simp [doC]
  · simp at hj
set_option maxHeartbeats 2000000 in
set_option maxRecDepth 100000 in
theorem buffered_calls (ok : Nat → Prop) (A : Option Addr) (c : Nat) (l : List S109) (A' : Option Addr) (c' : Nat) (ops : List S123) (o : S123) (B : Option Addr) (d : Nat) (w : World) (hok : ∀ k, w.heap.size ≤ k → ok k) (hV : VF w ok (.slice A l.length c) l)
    (hO : VO w ok (.slice A' ops.length c') ops) (hd : o.f3.length ≤ d) (hF : Kd.F (Kd.int .u8) w ok B o.f3.length o.f3) (hl : ops.length + 1 ≤ 2199023255552) :
    Calls Try.prog 91 #[dkV A l.length c A' ops.length c', doV o B d] w (DkPost w ok l (ops ++ [o])) := by
  obtain ⟨wb, hwb⟩ : ∃ wb, wb = ((w.alloc (.cells #[.slice A l.length c, .slice A' ops.length c'] 53)).alloc (.cells (doC o B d) 123)).alloc dk2 := ⟨_, rfl⟩
  have hW : Below w.heap.size w wb := by rw [hwb]; exact below_alloc (below_alloc (below_alloc (Below.refl _ _) _) _) _
  have hsz : wb.heap.size = w.heap.size + 1 + 1 + 1 := by rw [hwb, alloc_size, alloc_size, alloc_size]
  have hb2 : wb.heap[w.heap.size + 1 + 1]? = some dk2 := by
    have := blk_new ((w.alloc (.cells #[.slice A l.length c, .slice A' ops.length c'] 53)).alloc (.cells (doC o B d) 123)) dk2
    rw [alloc_size, alloc_size] at this
    rw [hwb]; exact this
  have hb1 : wb.heap[w.heap.size + 1]? = some (.cells (doC o B d) 123 (0, 0)) := by
    have := blk_new (w.alloc (.cells #[.slice A l.length c, .slice A' ops.length c'] 53)) (.cells (doC o B d) 123)
    rw [alloc_size] at this
    rw [hwb]
    exact (Below.heap_alloc _ _ _ (by rw [alloc_size, alloc_size]; omega)).trans this
  have hb0 : wb.heap[w.heap.size]? = some (.cells #[.slice A l.length c, .slice A' ops.length c'] 53 (0, 0)) := by
    have := blk_new w (.cells #[.slice A l.length c, .slice A' ops.length c'] 53)
    rw [hwb]
    exact (Below.heap_alloc _ _ _ (by rw [alloc_size, alloc_size]; omega)).trans ((Below.heap_alloc _ _ _ (by rw [alloc_size]; omega)).trans this)
  obtain ⟨okk, hokk⟩ : ∃ okk : Nat → Prop, okk = fun k => ok k ∧ (k < w.heap.size ∨ wb.heap.size ≤ k) := ⟨_, rfl⟩
  have HK1 := Aside0.mk (show ∀ k, wb.heap.size ≤ k → okk k by rw [hokk]; exact fun k hk => ⟨hok k (by omega), .inr hk⟩)
  have HK2 := Aside0.mk (show ∀ k, ok k ∧ k < w.heap.size → okk k ∧ k < wb.heap.size by rw [hokk]; exact fun k hk => ⟨⟨hk.1, .inl hk.2⟩, by omega⟩)
  have HK3 := Aside0.mk (show ∀ k, okk k → ok k ∧ k ≠ w.heap.size ∧ k ≠ w.heap.size + 1 + 1 by rw [hokk]; exact fun k hk => ⟨hk.1, by omega, by omega⟩)
  have HO := Aside0.mk (fun (W : World) (hB : Below wb.heap.size wb W) => Kd.F_mono (Kd.V_F (Kd.V_old hO (below_then hW hW.size hB))) HK2.out)
  have HF := Aside0.mk (fun (W : World) (hB : Below wb.heap.size wb W) => Kd.F_mono (Kd.F_old hF (below_then hW hW.size hB)) HK2.out)
  have HV := Aside0.mk (fun (W : World) (hB : Below w.heap.size w W) => Kd.V_mono (Kd.V_old hV hB) (fun _ hk => hk.1))
  have hSS : ∀ w' : World, Below wb.heap.size wb w' → (w'.cell? ⟨w.heap.size, 1, none⟩ = some (.slice A' ops.length c') ∧ w'.cell? ⟨w.heap.size + 1, 0, none⟩ = some (.int .i64 o.f0) ∧ w'.cell? ⟨w.heap.size + 1, 1, none⟩ = some (.string o.f1) ∧ w'.cell? ⟨w.heap.size + 1, 2, none⟩ = some (.string o.f2) ∧ w'.cell? ⟨w.heap.size + 1, 3, none⟩ = some (.slice B o.f3.length d)) := fun w' hB => ⟨(blk_cell ((hB.block _ (blk_lt hb0)).trans hb0) 1).trans rfl, (blk_cell ((hB.block _ (blk_lt hb1)).trans hb1) 0).trans rfl, (blk_cell ((hB.block _ (blk_lt hb1)).trans hb1) 1).trans rfl, (blk_cell ((hB.block _ (blk_lt hb1)).trans hb1) 2).trans rfl, (blk_cell ((hB.block _ (blk_lt hb1)).trans hb1) 3).trans rfl⟩
  have HS := Aside0.mk hSS
  have HB0 := Aside0.mk hb0
  have HB2 := Aside0.mk hb2
  have HW := Aside0.mk hW
  have HWB := Aside0.mk hwb
  have hu53 := Try.underlying53
  have hu123 := Try.underlying123
  clear hV hO hF hSS hb0 hb1 hb2 hW hwb hokk hok
  go_enter Try.func91, Try.ntmps91
  go_wp2_with fail
  rw [← HWB.out]
  refine start_ (n := 9) (S := fun w' => (w'.cell? ⟨w.heap.size, 1, none⟩ = some (.slice A' ops.length c') ∧ w'.cell? ⟨w.heap.size + 1, 0, none⟩ = some (.int .i64 o.f0) ∧ w'.cell? ⟨w.heap.size + 1, 1, none⟩ = some (.string o.f1) ∧ w'.cell? ⟨w.heap.size + 1, 2, none⟩ = some (.string o.f2) ∧ w'.cell? ⟨w.heap.size + 1, 3, none⟩ = some (.slice B o.f3.length d))) (ds := [8]) #[false, false, false, false, false, false, false, false, false] (by kernel_rfl) rfl rfl ?_ (fun hHeld => ?_)
  · exact HS.out _ (below_drew (Below.refl _ _))
  refine pure_ (i := 1) (N := some 6) (v := ?_) (a' := ?_) #[false, true, false, false, false, false, false, false, false] rfl rfl (by kernel_rfl) (fun _ _ _ h => h) (Or.inl ⟨by rfl, ?_⟩) ?_ ?_
  rotate_left
  · intro w'
    go_simp
    with_reducible rfl
  rotate_left
  · simp only [Act.put, List.setIfInBounds_toArray, List.set_cons_zero, List.set_cons_succ, i64_w, i32_w]
    rfl
  refine take_ (i := 2) (N := some 7) (v := ?_) (a' := ?_) #[false, true, true, false, false, false, false, false, false] rfl rfl (by kernel_rfl) (fun _ _ _ h => h) (Or.inl ⟨by rfl, ?_⟩) hHeld ?_ ?_
  rotate_left
  · rintro w' ⟨s0, s1, s2, s3, s4⟩
    go_simp
    with_reducible rfl
  rotate_left
  · simp only [Act.put, List.setIfInBounds_toArray, List.set_cons_zero, List.set_cons_succ, i64_w, i32_w]
    rfl
  refine take_ (i := 4) (N := some 9) (v := ?_) (a' := ?_) #[false, true, true, false, true, false, false, false, false] rfl rfl (by kernel_rfl) (fun _ _ _ h => h) (Or.inl ⟨by rfl, ?_⟩) hHeld ?_ ?_
  rotate_left
  · rintro w' ⟨s0, s1, s2, s3, s4⟩
    go_simp
    with_reducible rfl
  rotate_left
  · simp only [Act.put, List.setIfInBounds_toArray, List.set_cons_zero, List.set_cons_succ, i64_w, i32_w]
    rfl
  have HD := Aside0.mk (below_drew (Below.refl wb.heap.size wb))
  refine join_ (σ := Value × Value × Value) 3 #[true, true, true, true, true, true, false, false, false] (fun s_ => [(5, s_.1), (8, s_.2.1), (10, s_.2.2)]) (fun (s : Value × Value × Value) w' => NO w' wb.heap.size okk s.2.1 ops ∧ (∃ g, s.2.2 = .slice (some ⟨g, 0, none⟩) 1 1 ∧ wb.heap.size ≤ g ∧ w'.heap[g]? = some (.cells (doC o B d) 123 (0, 0)) ∧ some g ≠ s.2.1.ownBlock) ∧ Below wb.heap.size wb w') ?_ ?_
  rotate_left
  · intro hCont
    refine two_ (i := 0) (j := 5) (Ni := some 5) (Nj := some 10) #[true, true, true, false, true, false, false, false, false] #[false, true, true, false, true, true, false, false, false] rfl rfl rfl rfl (by kernel_rfl) (by decide) (by decide) (fun K hK => ?_) (fun K hK => ?_)
    · skip
      refine lit0_step (N' := 5) (ok := okk) (fun k hk => HK1.out k (Nat.le_trans HD.out.size hk)) (by rfl) (by rfl) (by first | (go_simp; done) | (go_simp; rfl)) ?_
      intro v5 w1 HN5 HB5 HG5
      have HBL := Aside0.mk (below_then HD.out HD.out.size HB5.out)
      have HNL := Aside0.mk (Kd.N_lower HN5.out HD.out.size)
      have hn5 := Kd.N_base HN5.out
      refine hK.out _ _ (HS.out _ HBL.out) (fun _ => ?_)
      clear hK K
      refine norm_ (a' := ?_) ?_ ?_
      rotate_left
      · show Act.put _ (some 5) _ = _
        simp only [Act.put, List.setIfInBounds_toArray, List.set_cons_zero, List.set_cons_succ, i64_w, i32_w]
        rfl
      refine two_ (i := 3) (j := 5) (Ni := some 8) (Nj := some 10) #[true, true, true, true, true, false, false, false, false] #[true, true, true, false, true, true, false, false, false] rfl rfl rfl rfl (by kernel_rfl) (by decide) (by decide) (fun K hK => ?_) (fun K hK => ?_)
      · skip
        refine app_ops_step (w0 := wb) wb.heap.size (by rfl) (.tmp 5) (.tmp 7) (by rfl) v5 [] ops A' _ c' okk _ rfl rfl HNL.out (HO.out _ HBL.out) (fun k hk => ⟨hk.1, fun he => by have := Kd.N_base HNL.out k he.symm; have := hk.2; omega⟩) (fun k hk => HK1.out k (Nat.le_trans HBL.out.size hk)) HBL.out HBL.out.size (by simp only [List.length_nil]; omega) ?_
        intro v8 w2 HN8 HB8 HG8 HA8
        refine hK.out _ _ (HS.out _ HB8.out) (fun _ => ?_)
        clear hK K
        refine norm_ (a' := ?_) ?_ ?_
        rotate_left
        · show Act.put _ (some 8) _ = _
          simp only [Act.put, List.setIfInBounds_toArray, List.set_cons_zero, List.set_cons_succ, i64_w, i32_w]
          rfl
        refine one_ (i := 5) (N := some 10) #[true, true, true, true, true, true, false, false, false] rfl rfl (by kernel_rfl) (by decide) (fun K hK => ?_)
        refine lit1_step (cs := doC o B d) (t := 123) (by rfl) (by first | (go_simp; done) | (go_simp; rfl)) ?_
        intro g w3 HG1 HG2 HB10 HG10
        have HBM := Aside0.mk (below_then HB8.out HB8.out.size HB10.out)
        have hg1 := HG1.out
        refine hK.out _ _ (HS.out _ HBM.out) (fun _ => ?_)
        clear hK K
        refine norm_ (a' := ?_) ?_ ?_
        rotate_left
        · show Act.put _ (some 10) _ = _
          simp only [Act.put, List.setIfInBounds_toArray, List.set_cons_zero, List.set_cons_succ, i64_w, i32_w]
          rfl
        exact norm_ (by simp only [putAll, Act.put, List.setIfInBounds_toArray, List.set_cons_zero, List.set_cons_succ]) (hCont (v5, v8, .slice (some ⟨g, 0, none⟩) 1 1) _ ⟨Kd.N_below HN8.out HB10.out, ⟨g, rfl, by have := HB8.out.size; omega, HG2.out, fun he => by have := Kd.N_lt HN8.out g he.symm; omega⟩, HBM.out⟩)
      · skip
        refine lit1_step (cs := doC o B d) (t := 123) (by rfl) (by first | (go_simp; done) | (go_simp; rfl)) ?_
        intro g w2 HG1 HG2 HB10 HG10
        have HBM := Aside0.mk (below_then HBL.out HBL.out.size HB10.out)
        have hg1 := HG1.out
        refine hK.out _ _ (HS.out _ HBM.out) (fun _ => ?_)
        clear hK K
        refine norm_ (a' := ?_) ?_ ?_
        rotate_left
        · show Act.put _ (some 10) _ = _
          simp only [Act.put, List.setIfInBounds_toArray, List.set_cons_zero, List.set_cons_succ, i64_w, i32_w]
          rfl
        refine one_ (i := 3) (N := some 8) #[true, true, true, true, true, true, false, false, false] rfl rfl (by kernel_rfl) (by decide) (fun K hK => ?_)
        have hn5g : some g ≠ v5.ownBlock := fun he => by have := Kd.N_lt HNL.out g he.symm; omega
        refine app_ops_step (w0 := wb) wb.heap.size (by rfl) (.tmp 5) (.tmp 7) (by rfl) v5 [] ops A' _ c' okk _ rfl rfl (Kd.N_below HNL.out HB10.out) (HO.out _ HBM.out) (fun k hk => ⟨hk.1, fun he => by have := Kd.N_base HNL.out k he.symm; have := hk.2; omega⟩) (fun k hk => HK1.out k (Nat.le_trans HBM.out.size hk)) HBM.out HBM.out.size (by simp only [List.length_nil]; omega) ?_
        intro v8 w3 HN8 HB8 HG8 HA8
        refine hK.out _ _ (HS.out _ HB8.out) (fun _ => ?_)
        clear hK K
        refine norm_ (a' := ?_) ?_ ?_
        rotate_left
        · show Act.put _ (some 8) _ = _
          simp only [Act.put, List.setIfInBounds_toArray, List.set_cons_zero, List.set_cons_succ, i64_w, i32_w]
          rfl
        exact norm_ (by simp only [putAll, Act.put, List.setIfInBounds_toArray, List.set_cons_zero, List.set_cons_succ]) (hCont (v5, v8, .slice (some ⟨g, 0, none⟩) 1 1) _ ⟨HN8.out, ⟨g, rfl, by have := HBL.out.size; omega, (HG8.out.block g (blk_lt HG2.out) hn5g).trans HG2.out, fun he => by rcases HA8.out with h | ⟨b, h, hb⟩; exact hn5g (he.trans h); have := blk_lt HG2.out; have e := he.trans h; injection e with e; omega⟩, HB8.out⟩)
    · skip
      refine lit1_step (cs := doC o B d) (t := 123) (by rfl) (by first | (go_simp; done) | (go_simp; rfl)) ?_
      intro g w1 HG1 HG2 HB10 HG10
      have HBM := Aside0.mk (below_then HD.out HD.out.size HB10.out)
      have hg1 := HG1.out
      refine hK.out _ _ (HS.out _ HBM.out) (fun _ => ?_)
      clear hK K
      refine norm_ (a' := ?_) ?_ ?_
      rotate_left
      · show Act.put _ (some 10) _ = _
        simp only [Act.put, List.setIfInBounds_toArray, List.set_cons_zero, List.set_cons_succ, i64_w, i32_w]
        rfl
      refine one_ (i := 0) (N := some 5) #[true, true, true, false, true, true, false, false, false] rfl rfl (by kernel_rfl) (by decide) (fun K hK => ?_)
      refine lit0_step (N' := 5) (ok := okk) (fun k hk => HK1.out k (Nat.le_trans HBM.out.size hk)) (by rfl) (by rfl) (by first | (go_simp; done) | (go_simp; rfl)) ?_
      intro v5 w2 HN5 HB5 HG5
      have HBL := Aside0.mk (below_then HBM.out HBM.out.size HB5.out)
      have HNL := Aside0.mk (Kd.N_lower HN5.out HBM.out.size)
      have hn5 := Kd.N_base HN5.out
      refine hK.out _ _ (HS.out _ HBL.out) (fun _ => ?_)
      clear hK K
      refine norm_ (a' := ?_) ?_ ?_
      rotate_left
      · show Act.put _ (some 5) _ = _
        simp only [Act.put, List.setIfInBounds_toArray, List.set_cons_zero, List.set_cons_succ, i64_w, i32_w]
        rfl
      have hn5g : some g ≠ v5.ownBlock := fun he => by have := hn5 g he.symm; have := blk_lt HG2.out; omega
      have HG2' := Aside0.mk ((HG5.out.block g (blk_lt HG2.out) (by simp)).trans HG2.out)
      refine one_ (i := 3) (N := some 8) #[true, true, true, true, true, true, false, false, false] rfl rfl (by kernel_rfl) (by decide) (fun K hK => ?_)
      refine app_ops_step (w0 := wb) wb.heap.size (by rfl) (.tmp 5) (.tmp 7) (by rfl) v5 [] ops A' _ c' okk _ rfl rfl HNL.out (HO.out _ HBL.out) (fun k hk => ⟨hk.1, fun he => by have := Kd.N_base HNL.out k he.symm; have := hk.2; omega⟩) (fun k hk => HK1.out k (Nat.le_trans HBL.out.size hk)) HBL.out HBL.out.size (by simp only [List.length_nil]; omega) ?_
      intro v8 w3 HN8 HB8 HG8 HA8
      refine hK.out _ _ (HS.out _ HB8.out) (fun _ => ?_)
      clear hK K
      refine norm_ (a' := ?_) ?_ ?_
      rotate_left
      · show Act.put _ (some 8) _ = _
        simp only [Act.put, List.setIfInBounds_toArray, List.set_cons_zero, List.set_cons_succ, i64_w, i32_w]
        rfl
      exact norm_ (by simp only [putAll, Act.put, List.setIfInBounds_toArray, List.set_cons_zero, List.set_cons_succ]) (hCont (v5, v8, .slice (some ⟨g, 0, none⟩) 1 1) _ ⟨HN8.out, ⟨g, rfl, by rw [hg1]; exact Nat.le_refl _, (HG8.out.block g (blk_lt HG2'.out) hn5g).trans HG2'.out, fun he => by rcases HA8.out with h | ⟨b, h, hb⟩; exact hn5g (he.trans h); have := blk_lt HG2'.out; have e := he.trans h; injection e with e; omega⟩, HB8.out⟩)
  rintro ⟨v5, v8, v10⟩ w5 ⟨hN, ⟨g, rfl, hg1, hg2, hg3⟩, hB⟩
  refine norm_ (a' := ?_) ?_ ?_
  rotate_left
  · simp only [putAll, Act.put, List.setIfInBounds_toArray, List.set_cons_zero, List.set_cons_succ]
    rfl
  replace hN : NO w5 wb.heap.size okk v8 ops := hN
  replace hg3 : some g ≠ v8.ownBlock := hg3
  have HN := Aside0.mk hN
  have HB5 := Aside0.mk hB
  have HR := Aside0.mk (F_do (w := w5) (ok := fun k => okk k ∧ (k < wb.heap.size ∨ k = g)) hg2 ⟨HK1.out g hg1, .inr rfl⟩ hd (Kd.F_mono (HF.out w5 hB) (fun k hk => ⟨hk.1, .inl hk.2⟩)))
  clear hN hB hg2
  refine one_ (i := 6) (N := some 11) #[true, true, true, true, true, true, true, false, false] rfl rfl (by kernel_rfl) (by decide) (fun K hK => ?_)
  refine app_ops_step (w0 := wb) wb.heap.size (by rfl) (.tmp 8) (.tmp 10) (by rfl) v8 ops [o] (some ⟨g, 0, none⟩) 1 1 okk _ rfl rfl HN.out HR.out (fun k hk => ⟨hk.1, fun he => by rcases hk.2 with h | h; have := Kd.N_base HN.out k he.symm; omega; exact hg3 (h ▸ he)⟩) (fun k hk => HK1.out k (Nat.le_trans HB5.out.size hk)) HB5.out HB5.out.size hl ?_
  intro v11 w6 HN6 HB6 HG6 HA6
  obtain ⟨A6, c6, rfl⟩ := Kd.N_slice HN6.out
  refine hK.out _ _ (HS.out _ HB6.out) (fun _ => ?_)
  clear hK K HN HR HG6 HA6 hg3
  refine norm_ (a' := ?_) ?_ ?_
  rotate_left
  · show Act.put _ (some 11) _ = _
    simp only [Act.put, List.setIfInBounds_toArray, List.set_cons_zero, List.set_cons_succ, i64_w, i32_w]
    rfl
  refine pure_ (i := 7) (N := some 12) (v := ?_) (a' := ?_) #[true, true, true, true, true, true, true, true, false] rfl rfl (by kernel_rfl) (fun _ _ _ h => h) (Or.inl ⟨by rfl, ?_⟩) ?_ ?_
  rotate_left
  · intro w'
    go_simp
    with_reducible rfl
  rotate_left
  · simp only [Act.put, List.setIfInBounds_toArray, List.set_cons_zero, List.set_cons_succ, i64_w, i32_w]
    rfl
  refine last_ (i := 8) (N := none) #[true, true, true, true, true, true, true, true, true] rfl rfl (by kernel_rfl) (by decide) (fun K hK => ?_)
  have hb0 := (HB6.out.block _ (blk_lt HB0.out)).trans HB0.out
  have hb2 := (HB6.out.block _ (blk_lt HB2.out)).trans HB2.out
  have HB0' := Aside0.mk hb0
  have HB2' := Aside0.mk hb2
  have hz0 : w6.cell? ⟨w.heap.size, 0, none⟩ = some (.slice A l.length c) := (blk_cell hb0 0).trans rfl
  have hz1 : w6.cell? ⟨w.heap.size, 1, none⟩ = some (.slice A' ops.length c') := (blk_cell hb0 1).trans rfl
  have hf0 := blk_frozen hb0 0
  have hf1 := blk_frozen hb0 1
  have hy0 : w6.cell? ⟨w.heap.size + 1 + 1, 0, none⟩ = some (.slice none 0 0) := (blk_cell hb2 0).trans rfl
  have hy1 : w6.cell? ⟨w.heap.size + 1 + 1, 1, none⟩ = some (.slice none 0 0) := (blk_cell hb2 1).trans rfl
  have hfy0 := blk_frozen hb2 0
  have hfy1 := blk_frozen hb2 1
  clear hb0 hb2
  refine skip_ (w1 := ?_) (by rfl) rfl ?_ ?_
  rotate_left
  · go_simp
    rfl
  refine hK.out _ _ ?_
  clear hK K
  refine done_ (by kernel_rfl) ?_
  have hn1 : ¬ (w.heap.size + 1 + 1 = w.heap.size) := by omega
  have hn2 : ¬ (w.heap.size = w.heap.size + 1 + 1) := by omega
  go_wp2
  have hlen : (ops ++ [o]).length = ops.length + 1 := by simp
  have hn6 := HN6.out
  rw [hlen] at hn6
  refine bodyPost_ret (results_cell_row rfl _ _ (w.heap.size + 1 + 1) 53 #[.slice A l.length c, .slice A6 (ops.length + 1) c6] (0, 0) _ rfl (blk_put2 (blk_far HB2'.out (p := ⟨w.heap.size, 1, none⟩) hn1 _) _ _) Try.underlying53 rfl (by kernel_rfl)) rfl ?_
  have hbf := below_set (j := 1) (v := .slice A6 (ops.length + 1) c6) (below_set (j := 0) (v := .slice A l.length c) (below_set (j := 1) (v := .slice A6 (ops.length + 1) c6) (below_then HW.out HW.out.size HB6.out) (Nat.le_refl w.heap.size)) (show w.heap.size ≤ w.heap.size + 1 + 1 by omega)) (show w.heap.size ≤ w.heap.size + 1 + 1 by omega)
  refine ⟨⟨_, _, rfl, HV.out _ hbf, ?_⟩, hbf⟩
  exact Kd.V_mono (Kd.V_far (Kd.V_far (Kd.V_far (Kd.N_V hn6) (p := ⟨w.heap.size, 1, none⟩) (fun k hk => (HK3.out k hk).2.1) _) (p := ⟨w.heap.size + 1 + 1, 0, none⟩) (fun k hk => (HK3.out k hk).2.2) _) (p := ⟨w.heap.size + 1 + 1, 1, none⟩) (fun k hk => (HK3.out k hk).2.2) _) (fun k hk => (HK3.out k hk).1)
end Go.Proofs.Ytfaniohoplbdoaa.My
/- Names of files. -/
namespace Go.Proofs.Ytfaniohoplbdoaa.My
open Go Go.RowKit Go.Proofs.YtfaniohoplbdoaaW.PrintWords Go.Proofs.YtfaniohoplbdoaaW.PrintLast Go.Proofs.YtfaniohoplbdoaaW.PrintMore Go.Proofs.Ytfaniohoplbdoaa.PDiskActs
set_option linter.unusedVariables false
set_option linter.unusedSimpArgs false
/-- The letters of a name that lie before k are allowed. -/
def Lets (s : ByteArray) (k : Nat) : Prop := ∀ j, j < k → 33 ≤ bt s j ∧ bt s j ≤ 126
def nameOk (s : ByteArray) : Bool := decide (1 ≤ s.size) && decide (s.size ≤ 24) && (List.range s.size).all fun (i : Nat) => decide (33 ≤ bt s i) && decide (bt s i ≤ 126)
theorem nameOk_lets {s : ByteArray} (h : Lets s s.size) : nameOk s = (decide (1 ≤ s.size) && decide (s.size ≤ 24)) := by
  have : (List.range s.size).all (fun (i : Nat) => decide (33 ≤ bt s i) && decide (bt s i ≤ 126)) = true := by
    rw [List.all_eq_true]
    intro j hj
    have := h j (List.mem_range.1 hj)
    simp [this]
  unfold nameOk
  rw [this, Bool.and_true]
theorem nameOk_bad {s : ByteArray} {k : Nat} (hk : k < s.size) (h : ¬ (33 ≤ bt s k ∧ bt s k ≤ 126)) : nameOk s = false := by
  have : (List.range s.size).all (fun (i : Nat) => decide (33 ≤ bt s i) && decide (bt s i ≤ 126)) = false := by
    rw [List.all_eq_false]
    exact ⟨k, List.mem_range.2 hk, by simpa using h⟩
  unfold nameOk
  rw [this, Bool.and_false]
theorem Lets.succ {s : ByteArray} {k : Nat} (h : Lets s k) (h2 : 33 ≤ bt s k ∧ bt s k ≤ 126) : Lets s (k + 1) := by
  intro j hj
  by_cases e : j = k
  · subst e; exact h2
  · exact h j (by omega)
set_option maxHeartbeats 1000000 in
set_option maxRecDepth 100000 in
theorem name_calls (s : ByteArray) (w : World) (hm : s.size ≤ 9223372036854775807) : Calls Try.prog 46 #[.string s] w fun e w' => e = .returned (.bool (nameOk s)) ∧ Drawn0 w w' := by
  go_enter Try.func46, Try.ntmps46
  go_wp2
  go_loopw [3] (fun i wr => ∃ k : Nat, k ≤ s.size ∧ i = .int .i64 k ∧ Aside0 (Lets s k) ∧ Drawn0 w wr) (fun i _ => s.size - (intOf i).toNat)
  case atStart => exact ⟨0, by omega, rfl, ⟨fun j hj => by omega⟩, Drawn0.refl w⟩
  case round =>
    obtain ⟨k, hk, rfl, HL, n, rfl⟩ := hrel
    by_cases hlt : k < s.size
    · have hx : ((s[k]'hlt).toNat : Int) = bt s k := bt_at s (k : Int) (by rw [Int.toNat_natCast]; exact hlt)
      by_cases h1 : bt s k < 33
      · have HN := Aside0.mk (nameOk_bad (s := s) hlt (by omega))
        go_wp2
        go_ret
        exact ⟨by rw [HN.out]; rfl, ⟨_, rfl⟩⟩
      · by_cases h2 : 126 < bt s k
        · have HN := Aside0.mk (nameOk_bad (s := s) hlt (by omega))
          go_wp2
          go_ret
          exact ⟨by rw [HN.out]; rfl, ⟨_, rfl⟩⟩
        · have HN := Aside0.mk (HL.out.succ ⟨by omega, by omega⟩)
          go_wp2
          go_roundw
          case rel => exact ⟨k + 1, by omega, by go_num, HN, ⟨_, rfl⟩⟩
          case measure => simp [intOf]; omega
    · obtain rfl : k = s.size := by omega
      have HN := Aside0.mk (nameOk_lets HL.out)
      by_cases h1 : 1 ≤ s.size
      · go_wp2
        go_ret
        exact ⟨by rw [HN.out]; simp [h1]; omega, ⟨_, rfl⟩⟩
      · go_wp2
        go_ret
        exact ⟨by rw [HN.out]; simp [h1]; done, ⟨_, rfl⟩⟩
theorem bytesWorld_below (w : World) (s : ByteArray) : Below w.heap.size w (Lib.bytesWorld w 5 s) := ⟨rfl, rfl, rfl, by rw [Lib.bytesWorld_size]; omega, fun j hj => Lib.bytesWorld_at_old w 5 s j hj⟩
theorem byte_bt (s : ByteArray) (j : Nat) (hj : j < s.size) : ((s.data.toList.getD j 0).toNat : Int) = bt s j := by
  have h : (j : Int).toNat < s.size := by rw [Int.toNat_natCast]; exact hj
  have e := bt_at s (j : Int) h
  rw [← e]
  simp only [Int.toNat_natCast]
  rw [List.getD_eq_getElem?_getD, Array.getElem?_toList, Array.getElem?_eq_getElem (by exact hj)]
  rfl
set_option maxHeartbeats 1000000 in
set_option maxRecDepth 100000 in
theorem word_calls (s : ByteArray) (w : World) (hm : s.size ≤ 9223372036854775807) : Calls Try.prog 78 #[.string s] w fun e w' => e = .returned (.bool (nameOk s)) ∧ Below w.heap.size w w' := by
  have kc := fun (w : World) => Lib.run_convert_string_bytes (P := Try.prog) w 9 22 5 s Try.underlying9 Try.underlying22 Try.underlying5
  by_cases h0 : s.size = 0
  · have e : s = ⟨#[]⟩ := by
      have : s.data.size = 0 := h0
      cases s with | mk d => simp at this; rw [this]
    subst e
    go_enter Try.func78, Try.ntmps78
    go_wp2
    go_ret
    exact ⟨by rfl, Below.refl _ _⟩
  have hem : s.toList.isEmpty = false := by
    rw [ByteArray.toList_eq]
    cases h : s.data.toList with
    | nil =>
      have : s.data.toList.length = 0 := by rw [h]; rfl
      rw [Array.length_toList] at this
      exact absurd this h0
    | cons => rfl
  by_cases h24 : 24 < s.size
  · have HN := Aside0.mk (show nameOk s = false by unfold nameOk; rw [decide_eq_false (show ¬ s.size ≤ 24 by omega)]; simp)
    go_enter Try.func78, Try.ntmps78
    go_wp2
    go_ret
    exact ⟨by rw [HN.out]; rfl, Below.refl _ _⟩
  · have hbw := bytesWorld_below w s
    have hcell := Lib.bytesWorld_cell w 5 s
    have hkc := kc w
    obtain ⟨W, hW⟩ : ∃ W, W = Lib.bytesWorld w 5 s := ⟨_, rfl⟩
    rw [← hW] at hbw hcell hkc
    have HB := Aside0.mk hbw
    have HC := Aside0.mk hcell
    clear hW hbw hcell kc
    go_enter Try.func78, Try.ntmps78
    go_wp2
    go_loopw [15] (fun i wr => ∃ k : Nat, k ≤ s.size ∧ i = .int .i64 k ∧ Aside0 (Lets s k) ∧ wr = W) (fun i _ => s.size - (intOf i).toNat)
    case atStart => exact ⟨0, by omega, rfl, ⟨fun j hj => by omega⟩, rfl⟩
    case round =>
      obtain ⟨k, hk, rfl, HL, rfl⟩ := hrel
      by_cases hlt : k < s.size
      · have hx : wr.cell? ⟨w.heap.size, k, none⟩ = some (.int .u8 (bt s k)) := by rw [HC.out k hlt, byte_bt s k hlt]
        by_cases h1 : bt s k < 33
        · have HN := Aside0.mk (nameOk_bad (s := s) hlt (by omega))
          go_wp2
          go_ret
          exact ⟨by rw [HN.out]; rfl, HB.out⟩
        · by_cases h2 : 126 < bt s k
          · have HN := Aside0.mk (nameOk_bad (s := s) hlt (by omega))
            go_wp2
            go_ret
            exact ⟨by rw [HN.out]; rfl, HB.out⟩
          · have HN := Aside0.mk (HL.out.succ ⟨by omega, by omega⟩)
            go_wp2
            go_roundw
            case rel => exact ⟨k + 1, by omega, by go_num, HN, trivial⟩
            case measure => simp [intOf]; omega
      · obtain rfl : k = s.size := by omega
        have HN := Aside0.mk (nameOk_lets HL.out)
        go_wp2
        go_ret
        exact ⟨by rw [HN.out]; simp; omega, HB.out⟩
end Go.Proofs.Ytfaniohoplbdoaa.My
/- The reference's Remove, Rename and Append. -/
namespace Go.Proofs.Ytfaniohoplbdoaa.My
open Go Go.RowKit Go.Proofs.YtfaniohoplbdoaaW.PrintWords Go.Proofs.YtfaniohoplbdoaaW.PrintLast Go.Proofs.YtfaniohoplbdoaaW.PrintMore Go.Proofs.Ytfaniohoplbdoaa.PDiskActs
set_option linter.unusedVariables false
set_option linter.unusedSimpArgs false
/-- An operation's result: a disk and an error. -/
abbrev ActPost (w : World) (ok : Nat → Prop) (l : List S109) (ops : List S123) (n : Int) : Ending → World → Prop := fun e w' => (∃ u v, e = .returned (.tuple #[.agg #[u, v], .int .i64 n]) ∧ VF w' ok u l ∧ VO w' ok v ops) ∧ Below w.heap.size w w'
def removeL (l : List S109) (ops : List S123) (nm : ByteArray) : List S123 × Int := if (findL (viewL l ops) nm).isSome then (ops ++ [⟨1, nm, ⟨#[]⟩, []⟩], 0) else (ops, 11)
def renameL (l : List S109) (ops : List S123) (nm tn : ByteArray) : List S123 × Int := if (findL (viewL l ops) nm).isSome then (if nameOk tn then (ops ++ [⟨2, nm, tn, []⟩], 0) else (ops, 8)) else (ops, 11)
def appendL (ops : List S123) (nm : ByteArray) (b : List Int) : List S123 × Int := if nameOk nm then (ops ++ [⟨0, nm, ⟨#[]⟩, b⟩], 0) else (ops, 8)
set_option maxHeartbeats 2000000 in
set_option maxRecDepth 100000 in
theorem remove_calls (ok : Nat → Prop) (A : Option Addr) (c : Nat) (l : List S109) (A' : Option Addr) (c' : Nat) (ops : List S123) (nm : ByteArray) (w : World) (hok : ∀ k, w.heap.size ≤ k → ok k) (hV : VF w ok (.slice A l.length c) l)
    (hO : VO w ok (.slice A' ops.length c') ops) (hl : l.length + ops.length + 1 ≤ 2199023255552) (hs : byF l + byO ops ≤ 140737488351232) :
    Calls Try.prog 81 #[dkV A l.length c A' ops.length c', .string nm] w (ActPost w ok l (removeL l ops nm).1 (removeL l ops nm).2) := by
  obtain ⟨wb, hwb⟩ : ∃ wb, wb = (w.alloc (.cells #[.slice A l.length c, .slice A' ops.length c'] 53)).alloc dk2 := ⟨_, rfl⟩
  have hW : Below w.heap.size w wb := by rw [hwb]; exact below_alloc (below_alloc (Below.refl _ _) _) _
  have hsz : wb.heap.size = w.heap.size + 1 + 1 := by rw [hwb, alloc_size, alloc_size]
  have hb1 : wb.heap[w.heap.size + 1]? = some dk2 := by rw [hwb, ← alloc_size w (.cells #[.slice A l.length c, .slice A' ops.length c'] 53)]; exact blk_new _ _
  have hb0 : wb.heap[w.heap.size]? = some (.cells #[.slice A l.length c, .slice A' ops.length c'] 53 (0, 0)) := by
    have := blk_new w (.cells #[.slice A l.length c, .slice A' ops.length c'] 53)
    rw [hwb]
    exact (Below.heap_alloc _ _ _ (by rw [alloc_size]; omega)).trans this
  have HB0 := Aside0.mk (fun (W : World) (hB : Below wb.heap.size wb W) => (hB.block _ (blk_lt hb0)).trans hb0)
  have HB1 := Aside0.mk (fun (W : World) (hB : Below wb.heap.size wb W) => (hB.block _ (blk_lt hb1)).trans hb1)
  have HV := Aside0.mk (fun (W : World) (hB : Below wb.heap.size wb W) => (Kd.V_below (Kd.V_elderB hV (w.heap.size + 1) (by omega)) (below_then hW hW.size hB) : VF W (fun k => ok k ∧ k ≠ w.heap.size + 1) (.slice A l.length c) l))
  have HO := Aside0.mk (fun (W : World) (hB : Below wb.heap.size wb W) => (Kd.V_below (Kd.V_elderB hO (w.heap.size + 1) (by omega)) (below_then hW hW.size hB) : VO W (fun k => ok k ∧ k ≠ w.heap.size + 1) (.slice A' ops.length c') ops))
  have HOK := Aside0.mk (fun (W : World) (hB : Below wb.heap.size wb W) => (fun k hk => ⟨hok k (by have := hB.size; omega), by have := hB.size; omega⟩ : ∀ k, W.heap.size ≤ k → ok k ∧ k ≠ w.heap.size + 1))
  have HWW := Aside0.mk (fun (W : World) (hB : Below wb.heap.size wb W) => below_then hW hW.size hB)
  have hcl := (VF.reads hV).2.1
  have hcf := (VF.reads hV).2.2
  have hco := (Kd.V_reads' hO).2.2
  have HRd := Aside0.mk (fun nm => read_calls A c l A' c' ops nm wb hcl (Kd.C_below hcf hW) (Kd.C_below hco hW) (by omega) hs)
  have HWB := Aside0.mk hwb
  have HSZ := Aside0.mk hsz
  have hu53 := Try.underlying53
  have hu123 := Try.underlying123
  clear hwb hW hsz hb0 hb1 hV hO hok hcl hcf hco
  have HRD := Aside0.mk (HRd.out nm)
  clear HRd
  unfold removeL
  cases hq : findL (viewL l ops) nm with
  | none =>
    rw [hq] at HRD
    clear hq
    simp only [Option.isSome_some, Option.isSome_none, if_true, Bool.false_eq_true, if_false]
    go_enter Try.func81, Try.ntmps81
    go_wp2_with (first | (go_at_call 66; rw [← HWB.out]; with_reducible refine HRD.out.mono ?_; rintro e w1 ⟨⟨v1, rfl, hr1⟩, hB1⟩; have HB' := Aside0.mk hB1; have HB := Aside0.mk hB1; have hz0 : w1.cell? ⟨w.heap.size, 0, none⟩ = some (.slice A l.length c) := (blk_cell (HB0.out _ hB1) 0).trans rfl; have hz1 : w1.cell? ⟨w.heap.size, 1, none⟩ = some (.slice A' ops.length c') := (blk_cell (HB0.out _ hB1) 1).trans rfl; have hy0 : w1.cell? ⟨w.heap.size + 1, 0, none⟩ = some (.slice none 0 0) := (blk_cell (HB1.out _ hB1) 0).trans rfl; have hy1 : w1.cell? ⟨w.heap.size + 1, 1, none⟩ = some (.slice none 0 0) := (blk_cell (HB1.out _ hB1) 1).trans rfl; have hf0 := blk_frozen (HB1.out _ hB1) 0; have hf1 := blk_frozen (HB1.out _ hB1) 1; clear hr1 hB1) | fail)
    refine bodyPost_ret (results_ct rfl _ _ (w.heap.size + 1) 53 #[.slice A l.length c, .slice A' ops.length c'] (0, 0) _ rfl (blk_put2 (HB1.out _ HB.out) _ _) Try.underlying53 rfl (by kernel_rfl)) rfl ?_
    exact ⟨⟨_, _, rfl, V_set2 (HV.out _ HB.out) _ _ _ _, V_set2 (HO.out _ HB.out) _ _ _ _⟩, below_set (below_set (HWW.out _ HB.out) (by omega)) (by omega)⟩
  | some b =>
    rw [hq] at HRD
    clear hq
    simp only [Option.isSome_some, Option.isSome_none, if_true, Bool.false_eq_true, if_false]
    go_enter Try.func81, Try.ntmps81
    go_wp2_with (first | (go_at_call 66; rw [← HWB.out]; with_reducible refine HRD.out.mono ?_; rintro e w1 ⟨⟨v1, rfl, hr1⟩, hB1⟩; have HB' := Aside0.mk hB1; have HB := Aside0.mk hB1; have hz0 : w1.cell? ⟨w.heap.size, 0, none⟩ = some (.slice A l.length c) := (blk_cell (HB0.out _ hB1) 0).trans rfl; have hz1 : w1.cell? ⟨w.heap.size, 1, none⟩ = some (.slice A' ops.length c') := (blk_cell (HB0.out _ hB1) 1).trans rfl; have hy0 : w1.cell? ⟨w.heap.size + 1, 0, none⟩ = some (.slice none 0 0) := (blk_cell (HB1.out _ hB1) 0).trans rfl; have hy1 : w1.cell? ⟨w.heap.size + 1, 1, none⟩ = some (.slice none 0 0) := (blk_cell (HB1.out _ hB1) 1).trans rfl; have hf0 := blk_frozen (HB1.out _ hB1) 0; have hf1 := blk_frozen (HB1.out _ hB1) 1; clear hr1 hB1) | fail)
    refine (buffered_calls (fun k => ok k ∧ k ≠ w.heap.size + 1) A c l A' c' ops ⟨1, nm, ⟨#[]⟩, []⟩ none 0 w1 (HOK.out _ HB.out) (HV.out _ HB.out) (HO.out _ HB.out) (Nat.le_refl _) (Kd.F_nil _ _ _) (by omega)).mono ?_
    rintro e w2 ⟨⟨u2, v2, rfl, hu2, hv2⟩, hB2⟩
    obtain ⟨A2, c2, rfl⟩ := Kd.V_slice hu2
    obtain ⟨A3, c3, rfl⟩ := Kd.V_slice hv2
    rw [show (ops ++ [(⟨1, nm, ⟨#[]⟩, []⟩ : S123)]).length = ops.length + 1 from by simp] at hv2
    have HU2 := Aside0.mk hu2
    have HV2 := Aside0.mk hv2
    have HB2 := Aside0.mk (below_then HB.out HB.out.size hB2)
    have hz0b : w2.cell? ⟨w.heap.size, 0, none⟩ = some (.slice A l.length c) := (blk_cell (HB0.out _ HB2.out) 0).trans rfl
    have hz1b : w2.cell? ⟨w.heap.size, 1, none⟩ = some (.slice A' ops.length c') := (blk_cell (HB0.out _ HB2.out) 1).trans rfl
    have hy0b : w2.cell? ⟨w.heap.size + 1, 0, none⟩ = some (.slice none 0 0) := (blk_cell (HB1.out _ HB2.out) 0).trans rfl
    have hy1b : w2.cell? ⟨w.heap.size + 1, 1, none⟩ = some (.slice none 0 0) := (blk_cell (HB1.out _ HB2.out) 1).trans rfl
    have hf0b := blk_frozen (HB1.out _ HB2.out) 0
    have hf1b := blk_frozen (HB1.out _ HB2.out) 1
    clear hu2 hv2 hB2
    go_wp2
    refine bodyPost_ret (results_ct rfl _ _ (w.heap.size + 1) 53 #[.slice A2 l.length c2, .slice A3 (ops.length + 1) c3] (0, 0) _ rfl (blk_put2 (HB1.out _ HB2.out) _ _) Try.underlying53 rfl (by kernel_rfl)) rfl ?_
    exact ⟨⟨_, _, rfl, V_set2 HU2.out _ _ _ _, V_set2 HV2.out _ _ _ _⟩, below_set (below_set (HWW.out _ HB2.out) (by omega)) (by omega)⟩
set_option maxHeartbeats 2000000 in
set_option maxRecDepth 100000 in
theorem rename_calls (ok : Nat → Prop) (A : Option Addr) (c : Nat) (l : List S109) (A' : Option Addr) (c' : Nat) (ops : List S123) (nm tn : ByteArray) (w : World) (hok : ∀ k, w.heap.size ≤ k → ok k) (hV : VF w ok (.slice A l.length c) l)
    (hO : VO w ok (.slice A' ops.length c') ops) (hl : l.length + ops.length + 1 ≤ 2199023255552) (hs : byF l + byO ops ≤ 140737488351232) (hm : tn.size ≤ 9223372036854775807) :
    Calls Try.prog 83 #[dkV A l.length c A' ops.length c', .string nm, .string tn] w (ActPost w ok l (renameL l ops nm tn).1 (renameL l ops nm tn).2) := by
  obtain ⟨wb, hwb⟩ : ∃ wb, wb = (w.alloc (.cells #[.slice A l.length c, .slice A' ops.length c'] 53)).alloc dk2 := ⟨_, rfl⟩
  have hW : Below w.heap.size w wb := by rw [hwb]; exact below_alloc (below_alloc (Below.refl _ _) _) _
  have hsz : wb.heap.size = w.heap.size + 1 + 1 := by rw [hwb, alloc_size, alloc_size]
  have hb1 : wb.heap[w.heap.size + 1]? = some dk2 := by rw [hwb, ← alloc_size w (.cells #[.slice A l.length c, .slice A' ops.length c'] 53)]; exact blk_new _ _
  have hb0 : wb.heap[w.heap.size]? = some (.cells #[.slice A l.length c, .slice A' ops.length c'] 53 (0, 0)) := by
    have := blk_new w (.cells #[.slice A l.length c, .slice A' ops.length c'] 53)
    rw [hwb]
    exact (Below.heap_alloc _ _ _ (by rw [alloc_size]; omega)).trans this
  have HB0 := Aside0.mk (fun (W : World) (hB : Below wb.heap.size wb W) => (hB.block _ (blk_lt hb0)).trans hb0)
  have HB1 := Aside0.mk (fun (W : World) (hB : Below wb.heap.size wb W) => (hB.block _ (blk_lt hb1)).trans hb1)
  have HV := Aside0.mk (fun (W : World) (hB : Below wb.heap.size wb W) => (Kd.V_below (Kd.V_elderB hV (w.heap.size + 1) (by omega)) (below_then hW hW.size hB) : VF W (fun k => ok k ∧ k ≠ w.heap.size + 1) (.slice A l.length c) l))
  have HO := Aside0.mk (fun (W : World) (hB : Below wb.heap.size wb W) => (Kd.V_below (Kd.V_elderB hO (w.heap.size + 1) (by omega)) (below_then hW hW.size hB) : VO W (fun k => ok k ∧ k ≠ w.heap.size + 1) (.slice A' ops.length c') ops))
  have HOK := Aside0.mk (fun (W : World) (hB : Below wb.heap.size wb W) => (fun k hk => ⟨hok k (by have := hB.size; omega), by have := hB.size; omega⟩ : ∀ k, W.heap.size ≤ k → ok k ∧ k ≠ w.heap.size + 1))
  have HWW := Aside0.mk (fun (W : World) (hB : Below wb.heap.size wb W) => below_then hW hW.size hB)
  have hcl := (VF.reads hV).2.1
  have hcf := (VF.reads hV).2.2
  have hco := (Kd.V_reads' hO).2.2
  have HRd := Aside0.mk (fun nm => read_calls A c l A' c' ops nm wb hcl (Kd.C_below hcf hW) (Kd.C_below hco hW) (by omega) hs)
  have HWB := Aside0.mk hwb
  have HSZ := Aside0.mk hsz
  have hu53 := Try.underlying53
  have hu123 := Try.underlying123
  clear hwb hW hsz hb0 hb1 hV hO hok hcl hcf hco
  have HRD := Aside0.mk (HRd.out nm)
  clear HRd
  unfold renameL
  cases hq : findL (viewL l ops) nm with
  | none =>
    rw [hq] at HRD
    clear hq
    simp only [Option.isSome_some, Option.isSome_none, if_true, Bool.false_eq_true, if_false]
    go_enter Try.func83, Try.ntmps83
    go_wp2_with (first | (go_at_call 66; rw [← HWB.out]; with_reducible refine HRD.out.mono ?_; rintro e w1 ⟨⟨v1, rfl, hr1⟩, hB1⟩; have HB' := Aside0.mk hB1; have HB := Aside0.mk hB1; have hz0 : w1.cell? ⟨w.heap.size, 0, none⟩ = some (.slice A l.length c) := (blk_cell (HB0.out _ hB1) 0).trans rfl; have hz1 : w1.cell? ⟨w.heap.size, 1, none⟩ = some (.slice A' ops.length c') := (blk_cell (HB0.out _ hB1) 1).trans rfl; have hy0 : w1.cell? ⟨w.heap.size + 1, 0, none⟩ = some (.slice none 0 0) := (blk_cell (HB1.out _ hB1) 0).trans rfl; have hy1 : w1.cell? ⟨w.heap.size + 1, 1, none⟩ = some (.slice none 0 0) := (blk_cell (HB1.out _ hB1) 1).trans rfl; have hf0 := blk_frozen (HB1.out _ hB1) 0; have hf1 := blk_frozen (HB1.out _ hB1) 1; clear hr1 hB1) | fail)
    refine bodyPost_ret (results_ct rfl _ _ (w.heap.size + 1) 53 #[.slice A l.length c, .slice A' ops.length c'] (0, 0) _ rfl (blk_put2 (HB1.out _ HB.out) _ _) Try.underlying53 rfl (by kernel_rfl)) rfl ?_
    exact ⟨⟨_, _, rfl, V_set2 (HV.out _ HB.out) _ _ _ _, V_set2 (HO.out _ HB.out) _ _ _ _⟩, below_set (below_set (HWW.out _ HB.out) (by omega)) (by omega)⟩
  | some b =>
    rw [hq] at HRD
    clear hq
    have HNa := Aside0.mk (fun w => name_calls tn w hm)
    cases hn : nameOk tn with
    | false =>
      rw [hn] at HNa
      clear hn
      simp only [Option.isSome_some, Option.isSome_none, if_true, Bool.false_eq_true, if_false]
      go_enter Try.func83, Try.ntmps83
      go_wp2_with (first | (go_at_call 66; rw [← HWB.out]; with_reducible refine HRD.out.mono ?_; rintro e w1 ⟨⟨v1, rfl, hr1⟩, hB1⟩; have HB' := Aside0.mk hB1; have HB := Aside0.mk hB1; have hz0 : w1.cell? ⟨w.heap.size, 0, none⟩ = some (.slice A l.length c) := (blk_cell (HB0.out _ hB1) 0).trans rfl; have hz1 : w1.cell? ⟨w.heap.size, 1, none⟩ = some (.slice A' ops.length c') := (blk_cell (HB0.out _ hB1) 1).trans rfl; have hy0 : w1.cell? ⟨w.heap.size + 1, 0, none⟩ = some (.slice none 0 0) := (blk_cell (HB1.out _ hB1) 0).trans rfl; have hy1 : w1.cell? ⟨w.heap.size + 1, 1, none⟩ = some (.slice none 0 0) := (blk_cell (HB1.out _ hB1) 1).trans rfl; have hf0 := blk_frozen (HB1.out _ hB1) 0; have hf1 := blk_frozen (HB1.out _ hB1) 1; clear hr1 hB1) | (go_at_call 46; with_reducible refine (HNa.out _).mono ?_; rintro e w2 ⟨rfl, n2, rfl⟩; have HB := Aside0.mk (pw_below_drewN HB'.out n2)) | fail)
      refine bodyPost_ret (results_ct rfl _ _ (w.heap.size + 1) 53 #[.slice A l.length c, .slice A' ops.length c'] (0, 0) _ rfl (blk_put2 (HB1.out _ HB.out) _ _) Try.underlying53 rfl (by kernel_rfl)) rfl ?_
      exact ⟨⟨_, _, rfl, V_set2 (HV.out _ HB.out) _ _ _ _, V_set2 (HO.out _ HB.out) _ _ _ _⟩, below_set (below_set (HWW.out _ HB.out) (by omega)) (by omega)⟩
    | true =>
      rw [hn] at HNa
      clear hn
      simp only [Option.isSome_some, Option.isSome_none, if_true, Bool.false_eq_true, if_false]
      go_enter Try.func83, Try.ntmps83
      go_wp2_with (first | (go_at_call 66; rw [← HWB.out]; with_reducible refine HRD.out.mono ?_; rintro e w1 ⟨⟨v1, rfl, hr1⟩, hB1⟩; have HB' := Aside0.mk hB1; have HB := Aside0.mk hB1; have hz0 : w1.cell? ⟨w.heap.size, 0, none⟩ = some (.slice A l.length c) := (blk_cell (HB0.out _ hB1) 0).trans rfl; have hz1 : w1.cell? ⟨w.heap.size, 1, none⟩ = some (.slice A' ops.length c') := (blk_cell (HB0.out _ hB1) 1).trans rfl; have hy0 : w1.cell? ⟨w.heap.size + 1, 0, none⟩ = some (.slice none 0 0) := (blk_cell (HB1.out _ hB1) 0).trans rfl; have hy1 : w1.cell? ⟨w.heap.size + 1, 1, none⟩ = some (.slice none 0 0) := (blk_cell (HB1.out _ hB1) 1).trans rfl; have hf0 := blk_frozen (HB1.out _ hB1) 0; have hf1 := blk_frozen (HB1.out _ hB1) 1; clear hr1 hB1) | (go_at_call 46; with_reducible refine (HNa.out _).mono ?_; rintro e w2 ⟨rfl, n2, rfl⟩; have HB := Aside0.mk (pw_below_drewN HB'.out n2)) | fail)
      refine (buffered_calls (fun k => ok k ∧ k ≠ w.heap.size + 1) A c l A' c' ops ⟨2, nm, tn, []⟩ none 0 (w1.drewN n2) (HOK.out _ HB.out) (HV.out _ HB.out) (HO.out _ HB.out) (Nat.le_refl _) (Kd.F_nil _ _ _) (by omega)).mono ?_
      rintro e w3 ⟨⟨u2, v2, rfl, hu2, hv2⟩, hB2⟩
      obtain ⟨A2, c2, rfl⟩ := Kd.V_slice hu2
      obtain ⟨A3, c3, rfl⟩ := Kd.V_slice hv2
      rw [show (ops ++ [(⟨2, nm, tn, []⟩ : S123)]).length = ops.length + 1 from by simp] at hv2
      have HU2 := Aside0.mk hu2
      have HV2 := Aside0.mk hv2
      have HB2 := Aside0.mk (below_then HB.out HB.out.size hB2)
      have hz0b : w3.cell? ⟨w.heap.size, 0, none⟩ = some (.slice A l.length c) := (blk_cell (HB0.out _ HB2.out) 0).trans rfl
      have hz1b : w3.cell? ⟨w.heap.size, 1, none⟩ = some (.slice A' ops.length c') := (blk_cell (HB0.out _ HB2.out) 1).trans rfl
      have hy0b : w3.cell? ⟨w.heap.size + 1, 0, none⟩ = some (.slice none 0 0) := (blk_cell (HB1.out _ HB2.out) 0).trans rfl
      have hy1b : w3.cell? ⟨w.heap.size + 1, 1, none⟩ = some (.slice none 0 0) := (blk_cell (HB1.out _ HB2.out) 1).trans rfl
      have hf0b := blk_frozen (HB1.out _ HB2.out) 0
      have hf1b := blk_frozen (HB1.out _ HB2.out) 1
      clear hu2 hv2 hB2
      go_wp2
      refine bodyPost_ret (results_ct rfl _ _ (w.heap.size + 1) 53 #[.slice A2 l.length c2, .slice A3 (ops.length + 1) c3] (0, 0) _ rfl (blk_put2 (HB1.out _ HB2.out) _ _) Try.underlying53 rfl (by kernel_rfl)) rfl ?_
      exact ⟨⟨_, _, rfl, V_set2 HU2.out _ _ _ _, V_set2 HV2.out _ _ _ _⟩, below_set (below_set (HWW.out _ HB2.out) (by omega)) (by omega)⟩
end Go.Proofs.Ytfaniohoplbdoaa.My
/- The reference's Append. -/
namespace Go.Proofs.Ytfaniohoplbdoaa.My
open Go Go.RowKit Go.Proofs.YtfaniohoplbdoaaW.PrintWords Go.Proofs.YtfaniohoplbdoaaW.PrintLast Go.Proofs.YtfaniohoplbdoaaW.PrintMore Go.Proofs.Ytfaniohoplbdoaa.PDiskActs
set_option linter.unusedVariables false
set_option linter.unusedSimpArgs false
theorem appB_step {ops : Array Oper} {o : Oper} {a : Act} {Q : Exit → Act → World → Prop} {Kc : Act → World → Prop} {w0 W : World} (base : Nat) (hw : Region.wanted o (yielded ops a.tmps) = true) (s x : Operand)
    (ho : o.op = .call { callee := .builtin .append, args := #[s, x], argTypes := #[22, 22] }) (v : Value) (xs ys : List Int) (A : Option Addr) (c : Nat) (hs : a.eval s = v) (hx : a.eval x = .slice A ys.length c)
    (HO : RB W base v xs) (HR : CB W A ys) (HB : Below base w0 W) (hbase : base ≤ W.heap.size) (hl : xs.length + ys.length ≤ 140737488355328)
    (h : ∀ (zs : List Int) v1 w1, Aside0 (zs = xs ++ ys) → Aside0 (RB w1 base v1 zs) → Aside0 (Below base w0 w1) → Kc (a.put o.dst v1) w1) : if Region.wanted o (yielded ops a.tmps) = true then Oper.wp Try.prog o a W Kc Q else Kc (a.put o.dst undef) W :=
  Kd.R_append_rows_step (Kd.int .u8) base hw s x 22 5 (.int .u8 0) 1 ho Try.underlying22 info5 rfl (by decide) (by decide) v xs ys A ys.length c (fun _ => True) (fun _ => False) hs hx HO HR (fun _ _ h => h) (fun _ h => h.elim) (fun _ _ => trivial) HB hbase (by omega)
    (fun v1 w1 h1 h2 _ _ => h _ v1 w1 ⟨rfl⟩ ⟨h1⟩ ⟨h2⟩)
theorem litB_step {ops : Array Oper} {o : Oper} {a : Act} {Q : Exit → Act → World → Prop} {Kc : Act → World → Prop} {W : World} (hw : Region.wanted o (yielded ops a.tmps) = true) (ho : o.op = .buildSlice 22 0 #[])
    (h : ∀ v1 w1, Aside0 (RB w1 W.heap.size v1 []) → Aside0 (Below W.heap.size W w1) → Kc (a.put o.dst v1) w1) : if Region.wanted o (yielded ops a.tmps) = true then Oper.wp Try.prog o a W Kc Q else Kc (a.put o.dst undef) W := by
  rw [if_pos hw]
  unfold Oper.wp execOp
  rw [ho]
  go_simp
  exact h _ _ ⟨RB_new W⟩ ⟨below_alloc (Below.refl _ _) _⟩
theorem cell_far {W : World} {g g' i j : Nat} {u : Value} (h : g' ≠ g) : (W.setCell ⟨g, i, none⟩ u).cell? ⟨g', j, none⟩ = W.cell? ⟨g', j, none⟩ := by
  unfold World.cell?
  rw [Below.heap_setCell W ⟨g, i, none⟩ u g' h]
set_option maxHeartbeats 2000000 in
set_option maxRecDepth 100000 in
theorem append_calls (ok : Nat → Prop) (A : Option Addr) (c : Nat) (l : List S109) (A' : Option Addr) (c' : Nat) (ops : List S123) (nm : ByteArray) (B : Option Addr) (d : Nat) (b : List Int) (w : World) (hok : ∀ k, w.heap.size ≤ k → ok k) (hV : VF w ok (.slice A l.length c) l)
    (hO : VO w ok (.slice A' ops.length c') ops) (hl : l.length + ops.length + 1 ≤ 2199023255552) (hs : byF l + byO ops ≤ 140737488351232) (hm : nm.size ≤ 9223372036854775807) (hd : b.length ≤ d) (hC : CB w B b) (hbl : b.length ≤ 140737488351232) :
    Calls Try.prog 82 #[dkV A l.length c A' ops.length c', .string nm, .slice B b.length d] w (ActPost w ok l (appendL ops nm b).1 (appendL ops nm b).2) := by
  obtain ⟨wb, hwb⟩ : ∃ wb, wb = (w.alloc (.cells #[.slice A l.length c, .slice A' ops.length c'] 53)).alloc dk2 := ⟨_, rfl⟩
  have hW : Below w.heap.size w wb := by rw [hwb]; exact below_alloc (below_alloc (Below.refl _ _) _) _
  have hsz : wb.heap.size = w.heap.size + 1 + 1 := by rw [hwb, alloc_size, alloc_size]
  have hb1 : wb.heap[w.heap.size + 1]? = some dk2 := by rw [hwb, ← alloc_size w (.cells #[.slice A l.length c, .slice A' ops.length c'] 53)]; exact blk_new _ _
  have hb0 : wb.heap[w.heap.size]? = some (.cells #[.slice A l.length c, .slice A' ops.length c'] 53 (0, 0)) := by
    have := blk_new w (.cells #[.slice A l.length c, .slice A' ops.length c'] 53)
    rw [hwb]
    exact (Below.heap_alloc _ _ _ (by rw [alloc_size]; omega)).trans this
  have HB0 := Aside0.mk (fun (W : World) (hB : Below wb.heap.size wb W) => (hB.block _ (blk_lt hb0)).trans hb0)
  have HB1 := Aside0.mk (fun (W : World) (hB : Below wb.heap.size wb W) => (hB.block _ (blk_lt hb1)).trans hb1)
  have HV := Aside0.mk (fun (W : World) (hB : Below wb.heap.size wb W) => (Kd.V_below (Kd.V_elderB hV (w.heap.size + 1) (by omega)) (below_then hW hW.size hB) : VF W (fun k => ok k ∧ k ≠ w.heap.size + 1) (.slice A l.length c) l))
  have HO := Aside0.mk (fun (W : World) (hB : Below wb.heap.size wb W) => (Kd.V_below (Kd.V_elderB hO (w.heap.size + 1) (by omega)) (below_then hW hW.size hB) : VO W (fun k => ok k ∧ k ≠ w.heap.size + 1) (.slice A' ops.length c') ops))
  have HOK := Aside0.mk (fun (W : World) (hB : Below wb.heap.size wb W) => (fun k hk => ⟨hok k (by have := hB.size; omega), by have := hB.size; omega⟩ : ∀ k, W.heap.size ≤ k → ok k ∧ k ≠ w.heap.size + 1))
  have HWW := Aside0.mk (fun (W : World) (hB : Below wb.heap.size wb W) => below_then hW hW.size hB)
  have hcl := (VF.reads hV).2.1
  have hcf := (VF.reads hV).2.2
  have hco := (Kd.V_reads' hO).2.2
  have HRd := Aside0.mk (fun nm => read_calls A c l A' c' ops nm wb hcl (Kd.C_below hcf hW) (Kd.C_below hco hW) (by omega) hs)
  have HWB := Aside0.mk hwb
  have HSZ := Aside0.mk hsz
  have hu53 := Try.underlying53
  have hu123 := Try.underlying123
  clear hwb hW hsz hb0 hb1 hV hO hok hcl hcf hco
  have HC := Aside0.mk (fun (W : World) (hB : Below wb.heap.size wb W) => Kd.C_below hC (HWW.out W hB))
  clear HRd hC
  unfold appendL
  have HNa := Aside0.mk (fun w => name_calls nm w hm)
  cases hn : nameOk nm with
  | false =>
    rw [hn] at HNa
    clear hn
    simp only [Option.isSome_some, Option.isSome_none, if_true, Bool.false_eq_true, if_false]
    go_enter Try.func82, Try.ntmps82
    go_wp2_with (first | (go_at_call 46; rw [← HWB.out]; with_reducible refine (HNa.out _).mono ?_; rintro e w1 ⟨rfl, n1, rfl⟩; have HB := Aside0.mk (pw_below_drewN (Below.refl wb.heap.size wb) n1); have hz0 : wb.cell? ⟨w.heap.size, 0, none⟩ = some (.slice A l.length c) := (blk_cell (HB0.out _ (Below.refl _ _)) 0).trans rfl; have hz1 : wb.cell? ⟨w.heap.size, 1, none⟩ = some (.slice A' ops.length c') := (blk_cell (HB0.out _ (Below.refl _ _)) 1).trans rfl; have hy0 : wb.cell? ⟨w.heap.size + 1, 0, none⟩ = some (.slice none 0 0) := (blk_cell (HB1.out _ (Below.refl _ _)) 0).trans rfl; have hy1 : wb.cell? ⟨w.heap.size + 1, 1, none⟩ = some (.slice none 0 0) := (blk_cell (HB1.out _ (Below.refl _ _)) 1).trans rfl; have hf0 := blk_frozen (HB1.out _ (Below.refl _ _)) 0; have hf1 := blk_frozen (HB1.out _ (Below.refl _ _)) 1) | fail)
    refine bodyPost_ret (results_ct rfl _ _ (w.heap.size + 1) 53 #[.slice A l.length c, .slice A' ops.length c'] (0, 0) _ rfl (blk_put2 (HB1.out _ HB.out) _ _) Try.underlying53 rfl (by kernel_rfl)) rfl ?_
    exact ⟨⟨_, _, rfl, V_set2 (HV.out _ HB.out) _ _ _ _, V_set2 (HO.out _ HB.out) _ _ _ _⟩, below_set (below_set (HWW.out _ HB.out) (by omega)) (by omega)⟩
  | true =>
    rw [hn] at HNa
    clear hn
    simp only [Option.isSome_some, Option.isSome_none, if_true, Bool.false_eq_true, if_false]
    go_enter Try.func82, Try.ntmps82
    go_wp2_with (first | (go_at_call 46; rw [← HWB.out]; with_reducible refine (HNa.out _).mono ?_; rintro e w1 ⟨rfl, n1, rfl⟩; have HB := Aside0.mk (pw_below_drewN (Below.refl wb.heap.size wb) n1); have hz0 : wb.cell? ⟨w.heap.size, 0, none⟩ = some (.slice A l.length c) := (blk_cell (HB0.out _ (Below.refl _ _)) 0).trans rfl; have hz1 : wb.cell? ⟨w.heap.size, 1, none⟩ = some (.slice A' ops.length c') := (blk_cell (HB0.out _ (Below.refl _ _)) 1).trans rfl; have hy0 : wb.cell? ⟨w.heap.size + 1, 0, none⟩ = some (.slice none 0 0) := (blk_cell (HB1.out _ (Below.refl _ _)) 0).trans rfl; have hy1 : wb.cell? ⟨w.heap.size + 1, 1, none⟩ = some (.slice none 0 0) := (blk_cell (HB1.out _ (Below.refl _ _)) 1).trans rfl; have hf0 := blk_frozen (HB1.out _ (Below.refl _ _)) 0; have hf1 := blk_frozen (HB1.out _ (Below.refl _ _)) 1) | fail)
    have HSS := Aside0.mk (fun (w' : World) (hB : Below wb.heap.size wb w') => (⟨(blk_cell (HB0.out _ hB) 0).trans rfl, (blk_cell (HB0.out _ hB) 1).trans rfl⟩ : w'.cell? ⟨w.heap.size, 0, none⟩ = some (.slice A l.length c) ∧ w'.cell? ⟨w.heap.size, 1, none⟩ = some (.slice A' ops.length c')))
    refine start_ (n := 9) (S := fun w' => w'.cell? ⟨w.heap.size, 0, none⟩ = some (.slice A l.length c) ∧ w'.cell? ⟨w.heap.size, 1, none⟩ = some (.slice A' ops.length c')) (ds := []) #[false, false, false, false, false, false, false, false, false] (by kernel_rfl) rfl rfl ?_ (fun hHeld => ?_)
    · exact ⟨hz0, hz1⟩
    refine pure_ (i := 1) (N := some 13) (v := ?_) (a' := ?_) #[false, true, false, false, false, false, false, false, false] rfl rfl (by kernel_rfl) (fun _ _ _ h => h) (Or.inl ⟨by rfl, ?_⟩) ?_ ?_
    rotate_left
    · intro w'
      go_simp
      with_reducible rfl
    rotate_left
    · simp only [Act.put, List.setIfInBounds_toArray, List.set_cons_zero, List.set_cons_succ, i64_w, i32_w]
      rfl
    refine pure_ (i := 3) (N := some 15) (v := ?_) (a' := ?_) #[false, true, false, true, false, false, false, false, false] rfl rfl (by kernel_rfl) (fun _ _ _ h => h) (Or.inl ⟨by rfl, ?_⟩) ?_ ?_
    rotate_left
    · intro w'
      go_simp
      with_reducible rfl
    rotate_left
    · simp only [Act.put, List.setIfInBounds_toArray, List.set_cons_zero, List.set_cons_succ, i64_w, i32_w]
      rfl
    refine take_ (i := 0) (N := some 12) (v := ?_) (a' := ?_) #[true, true, false, true, false, false, false, false, false] rfl rfl (by kernel_rfl) (fun _ _ _ h => h) (Or.inl ⟨by rfl, ?_⟩) hHeld ?_ ?_
    rotate_left
    · rintro w' ⟨s0, s1⟩
      go_simp
      with_reducible rfl
    rotate_left
    · simp only [Act.put, List.setIfInBounds_toArray, List.set_cons_zero, List.set_cons_succ, i64_w, i32_w]
      rfl
    have HBd := Aside0.mk (below_drew HB.out)
    clear hz0 hz1 hy0 hy1 hf0 hf1
    refine one_ (i := 2) (N := some 14) #[true, true, true, true, false, false, false, false, false] rfl rfl (by kernel_rfl) (by decide) (fun K hK => ?_)
    refine litB_step (by rfl) (by rfl) ?_
    intro v14 w4 HR14 HW14
    have HB4 := Aside0.mk (below_then HBd.out HBd.out.size HW14.out)
    refine hK.out _ _ (HSS.out _ HB4.out) (fun _ => ?_)
    clear hK K
    refine norm_ (a' := ?_) ?_ ?_
    rotate_left
    · show Act.put _ (some 14) _ = _
      simp only [Act.put, List.setIfInBounds_toArray, List.set_cons_zero, List.set_cons_succ, i64_w, i32_w]
      rfl
    refine one_ (i := 4) (N := some 16) #[true, true, true, true, true, false, false, false, false] rfl rfl (by kernel_rfl) (by decide) (fun K hK => ?_)
    refine appB_step (w0 := wb) wb.heap.size (by rfl) (.tmp 14) (.tmp 15) (by rfl) v14 [] b B _ rfl rfl (Kd.R_lower HR14.out HBd.out.size) (HC.out _ HB4.out) HB4.out HB4.out.size (by simp only [List.length_nil]; omega) ?_
    intro b16 v16 w5 E16 HR16 HB5
    refine hK.out _ _ (HSS.out _ HB5.out) (fun _ => ?_)
    clear hK K HR14 HW14
    obtain ⟨A16, c16, rfl⟩ := Kd.R_slice HR16.out
    have HE := Aside0.mk (show b16 = b by rw [E16.out]; simp)
    have HF := Aside0.mk (RB.foot (ok := fun k => ok k ∧ k ≠ w.heap.size + 1) HR16.out (fun k hk => HOK.out wb (Below.refl _ _) k hk))
    refine norm_ (a' := ?_) ?_ ?_
    rotate_left
    · show Act.put _ (some 16) _ = _
      simp only [Act.put, List.setIfInBounds_toArray, List.set_cons_zero, List.set_cons_succ, i64_w, i32_w]
      rfl
    refine pure_ (i := 5) (N := some 17) (v := ?_) (a' := ?_) #[true, true, true, true, true, true, false, false, false] rfl rfl (by kernel_rfl) (fun _ _ _ h => h) (Or.inl ⟨by rfl, ?_⟩) ?_ ?_
    rotate_left
    · intro w'
      go_simp
      with_reducible rfl
    rotate_left
    · simp only [Act.put, List.setIfInBounds_toArray, List.set_cons_zero, List.set_cons_succ, i64_w, i32_w]
      rfl
    refine one_ (i := 6) (N := some 18) #[true, true, true, true, true, true, true, false, false] rfl rfl (by kernel_rfl) (by decide) (fun K hK => ?_)
    refine goes_ Try.func91 (by kernel_rfl) rfl #[dkV A l.length c A' ops.length c', .agg #[.int .i64 0, .string nm, .string ⟨#[]⟩, .slice A16 b16.length c16]] (by rfl) rfl rfl (by (try simp only [List.map_toArray, List.map_cons, List.map_nil]); first | done | rfl) ?_
    refine (buffered_calls (fun k => ok k ∧ k ≠ w.heap.size + 1) A c l A' c' ops ⟨0, nm, ⟨#[]⟩, b16⟩ A16 c16 w5 (HOK.out _ HB5.out) (HV.out _ HB5.out) (HO.out _ HB5.out) HF.out.2.1 HF.out.2.2 (by omega)).mono ?_
    rintro e w6 ⟨⟨u2, v2, rfl, hu2, hv2⟩, hB2⟩
    obtain ⟨A2, c2, rfl⟩ := Kd.V_slice hu2
    obtain ⟨A3, c3, rfl⟩ := Kd.V_slice hv2
    rw [show (ops ++ [(⟨0, nm, ⟨#[]⟩, b16⟩ : S123)]).length = ops.length + 1 from by simp] at hv2 ⊢
    rw [HE.out] at hv2
    have HU2 := Aside0.mk hu2
    have HV2 := Aside0.mk hv2
    have HB2 := Aside0.mk (below_then HB5.out HB5.out.size hB2)
    refine ⟨_, rfl, hK.out _ _ (HSS.out _ HB2.out) (fun _ => ?_)⟩
    clear hK K hu2 hv2 hB2
    refine norm_ (a' := ?_) ?_ ?_
    rotate_left
    · show Act.put _ (some 18) _ = _
      simp only [Act.put, List.setIfInBounds_toArray, List.set_cons_zero, List.set_cons_succ, i64_w, i32_w]
      rfl
    have hz0b : w6.cell? ⟨w.heap.size, 0, none⟩ = some (.slice A l.length c) := (blk_cell (HB0.out _ HB2.out) 0).trans rfl
    have hz1b : w6.cell? ⟨w.heap.size, 1, none⟩ = some (.slice A' ops.length c') := (blk_cell (HB0.out _ HB2.out) 1).trans rfl
    have hy0b : w6.cell? ⟨w.heap.size + 1, 0, none⟩ = some (.slice none 0 0) := (blk_cell (HB1.out _ HB2.out) 0).trans rfl
    have hy1b : w6.cell? ⟨w.heap.size + 1, 1, none⟩ = some (.slice none 0 0) := (blk_cell (HB1.out _ HB2.out) 1).trans rfl
    have hf0b := blk_frozen (HB1.out _ HB2.out) 0
    have hf1b := blk_frozen (HB1.out _ HB2.out) 1
    refine one_ (i := 7) (N := none) #[true, true, true, true, true, true, true, true, false] rfl rfl (by kernel_rfl) (by decide) (fun K hK => ?_)
    refine skip_ (w1 := ?_) (by rfl) rfl ?_ ?_
    rotate_left
    · go_simp
      rfl
    refine hK.out _ _ ⟨?_, ?_⟩ (fun _ => ?_)
    · rw [cell_far (by omega), cell_far (by omega)]; exact hz0b
    · rw [cell_far (by omega), cell_far (by omega)]; exact hz1b
    clear hK K
    refine pure_ (i := 8) (N := some 7) (v := ?_) (a' := ?_) #[true, true, true, true, true, true, true, true, true] rfl rfl (by kernel_rfl) (fun _ _ _ h => h) (Or.inl ⟨by rfl, ?_⟩) ?_ ?_
    rotate_left
    · intro w'
      go_simp
      with_reducible rfl
    rotate_left
    · simp only [Act.put, List.setIfInBounds_toArray, List.set_cons_zero, List.set_cons_succ, i64_w, i32_w]
      rfl
    refine done_ (by kernel_rfl) ?_
    go_wp2
    refine bodyPost_ret (results_ct rfl _ _ (w.heap.size + 1) 53 #[.slice A2 l.length c2, .slice A3 (ops.length + 1) c3] (0, 0) _ rfl (blk_put2 (HB1.out _ HB2.out) _ _) Try.underlying53 rfl (by kernel_rfl)) rfl ?_
    exact ⟨⟨_, _, rfl, V_set2 HU2.out _ _ _ _, V_set2 HV2.out _ _ _ _⟩, below_set (below_set (HWW.out _ HB2.out) (by omega)) (by omega)⟩
end Go.Proofs.Ytfaniohoplbdoaa.My
/- 'Same' on equal lists of files. -/
namespace Go.Proofs.Ytfaniohoplbdoaa.My
open Go Go.RowKit Go.Proofs.YtfaniohoplbdoaaW.PrintWords Go.Proofs.YtfaniohoplbdoaaW.PrintLast Go.Proofs.YtfaniohoplbdoaaW.PrintMore Go.Proofs.Ytfaniohoplbdoaa.PDiskActs
set_option linter.unusedVariables false
set_option linter.unusedSimpArgs false
set_option maxHeartbeats 2000000 in
set_option maxRecDepth 100000 in
theorem same_true (A : Option Addr) (c : Nat) (A' : Option Addr) (c' : Nat) (l : List S109) (w : World) (hC : CF w A l) (hC' : CF w A' l) :
    Calls Try.prog 67 #[.slice A l.length c, .slice A' l.length c'] w fun e w' => e = .returned (.bool true) ∧ Drawn0 w w' := by
  have hm := Kd.C_max hC
  have HC := Aside0.mk hC
  have HC' := Aside0.mk hC'
  clear hC hC'
  have hu109 := Try.underlying109
  go_enter Try.func67, Try.ntmps67
  go_wp2
  go_loopw [13] (fun i wr => ∃ k : Nat, k ≤ l.length ∧ i = .int .i64 k ∧ Drawn0 w wr) (fun i _ => l.length - (intOf i).toNat)
  case atStart => exact ⟨0, by omega, rfl, Drawn0.refl w⟩
  case round =>
    obtain ⟨k, hk, rfl, n, rfl⟩ := hrel
    by_cases hlt : k < l.length
    · obtain ⟨ad, B, d, rfl, ha0, ha1, hd, hCB⟩ := CF.at_ (Kd.C_drewN HC.out (n + 1)) k hlt
      obtain ⟨ad', B', d', rfl, hb0, hb1, hd', hCB'⟩ := CF.at_ (Kd.C_drewN HC'.out (n + 1)) k hlt
      obtain ⟨y, hy⟩ : ∃ y, y = l[k] := ⟨_, rfl⟩
      rw [← hy] at ha0 ha1 hb0 hb1 hCB hCB' hd hd'
      clear hy
      have hcv := Kd.C_string (P := Try.prog) (A := B) (c := d) Try.underlying22 Try.underlying5 Try.underlying9 hCB
      have hcv' := Kd.C_string (P := Try.prog) (A := B') (c := d') Try.underlying22 Try.underlying5 Try.underlying9 hCB'
      have hne : ((strOfNums y.f1).toList != (strOfNums y.f1).toList) = false := by simp
      have hne0 : (y.f0.toList != y.f0.toList) = false := by simp
      go_wp2
      refine start_ (n := 26) (S := fun w' => w' = w.drewN (n + 1)) (ds := []) #[false, false, false, false, false, false, false, false, false, false, false, false, false, false, false, false, false, false, false, false, false, false, false, false, false, false] (by kernel_rfl) rfl rfl ?_ (fun hHeld => ?_)
      · rfl
      refine pure_ (i := 0) (N := some 16) (v := ?_) (a' := ?_) #[true, false, false, false, false, false, false, false, false, false, false, false, false, false, false, false, false, false, false, false, false, false, false, false, false, false] rfl rfl (by kernel_rfl) (fun _ _ _ h => h) (Or.inl ⟨by rfl, ?_⟩) ?_ ?_
      rotate_left
      · intro w'
        go_simp
        with_reducible rfl
      rotate_left
      · simp only [Act.put, List.setIfInBounds_toArray, List.set_cons_zero, List.set_cons_succ, i64_w, i32_w]
        rfl
      refine pure_ (i := 1) (N := some 17) (v := ?_) (a' := ?_) #[true, true, false, false, false, false, false, false, false, false, false, false, false, false, false, false, false, false, false, false, false, false, false, false, false, false] rfl rfl (by kernel_rfl) (fun _ _ _ h => h) (Or.inl ⟨by rfl, ?_⟩) ?_ ?_
      rotate_left
      · intro w'
        go_simp
        with_reducible rfl
      rotate_left
      · simp only [Act.put, List.setIfInBounds_toArray, List.set_cons_zero, List.set_cons_succ, i64_w, i32_w]
        rfl
      refine pure_ (i := 2) (N := some 18) (v := ?_) (a' := ?_) #[true, true, true, false, false, false, false, false, false, false, false, false, false, false, false, false, false, false, false, false, false, false, false, false, false, false] rfl rfl (by kernel_rfl) (fun _ _ _ h => h) (Or.inl ⟨by rfl, ?_⟩) ?_ ?_
      rotate_left
      · intro w'
        go_simp
        with_reducible rfl
      rotate_left
      · simp only [Act.put, List.setIfInBounds_toArray, List.set_cons_zero, List.set_cons_succ, i64_w, i32_w]
        rfl
      refine pure_ (i := 3) (N := some 19) (v := ?_) (a' := ?_) #[true, true, true, true, false, false, false, false, false, false, false, false, false, false, false, false, false, false, false, false, false, false, false, false, false, false] rfl rfl (by kernel_rfl) (fun _ _ _ h => h) (Or.inl ⟨by rfl, ?_⟩) ?_ ?_
      rotate_left
      · intro w'
        go_simp
        with_reducible rfl
      rotate_left
      · simp only [Act.put, List.setIfInBounds_toArray, List.set_cons_zero, List.set_cons_succ, i64_w, i32_w]
        rfl
      refine take_ (i := 4) (N := some 20) (v := ?_) (a' := ?_) #[true, true, true, true, true, false, false, false, false, false, false, false, false, false, false, false, false, false, false, false, false, false, false, false, false, false] rfl rfl (by kernel_rfl) (fun _ _ _ h => h) (Or.inl ⟨by rfl, ?_⟩) hHeld ?_ ?_
      rotate_left
      · rintro w' rfl
        go_simp
        with_reducible rfl
      rotate_left
      · simp only [Act.put, List.setIfInBounds_toArray, List.set_cons_zero, List.set_cons_succ, i64_w, i32_w]
        rfl
      refine pure_ (i := 5) (N := some 21) (v := ?_) (a' := ?_) #[true, true, true, true, true, true, false, false, false, false, false, false, false, false, false, false, false, false, false, false, false, false, false, false, false, false] rfl rfl (by kernel_rfl) (fun _ _ _ h => h) (Or.inl ⟨by rfl, ?_⟩) ?_ ?_
      rotate_left
      · intro w'
        go_simp
        with_reducible rfl
      rotate_left
      · simp only [Act.put, List.setIfInBounds_toArray, List.set_cons_zero, List.set_cons_succ, i64_w, i32_w]
        rfl
      refine pure_ (i := 6) (N := some 22) (v := ?_) (a' := ?_) #[true, true, true, true, true, true, true, false, false, false, false, false, false, false, false, false, false, false, false, false, false, false, false, false, false, false] rfl rfl (by kernel_rfl) (fun _ _ _ h => h) (Or.inl ⟨by rfl, ?_⟩) ?_ ?_
      rotate_left
      · intro w'
        go_simp
        with_reducible rfl
      rotate_left
      · simp only [Act.put, List.setIfInBounds_toArray, List.set_cons_zero, List.set_cons_succ, i64_w, i32_w]
        rfl
      refine pure_ (i := 7) (N := some 23) (v := ?_) (a' := ?_) #[true, true, true, true, true, true, true, true, false, false, false, false, false, false, false, false, false, false, false, false, false, false, false, false, false, false] rfl rfl (by kernel_rfl) (fun _ _ _ h => h) (Or.inl ⟨by rfl, ?_⟩) ?_ ?_
      rotate_left
      · intro w'
        go_simp
        with_reducible rfl
      rotate_left
      · simp only [Act.put, List.setIfInBounds_toArray, List.set_cons_zero, List.set_cons_succ, i64_w, i32_w]
        rfl
      refine pure_ (i := 8) (N := some 24) (v := ?_) (a' := ?_) #[true, true, true, true, true, true, true, true, true, false, false, false, false, false, false, false, false, false, false, false, false, false, false, false, false, false] rfl rfl (by kernel_rfl) (fun _ _ _ h => h) (Or.inl ⟨by rfl, ?_⟩) ?_ ?_
      rotate_left
      · intro w'
        go_simp
        with_reducible rfl
      rotate_left
      · simp only [Act.put, List.setIfInBounds_toArray, List.set_cons_zero, List.set_cons_succ, i64_w, i32_w]
        rfl
      refine take_ (i := 9) (N := some 25) (v := ?_) (a' := ?_) #[true, true, true, true, true, true, true, true, true, true, false, false, false, false, false, false, false, false, false, false, false, false, false, false, false, false] rfl rfl (by kernel_rfl) (fun _ _ _ h => h) (Or.inl ⟨by rfl, ?_⟩) hHeld ?_ ?_
      rotate_left
      · rintro w' rfl
        go_simp
        with_reducible rfl
      rotate_left
      · simp only [Act.put, List.setIfInBounds_toArray, List.set_cons_zero, List.set_cons_succ, i64_w, i32_w]
        rfl
      refine pure_ (i := 10) (N := some 26) (v := ?_) (a' := ?_) #[true, true, true, true, true, true, true, true, true, true, true, false, false, false, false, false, false, false, false, false, false, false, false, false, false, false] rfl rfl (by kernel_rfl) (fun _ _ _ h => h) (Or.inl ⟨by rfl, ?_⟩) ?_ ?_
      rotate_left
      · intro w'
        go_simp
        with_reducible rfl
      rotate_left
      · simp only [Act.put, List.setIfInBounds_toArray, List.set_cons_zero, List.set_cons_succ, i64_w, i32_w]
        rfl
      refine pure_ (i := 11) (N := some 27) (v := ?_) (a' := ?_) #[true, true, true, true, true, true, true, true, true, true, true, true, false, false, false, false, false, false, false, false, false, false, false, false, false, false] rfl rfl (by kernel_rfl) (fun _ _ _ h => h) (Or.inl ⟨by rfl, ?_⟩) ?_ ?_
      rotate_left
      · intro w'
        go_simp
        with_reducible rfl
      rotate_left
      · simp only [Act.put, List.setIfInBounds_toArray, List.set_cons_zero, List.set_cons_succ, i64_w, i32_w]
        rfl
      refine pure_ (i := 12) (N := some 28) (v := ?_) (a' := ?_) #[true, true, true, true, true, true, true, true, true, true, true, true, true, false, false, false, false, false, false, false, false, false, false, false, false, false] rfl rfl (by kernel_rfl) (fun _ _ _ h => h) (Or.inl ⟨by rfl, ?_⟩) ?_ ?_
      rotate_left
      · intro w'
        go_simp
        with_reducible rfl
      rotate_left
      · simp only [Act.put, List.setIfInBounds_toArray, List.set_cons_zero, List.set_cons_succ, i64_w, i32_w]
        rfl
      refine pure_ (i := 13) (N := some 29) (v := ?_) (a' := ?_) #[true, true, true, true, true, true, true, true, true, true, true, true, true, true, false, false, false, false, false, false, false, false, false, false, false, false] rfl rfl (by kernel_rfl) (fun _ _ _ h => h) (Or.inl ⟨by rfl, ?_⟩) ?_ ?_
      rotate_left
      · intro w'
        go_simp
        with_reducible rfl
      rotate_left
      · simp only [Act.put, List.setIfInBounds_toArray, List.set_cons_zero, List.set_cons_succ, i64_w, i32_w]
        rfl
      refine pure_ (i := 14) (N := some 30) (v := ?_) (a' := ?_) #[true, true, true, true, true, true, true, true, true, true, true, true, true, true, true, false, false, false, false, false, false, false, false, false, false, false] rfl rfl (by kernel_rfl) (fun _ _ _ h => h) (Or.inl ⟨by rfl, ?_⟩) ?_ ?_
      rotate_left
      · intro w'
        go_simp
        with_reducible rfl
      rotate_left
      · simp only [Act.put, List.setIfInBounds_toArray, List.set_cons_zero, List.set_cons_succ, i64_w, i32_w]
        rfl
      refine pure_ (i := 15) (N := some 31) (v := ?_) (a' := ?_) #[true, true, true, true, true, true, true, true, true, true, true, true, true, true, true, true, false, false, false, false, false, false, false, false, false, false] rfl rfl (by kernel_rfl) (fun _ _ _ h => h) (Or.inl ⟨by rfl, ?_⟩) ?_ ?_
      rotate_left
      · intro w'
        go_simp
        with_reducible rfl
      rotate_left
      · simp only [Act.put, List.setIfInBounds_toArray, List.set_cons_zero, List.set_cons_succ, i64_w, i32_w]
        rfl
      refine take_ (i := 16) (N := some 32) (v := ?_) (a' := ?_) #[true, true, true, true, true, true, true, true, true, true, true, true, true, true, true, true, true, false, false, false, false, false, false, false, false, false] rfl rfl (by kernel_rfl) (fun _ _ _ h => h) (Or.inl ⟨by rfl, ?_⟩) hHeld ?_ ?_
      rotate_left
      · rintro w' rfl
        go_simp
        with_reducible rfl
      rotate_left
      · simp only [Act.put, List.setIfInBounds_toArray, List.set_cons_zero, List.set_cons_succ, i64_w, i32_w]
        rfl
      refine take_ (i := 17) (N := some 33) (v := ?_) (a' := ?_) #[true, true, true, true, true, true, true, true, true, true, true, true, true, true, true, true, true, true, false, false, false, false, false, false, false, false] rfl rfl (by kernel_rfl) (fun _ _ _ h => h) (Or.inl ⟨by rfl, ?_⟩) hHeld ?_ ?_
      rotate_left
      · rintro w' rfl
        go_simp
        with_reducible rfl
      rotate_left
      · simp only [Act.put, List.setIfInBounds_toArray, List.set_cons_zero, List.set_cons_succ, i64_w, i32_w]
        rfl
      refine pure_ (i := 18) (N := some 34) (v := ?_) (a' := ?_) #[true, true, true, true, true, true, true, true, true, true, true, true, true, true, true, true, true, true, true, false, false, false, false, false, false, false] rfl rfl (by kernel_rfl) (fun _ _ _ h => h) (Or.inl ⟨by rfl, ?_⟩) ?_ ?_
      rotate_left
      · intro w'
        go_simp
        with_reducible rfl
      rotate_left
      · simp only [Act.put, List.setIfInBounds_toArray, List.set_cons_zero, List.set_cons_succ, i64_w, i32_w]
        rfl
      refine pure_ (i := 19) (N := some 35) (v := ?_) (a' := ?_) #[true, true, true, true, true, true, true, true, true, true, true, true, true, true, true, true, true, true, true, true, false, false, false, false, false, false] rfl rfl (by kernel_rfl) (fun _ _ _ h => h) (Or.inl ⟨by rfl, ?_⟩) ?_ ?_
      rotate_left
      · intro w'
        go_simp
        with_reducible rfl
      rotate_left
      · simp only [Act.put, List.setIfInBounds_toArray, List.set_cons_zero, List.set_cons_succ, i64_w, i32_w]
        rfl
      refine pure_ (i := 20) (N := some 36) (v := ?_) (a' := ?_) #[true, true, true, true, true, true, true, true, true, true, true, true, true, true, true, true, true, true, true, true, true, false, false, false, false, false] rfl rfl (by kernel_rfl) (fun _ _ _ h => h) (Or.inl ⟨by rfl, ?_⟩) ?_ ?_
      rotate_left
      · intro w'
        go_simp
        with_reducible rfl
      rotate_left
      · simp only [Act.put, List.setIfInBounds_toArray, List.set_cons_zero, List.set_cons_succ, i64_w, i32_w]
        rfl
      refine pure_ (i := 21) (N := some 37) (v := ?_) (a' := ?_) #[true, true, true, true, true, true, true, true, true, true, true, true, true, true, true, true, true, true, true, true, true, true, false, false, false, false] rfl rfl (by kernel_rfl) (fun _ _ _ h => h) (Or.inl ⟨by rfl, ?_⟩) ?_ ?_
      rotate_left
      · intro w'
        go_simp
        with_reducible rfl
      rotate_left
      · simp only [Act.put, List.setIfInBounds_toArray, List.set_cons_zero, List.set_cons_succ, i64_w, i32_w]
        rfl
      refine take_ (i := 22) (N := some 38) (v := ?_) (a' := ?_) #[true, true, true, true, true, true, true, true, true, true, true, true, true, true, true, true, true, true, true, true, true, true, true, false, false, false] rfl rfl (by kernel_rfl) (fun _ _ _ h => h) (Or.inl ⟨by rfl, ?_⟩) hHeld ?_ ?_
      rotate_left
      · rintro w' rfl
        go_simp
        with_reducible rfl
      rotate_left
      · simp only [Act.put, List.setIfInBounds_toArray, List.set_cons_zero, List.set_cons_succ, i64_w, i32_w]
        rfl
      refine take_ (i := 23) (N := some 39) (v := ?_) (a' := ?_) #[true, true, true, true, true, true, true, true, true, true, true, true, true, true, true, true, true, true, true, true, true, true, true, true, false, false] rfl rfl (by kernel_rfl) (fun _ _ _ h => h) (Or.inl ⟨by rfl, ?_⟩) hHeld ?_ ?_
      rotate_left
      · rintro w' rfl
        go_simp
        with_reducible rfl
      rotate_left
      · simp only [Act.put, List.setIfInBounds_toArray, List.set_cons_zero, List.set_cons_succ, i64_w, i32_w]
        rfl
      refine pure_ (i := 24) (N := some 40) (v := ?_) (a' := ?_) #[true, true, true, true, true, true, true, true, true, true, true, true, true, true, true, true, true, true, true, true, true, true, true, true, true, false] rfl rfl (by kernel_rfl) (fun _ _ _ h => h) (Or.inl ⟨by rfl, ?_⟩) ?_ ?_
      rotate_left
      · intro w'
        go_simp
        with_reducible rfl
      rotate_left
      · simp only [Act.put, List.setIfInBounds_toArray, List.set_cons_zero, List.set_cons_succ, i64_w, i32_w]
        rfl
      refine pure_ (i := 25) (N := some 41) (v := ?_) (a' := ?_) #[true, true, true, true, true, true, true, true, true, true, true, true, true, true, true, true, true, true, true, true, true, true, true, true, true, true] rfl rfl (by kernel_rfl) (fun _ _ _ h => h) (Or.inl ⟨by rfl, ?_⟩) ?_ ?_
      rotate_left
      · intro w'
        go_simp
        with_reducible rfl
      rotate_left
      · simp only [Act.put, List.setIfInBounds_toArray, List.set_cons_zero, List.set_cons_succ, i64_w, i32_w]
        rfl
      refine done_ (by kernel_rfl) ?_
      clear hcv hcv' ha0 ha1 hb0 hb1
      go_wp2
      go_roundw
      case rel => exact ⟨k + 1, by omega, by go_num, ⟨n + 1, hHeld⟩⟩
      case measure => simp [intOf]; omega
    · obtain rfl : k = l.length := by omega
      go_wp2
      go_ret
      exact ⟨rfl, ⟨_, rfl⟩⟩
end Go.Proofs.Ytfaniohoplbdoaa.My
/- The reference's Crash. -/
namespace Go.Proofs.Ytfaniohoplbdoaa.My
open Go Go.RowKit Go.Proofs.YtfaniohoplbdoaaW.PrintWords Go.Proofs.YtfaniohoplbdoaaW.PrintLast Go.Proofs.YtfaniohoplbdoaaW.PrintMore Go.Proofs.Ytfaniohoplbdoaa.PDiskActs
set_option linter.unusedVariables false
set_option linter.unusedSimpArgs false
/-- How many operations a crash keeps. -/
def keepN (keep : Int) (n : Nat) : Nat := (mx 0 (mn keep (n : Int))).toNat
theorem keepN_le (keep : Int) (n : Nat) : keepN keep n ≤ n := by unfold keepN mx mn; omega
theorem clampK (keep : Int) (n : Nat) : ∃ m : Int, (∀ ats ty, Builtin.min_ ats ty #[.int .i64 keep, .int .i64 (n : Int)] = pure (.int .i64 m)) ∧ (∀ ats ty, Builtin.max_ ats ty #[.int .i64 0, .int .i64 m] = pure (.int .i64 (keepN keep n : Int))) := by
  refine ⟨mn keep n, fun ats ty => ?_, fun ats ty => ?_⟩
  · rw [min_two, min2_int]
    simp [mn]
  · rw [max_two, max2_int, keepN, Int.toNat_of_nonneg (by unfold mx; omega)]
    simp [mx]
/-- How many bytes of n a torn operation has. -/
theorem clampT (torn : Int) (n : Nat) (h : 0 < torn) : ∃ m : Nat, m ≤ n ∧ (m : Int) = mn torn n ∧ ∀ ats ty, Builtin.min_ ats ty #[.int .i64 torn, .int .i64 (n : Int)] = pure (.int .i64 (m : Int)) := by
  refine ⟨(mn torn n).toNat, by unfold mn; omega, by unfold mn; omega, fun ats ty => ?_⟩
  rw [min_two, min2_int, Int.toNat_of_nonneg (by unfold mn; omega)]
  simp [mn]
def tornL (o : S123) (torn : Int) : S123 := ⟨o.f0, o.f1, o.f2, o.f3.take (mn torn o.f3.length).toNat⟩
def crashL (l : List S109) (ops : List S123) (keep torn : Int) : List S109 :=
  if h : keepN keep ops.length < ops.length then
    (if 0 < torn ∧ (ops[keepN keep ops.length]'h).f0 = 0 then carryL (viewL l (ops.take (keepN keep ops.length))) (tornL (ops[keepN keep ops.length]'h) torn) else viewL l (ops.take (keepN keep ops.length)))
  else viewL l (ops.take (keepN keep ops.length))
theorem byO_takeN (ops : List S123) (k : Nat) : byO (ops.take k) ≤ byO ops := by
  have : byO ops = byO (ops.take k) + byO (ops.drop k) := by
    conv => lhs; rw [← List.take_append_drop k ops]
    unfold byO
    rw [List.map_append, List.sum_append]
  omega
theorem info123' : (Try.prog.info? 123).map (fun i => (i.zero, i.size, i.bytes)) = some (some (.agg #[.int .i64 0, .string ⟨#[]⟩, .string ⟨#[]⟩, .slice none 0 0]), 4, 64) := by kernel_rfl
theorem cutO_to (A : Option Addr) (c : Nat) (l : List S123) (hi : Nat) (hc : l.length ≤ c) (h : hi ≤ l.length) :
    (∀ W : World, (Instr.slice 51 (.slice A l.length c) none (some (.int .i64 (hi : Int))) none).run Try.prog W = .ok (.slice A (l.take hi).length c) W) ∧ ∀ w, CO w A l → CO w A (l.take hi) := by
  obtain ⟨i0, hi0, _, hsz, _⟩ := info_parts info123'
  have h1 := cut_to (P := Try.prog) 51 123 .i64 Try.underlying51 hi0 A l.length c (hi : Int) (by omega) (by omega) hc
  rw [Int.toNat_natCast] at h1
  refine ⟨fun W => ?_, fun w hC => Kd.C_take hC h⟩
  rw [h1 W, List.length_take, Nat.min_eq_left h]
set_option maxHeartbeats 4000000 in
set_option maxRecDepth 100000 in
theorem crash_calls (ok : Nat → Prop) (A : Option Addr) (c : Nat) (l : List S109) (A' : Option Addr) (c' : Nat) (ops : List S123) (keep torn : Int) (w : World) (hok : ∀ k, w.heap.size ≤ k → ok k) (hV : VF w ok (.slice A l.length c) l)
    (hO : CO w A' ops) (hc : ops.length ≤ c') (hl : l.length + ops.length + 1 ≤ 2199023255552) (hs : byF l + byO ops ≤ 140737488351232) :
    Calls Try.prog 50 #[dkV A l.length c A' ops.length c', .int .i64 keep, .int .i64 torn] w (DkPost w ok (crashL l ops keep torn) []) := by
  obtain ⟨m0, hmin, hmax⟩ := clampK keep ops.length
  have hkl := keepN_le keep ops.length
  have hcrash := (rfl : crashL l ops keep torn = crashL l ops keep torn)
  conv at hcrash => rhs; unfold crashL
  obtain ⟨K0, hK0⟩ : ∃ K0, K0 = keepN keep ops.length := ⟨_, rfl⟩
  rw [← hK0] at hmax hkl hcrash
  have HCR := Aside0.mk hcrash
  clear hK0 hcrash
  obtain ⟨hcut, hcutC⟩ := cutO_to A' c' ops K0 hc hkl
  obtain ⟨wb, hwb⟩ : ∃ wb, wb = (w.alloc (.cells #[.slice A l.length c, .slice A' ops.length c'] 53)).alloc dk2 := ⟨_, rfl⟩
  have hW : Below w.heap.size w wb := by rw [hwb]; exact below_alloc (below_alloc (Below.refl _ _) _) _
  have hsz : wb.heap.size = w.heap.size + 1 + 1 := by rw [hwb, alloc_size, alloc_size]
  have hb1 : wb.heap[w.heap.size + 1]? = some dk2 := by rw [hwb, ← alloc_size w (.cells #[.slice A l.length c, .slice A' ops.length c'] 53)]; exact blk_new _ _
  have hb0 : wb.heap[w.heap.size]? = some (.cells #[.slice A l.length c, .slice A' ops.length c'] 53 (0, 0)) := by
    have := blk_new w (.cells #[.slice A l.length c, .slice A' ops.length c'] 53)
    rw [hwb]
    exact (Below.heap_alloc _ _ _ (by rw [alloc_size]; omega)).trans this
  have HB0 := Aside0.mk (fun (W : World) (hB : Below wb.heap.size wb W) => (hB.block _ (blk_lt hb0)).trans hb0)
  have HB1 := Aside0.mk (fun (W : World) (hB : Below wb.heap.size wb W) => (hB.block _ (blk_lt hb1)).trans hb1)
  have HV := Aside0.mk (fun (W : World) (hB : Below wb.heap.size wb W) => (Kd.V_below (Kd.V_elderB hV (w.heap.size + 1) (by omega)) (below_then hW hW.size hB) : VF W (fun k => ok k ∧ k ≠ w.heap.size + 1) (.slice A l.length c) l))
  have HO := Aside0.mk (fun (W : World) (hB : Below wb.heap.size wb W) => (Kd.C_below hO (below_then hW hW.size hB) : CO W A' ops))
  have HOK := Aside0.mk (fun (W : World) (hB : Below wb.heap.size wb W) => (fun k hk => ⟨hok k (by have := hB.size; omega), by have := hB.size; omega⟩ : ∀ k, W.heap.size ≤ k → ok k ∧ k ≠ w.heap.size + 1))
  have HWW := Aside0.mk (fun (W : World) (hB : Below wb.heap.size wb W) => below_then hW hW.size hB)
  have HWB := Aside0.mk hwb
  have HSZ := Aside0.mk hsz
  have hu53 := Try.underlying53
  have hu123 := Try.underlying123
  clear hwb hW hsz hb0 hb1 hV hO hok
  obtain ⟨cut, hcu⟩ : ∃ cut, cut = ops.take K0 := ⟨_, rfl⟩
  have hcl : cut.length = K0 := by rw [hcu, List.length_take]; omega
  rw [← hcu] at hcut hcutC
  have HCu := Aside0.mk hcu
  have HCC := Aside0.mk (fun (W : World) (hB : Below wb.heap.size wb W) => hcutC W (HO.out W hB))
  clear hcu hcutC
  go_enter Try.func50, Try.ntmps50
  go_wp2_with fail
  rw [← HWB.out]
  go_loopw [8, 25] (fun v i wr => ∃ k : Nat, k ≤ K0 ∧ i = .int .i64 k ∧ Aside0 (VF wr (fun k => ok k ∧ k ≠ w.heap.size + 1) v (viewL l (cut.take k))) ∧ Aside0 (Below wb.heap.size wb wr)) (fun _ i _ => K0 - (intOf i).toNat)
  case atStart => exact ⟨0, by omega, rfl, ⟨HV.out _ (Below.refl _ _)⟩, ⟨Below.refl _ _⟩⟩
  case round =>
    obtain ⟨k, hk, rfl, HVr, HW⟩ := hrel
    by_cases hlt : k < K0
    · have hlt' : k < cut.length := by omega
      obtain ⟨ad, B, d, rfl, hc0, hc1, hc2, hc3, hd, hC⟩ := CO.at_ (HCC.out _ HW.out) k hlt'
      have HCo := Aside0.mk hC
      have HST := Aside0.mk (viewL_take_succ (l := l) hlt')
      have hb1 := byO_take hlt'
      have hb2 := byF_viewL (cut.take k) l
      have hb3 := viewL_length (cut.take k) l
      have hb4 : byO cut ≤ byO ops := by rw [HCu.out]; exact byO_takeN _ _
      rw [List.length_take] at hb3
      obtain ⟨o, ho⟩ : ∃ o, o = cut[k] := ⟨_, rfl⟩
      rw [← ho] at hc0 hc1 hc2 hc3 hd HCo HST hb1
      clear ho hC
      generalize viewL l (cut.take k) = x at HVr HST hb2 hb3
      obtain ⟨A1, c1, rfl, hv1⟩ := with_t HVr.out
      have HV1 := Aside0.mk hv1
      clear hv1 HVr
      go_wp2_with fail
      have HWb := Aside0.mk (below_alloc HW.out (.cells (doC o B d) 123))
      with_reducible refine (carry_calls (fun k => ok k ∧ k ≠ w.heap.size + 1) A1 c1 x o B d (wr.alloc (.cells (doC o B d) 123)) (HOK.out _ HWb.out) (Kd.V_alloc HV1.out _) hd (Kd.C_alloc HCo.out _) (by omega) (by omega)).mono ?_
      rintro e w3 ⟨⟨v3, rfl, hv3⟩, hB3⟩
      have HV3 := Aside0.mk hv3
      have HB3 := Aside0.mk (below_then HWb.out HWb.out.size hB3)
      clear hv3 hB3
      go_wp2
      go_roundw
      case rel => exact ⟨k + 1, by omega, by go_num, ⟨by rw [HST.out]; exact HV3.out⟩, HB3⟩
      case measure => simp [intOf]; omega
    · obtain rfl : k = K0 := by omega
      rw [List.take_of_length_le (by omega)] at HVr
      have hb2 := byF_viewL cut l
      have hb3 := viewL_length cut l
      have hb4 : byO cut ≤ byO ops := by rw [HCu.out]; exact byO_takeN _ _
      obtain ⟨A1, c1, rfl, hv1⟩ := with_t HVr.out
      have HV1 := Aside0.mk hv1
      clear hv1 HVr
      have hcr := HCR.out
      rw [← HCu.out] at hcr
      generalize viewL l cut = x at HV1 hb2 hb3 hcr
      have hz0 : wr.cell? ⟨w.heap.size, 0, none⟩ = some (.slice A l.length c) := (blk_cell (HB0.out _ HW.out) 0).trans rfl
      have hz1 : wr.cell? ⟨w.heap.size, 1, none⟩ = some (.slice A' ops.length c') := (blk_cell (HB0.out _ HW.out) 1).trans rfl
      have hy0 : wr.cell? ⟨w.heap.size + 1, 0, none⟩ = some (.slice none 0 0) := (blk_cell (HB1.out _ HW.out) 0).trans rfl
      have hy1 : wr.cell? ⟨w.heap.size + 1, 1, none⟩ = some (.slice none 0 0) := (blk_cell (HB1.out _ HW.out) 1).trans rfl
      have hf0 := blk_frozen (HB1.out _ HW.out) 0
      have hf1 := blk_frozen (HB1.out _ HW.out) 1
      by_cases hkn : k < ops.length
      · rw [dif_pos hkn] at hcr
        obtain ⟨ad, B, d, rfl, hc0, hc1, hc2, hc3, hd, hC⟩ := CO.at_ (HO.out _ HW.out) k hkn
        have HCo := Aside0.mk hC
        have hb1 := byO_take hkn
        obtain ⟨o, ho⟩ : ∃ o, o = ops[k] := ⟨_, rfl⟩
        rw [← ho] at hc0 hc1 hc2 hc3 hd HCo hb1 hcr
        have hbt : byO (ops.take k) = byO cut := by rw [HCu.out]
        clear ho hC
        by_cases ht : 0 < torn
        · by_cases hk0 : o.f0 = 0
          · have hkb : (o.f0 == 0) = true := by simpa using hk0
            rw [if_pos ⟨ht, hk0⟩] at hcr
            have HX := Aside0.mk hcr
            clear hcr hk0
            obtain ⟨m, hml, hmm, hmin2⟩ := clampT torn o.f3.length ht
            obtain ⟨hcut3, hC3⟩ := cutB_to B d o.f3 m m rfl hd hml
            have HC3 := Aside0.mk (hC3 wr HCo.out)
            have HT := Aside0.mk (show tornL o torn = ⟨o.f0, o.f1, o.f2, o.f3.take m⟩ by unfold tornL; rw [← hmm, Int.toNat_natCast])
            have hlm : (o.f3.take m).length = m := by rw [List.length_take]; omega
            clear hC3 hmm
            go_wp2_with fail
            obtain ⟨t, htd⟩ : ∃ t, t = o.f3.take m := ⟨_, rfl⟩
            rw [← htd] at hlm HC3 HT
            clear htd
            subst hlm
            have HWb := Aside0.mk (below_alloc HW.out (.cells (doC ⟨o.f0, o.f1, o.f2, t⟩ B d) 123))
            refine (carry_calls (fun k => ok k ∧ k ≠ w.heap.size + 1) A1 c1 x ⟨o.f0, o.f1, o.f2, t⟩ B d (wr.alloc (.cells (doC ⟨o.f0, o.f1, o.f2, t⟩ B d) 123)) (HOK.out _ HWb.out) (Kd.V_alloc HV1.out _) (by show t.length ≤ d; omega) (Kd.C_alloc HC3.out _) (by omega) (by show byF x + t.length ≤ _; omega)).mono ?_
            rintro e w3 ⟨⟨v3, rfl, hv3⟩, hB3⟩
            obtain ⟨A3, c3, rfl⟩ := Kd.V_slice hv3
            rw [← HT.out] at hv3 ⊢
            have HV3 := Aside0.mk hv3
            have HB3 := Aside0.mk (below_then HWb.out HWb.out.size hB3)
            have hz0b : w3.cell? ⟨w.heap.size, 0, none⟩ = some (.slice A l.length c) := (blk_cell (HB0.out _ HB3.out) 0).trans rfl
            have hz1b : w3.cell? ⟨w.heap.size, 1, none⟩ = some (.slice (some ad) ops.length c') := (blk_cell (HB0.out _ HB3.out) 1).trans rfl
            have hy0b : w3.cell? ⟨w.heap.size + 1, 0, none⟩ = some (.slice none 0 0) := (blk_cell (HB1.out _ HB3.out) 0).trans rfl
            have hy1b : w3.cell? ⟨w.heap.size + 1, 1, none⟩ = some (.slice none 0 0) := (blk_cell (HB1.out _ HB3.out) 1).trans rfl
            have hf0b := blk_frozen (HB1.out _ HB3.out) 0
            have hf1b := blk_frozen (HB1.out _ HB3.out) 1
            clear hv3 hB3
            generalize carryL x (tornL o torn) = x3 at HV3 HX
            go_wp2
            refine bodyPost_ret (results_cell_row rfl _ _ (w.heap.size + 1) 53 #[.slice A3 x3.length c3, .slice none 0 0] (0, 0) _ rfl (blk_put2 (HB1.out _ HB3.out) _ _) Try.underlying53 rfl (by kernel_rfl)) rfl ?_
            exact ⟨⟨_, _, rfl, by rw [HX.out]; exact V_set2 HV3.out _ _ _ _, Kd.V_nil _ _ _ _ _⟩, below_set (below_set (HWW.out _ HB3.out) (by omega)) (by omega)⟩
          · have hkb : (o.f0 == 0) = false := by simpa using hk0
            rw [if_neg (fun h => hk0 h.2)] at hcr
            have HX := Aside0.mk hcr
            clear hcr hk0
            go_wp2
            refine bodyPost_ret (results_cell_row rfl _ _ (w.heap.size + 1) 53 #[.slice A1 x.length c1, .slice none 0 0] (0, 0) _ rfl (blk_put2 (HB1.out _ HW.out) _ _) Try.underlying53 rfl (by kernel_rfl)) rfl ?_
            exact ⟨⟨_, _, rfl, by rw [HX.out]; exact V_set2 HV1.out _ _ _ _, Kd.V_nil _ _ _ _ _⟩, below_set (below_set (HWW.out _ HW.out) (by omega)) (by omega)⟩
        · rw [if_neg (by omega)] at hcr
          have HX := Aside0.mk hcr
          clear hcr
          go_wp2
          refine bodyPost_ret (results_cell_row rfl _ _ (w.heap.size + 1) 53 #[.slice A1 x.length c1, .slice none 0 0] (0, 0) _ rfl (blk_put2 (HB1.out _ HW.out) _ _) Try.underlying53 rfl (by kernel_rfl)) rfl ?_
          exact ⟨⟨_, _, rfl, by rw [HX.out]; exact V_set2 HV1.out _ _ _ _, Kd.V_nil _ _ _ _ _⟩, below_set (below_set (HWW.out _ HW.out) (by omega)) (by omega)⟩
      · rw [dif_neg hkn] at hcr
        have HX := Aside0.mk hcr
        clear hcr
        go_wp2
        refine bodyPost_ret (results_cell_row rfl _ _ (w.heap.size + 1) 53 #[.slice A1 x.length c1, .slice none 0 0] (0, 0) _ rfl (blk_put2 (HB1.out _ HW.out) _ _) Try.underlying53 rfl (by kernel_rfl)) rfl ?_
        exact ⟨⟨_, _, rfl, by rw [HX.out]; exact V_set2 HV1.out _ _ _ _, Kd.V_nil _ _ _ _ _⟩, below_set (below_set (HWW.out _ HW.out) (by omega)) (by omega)⟩
end Go.Proofs.Ytfaniohoplbdoaa.My
/- The reference's Load. -/
namespace Go.Proofs.Ytfaniohoplbdoaa.My
open Go Go.RowKit Go.Proofs.YtfaniohoplbdoaaW.PrintWords Go.Proofs.YtfaniohoplbdoaaW.PrintLast Go.Proofs.YtfaniohoplbdoaaW.PrintMore Go.Proofs.Ytfaniohoplbdoaa.PDiskActs
set_option linter.unusedVariables false
set_option linter.unusedSimpArgs false
def loadL (l : List S109) : List S109 := l.foldl withL []
/-- The first k files have names, and no two the same. -/
def GoodAt (l : List S109) (k : Nat) (f : S109) : Prop := nameOk f.f0 = true ∧ ∀ x ∈ l.take k, (x.f0.toList == f.f0.toList) = false
def Good (l : List S109) (k : Nat) : Prop := ∀ i f, i < k → l[i]? = some f → GoodAt l i f
def loadOk (l : List S109) : Bool := (List.range l.length).all fun i => match l[i]? with
  | some f => nameOk f.f0 && (l.take i).all fun x => !(x.f0.toList == f.f0.toList)
  | none => true
theorem loadOk_good {l : List S109} : loadOk l = true ↔ Good l l.length := by
  unfold loadOk Good GoodAt
  rw [List.all_eq_true]
  constructor
  · intro h i f hi hf
    have := h i (List.mem_range.2 hi)
    rw [hf] at this
    simp only [Bool.and_eq_true, List.all_eq_true, Bool.not_eq_true'] at this
    exact this
  · intro h i hi
    have hi' := List.mem_range.1 hi
    rw [List.getElem?_eq_getElem hi']
    have := h i _ hi' (List.getElem?_eq_getElem hi')
    simp only [Bool.and_eq_true, List.all_eq_true, Bool.not_eq_true']
    exact this
theorem loadOk_bad {l : List S109} {k : Nat} {f : S109} (hk : l[k]? = some f) (h : ¬ GoodAt l k f) : loadOk l = false := by
  rw [← Bool.not_eq_true, loadOk_good]
  intro hg
  exact h (hg k f (List.getElem?_eq_some_iff.1 hk).1 hk)
theorem Good.succ {l : List S109} {k : Nat} {f : S109} (h : Good l k) (hk : l[k]? = some f) (hf : GoodAt l k f) : Good l (k + 1) := by
  intro i g hi hg
  by_cases e : i = k
  · subst e
    rw [hk] at hg
    injection hg with hg
    subst hg
    exact hf
  · exact h i g (by omega) hg
theorem loadL_take_succ {l : List S109} {k : Nat} (h : k < l.length) : loadL (l.take (k + 1)) = withL (loadL (l.take k)) l[k] := by
  unfold loadL
  rw [List.take_succ_eq_append_getElem h, List.foldl_append]
  rfl
theorem loadL_length (l : List S109) : (loadL l).length ≤ l.length := by
  have : ∀ (r : List S109) (acc : List S109), (r.foldl withL acc).length ≤ acc.length + r.length := by
    intro r
    induction r with
    | nil => intro acc; simp
    | cons f r ih =>
      intro acc
      have h1 := ih (withL acc f)
      have h2 := withL_length acc f
      simp only [List.foldl_cons, List.length_cons]
      omega
  have h := this l []
  simp only [List.length_nil, Nat.zero_add] at h
  exact h
theorem info109' : (Try.prog.info? 109).map (fun i => (i.zero, i.size, i.bytes)) = some (some (.agg #[.string ⟨#[]⟩, .slice none 0 0]), 2, 40) := by kernel_rfl
theorem cutF_to (A : Option Addr) (c : Nat) (l : List S109) (hi : Nat) (hc : l.length ≤ c) (h : hi ≤ l.length) :
    (∀ W : World, (Instr.slice 42 (.slice A l.length c) none (some (.int .i64 (hi : Int))) none).run Try.prog W = .ok (.slice A (l.take hi).length c) W) ∧ ∀ w, CF w A l → CF w A (l.take hi) := by
  obtain ⟨i0, hi0, _, hsz, _⟩ := info_parts info109'
  have h1 := cut_to (P := Try.prog) 42 109 .i64 Try.underlying42 hi0 A l.length c (hi : Int) (by omega) (by omega) hc
  rw [Int.toNat_natCast] at h1
  refine ⟨fun W => ?_, fun w hC => Kd.C_take hC h⟩
  rw [h1 W, List.length_take, Nat.min_eq_left h]
abbrev LoadPost (w : World) (ok : Nat → Prop) (l : List S109) : Ending → World → Prop := fun e w' => (∃ u v, e = .returned (.tuple #[.agg #[u, v], .bool (loadOk l)]) ∧ VF w' ok u (if loadOk l then loadL l else []) ∧ VO w' ok v []) ∧ Below w.heap.size w w'
abbrev fileC (f : S109) (B : Option Addr) (d : Nat) : Array Value := #[.string f.f0, .slice B f.f1.length d]
set_option maxHeartbeats 4000000 in
set_option maxRecDepth 100000 in
theorem load_calls (ok : Nat → Prop) (A : Option Addr) (c : Nat) (l : List S109) (w : World) (hok : ∀ k, w.heap.size ≤ k → ok k) (hC : CF w A l) (hc : l.length ≤ c) (hl : l.length ≤ 3518437208780) (hs : ∀ f ∈ l, f.f1.length ≤ 140737488351232)
    (hn : ∀ f ∈ l, f.f0.size ≤ 9223372036854775807) :
    Calls Try.prog 38 #[.slice A l.length c] w (LoadPost w ok l) := by
  obtain ⟨ok2, hok2⟩ : ∃ ok2 : Nat → Prop, ok2 = fun k => ok k ∧ k ≠ w.heap.size ∧ k ≠ w.heap.size + 1 := ⟨_, rfl⟩
  have HK1 := Aside0.mk (show ∀ k, w.heap.size + 2 ≤ k → ok2 k by rw [hok2]; exact fun k hk => ⟨hok k (by omega), by omega, by omega⟩)
  have HK2 := Aside0.mk (show ∀ k, ok2 k → ok k ∧ k ≠ w.heap.size ∧ k ≠ w.heap.size + 1 by rw [hok2]; exact fun k hk => hk)
  have HC := Aside0.mk (fun (W : World) (hB : Below w.heap.size w W) => Kd.C_below hC hB)
  have HS := Aside0.mk hs
  have HN := Aside0.mk hn
  have hu53 := Try.underlying53
  have hu109 := Try.underlying109
  clear hok2 hok hC hs hn
  go_enter Try.func38, Try.ntmps38
  go_wp2_with fail
  go_loopw [11] (fun i wr => ∃ (k : Nat) (A1 : Option Addr) (c1 : Nat), k ≤ l.length ∧ i = .int .i64 k ∧ Aside0 (Good l k) ∧ Aside0 (wr.heap[w.heap.size]? = some dk2) ∧ Aside0 (wr.heap[w.heap.size + 1]? = some (.cells #[.slice A1 (loadL (l.take k)).length c1, .slice none 0 0] 53 (0, 0))) ∧ Aside0 (VF wr ok2 (.slice A1 (loadL (l.take k)).length c1) (loadL (l.take k))) ∧ Aside0 (Below w.heap.size w wr)) (fun i _ => l.length - (intOf i).toNat)
  case atStart =>
    refine ⟨0, none, 0, by omega, rfl, ⟨fun i f hi => by omega⟩, ⟨?_⟩, ⟨?_⟩, ⟨Kd.V_nil _ _ _ _ _⟩, ⟨below_alloc (below_alloc (Below.refl _ _) _) _⟩⟩
    · exact (Below.heap_alloc _ _ _ (by rw [alloc_size]; omega)).trans (blk_new w dk2)
    · have := blk_new (w.alloc dk2) dk2
      rw [alloc_size] at this
      exact this
  case round =>
    obtain ⟨k, A1, c1, hk, rfl, HG, HB2, HB4, HVr, HW⟩ := hrel
    obtain ⟨wo, hwo⟩ : ∃ wo : World, wo = wr := ⟨_, rfl⟩
    subst hwo
    have hxl := loadL_length (l.take k)
    rw [List.length_take] at hxl
    by_cases hlt : k < l.length
    · obtain ⟨ad, B, d, rfl, hc0, hc1, hd, hCB⟩ := CF.at_ (HC.out _ HW.out) k hlt
      have HCB := Aside0.mk hCB
      have HST := Aside0.mk (loadL_take_succ hlt)
      have hsz := HS.out l[k] (List.getElem_mem hlt)
      have hnz := HN.out l[k] (List.getElem_mem hlt)
      have hget : l[k]? = some l[k] := List.getElem?_eq_getElem hlt
      obtain ⟨f, hf⟩ : ∃ f, f = l[k] := ⟨_, rfl⟩
      rw [← hf] at hc0 hc1 hd HCB HST hsz hnz hget
      have HGet := Aside0.mk hget
      clear hf hCB hget
      generalize loadL (l.take k) = x at HB4 HVr HST hxl
      have hsw := HW.out.size
      have hg2 := blk_lt HB2.out
      have hg4 := blk_lt HB4.out
      have HNa := Aside0.mk (fun w => name_calls f.f0 w hnz)
      obtain ⟨wx, hwx⟩ : ∃ wx, wx = wo.alloc (.cells (fileC f B d) 109) := ⟨_, rfl⟩
      have hBx : Below wo.heap.size wo wx := by rw [hwx]; exact below_alloc (Below.refl _ _) _
      have hxs : wx.heap.size = wo.heap.size + 1 := by rw [hwx, alloc_size]
      have hbf : wx.heap[wo.heap.size]? = some (.cells (fileC f B d) 109 (0, 0)) := by rw [hwx]; exact blk_new _ _
      have HBf := Aside0.mk (fun (W : World) (hB : Below wx.heap.size wx W) => (hB.block _ (blk_lt hbf)).trans hbf)
      have HBx := Aside0.mk (fun (W : World) (hB : Below wx.heap.size wx W) => below_then hBx hBx.size hB)
      have HG2 := Aside0.mk (fun (W : World) (hB : Below wx.heap.size wx W) => ((HBx.out W hB).block _ hg2).trans HB2.out)
      have HG4 := Aside0.mk (fun (W : World) (hB : Below wx.heap.size wx W) => ((HBx.out W hB).block _ hg4).trans HB4.out)
      have HWX := Aside0.mk hwx
      clear hwx hBx hbf
      cases hno : nameOk f.f0 with
      | false =>
        rw [hno] at HNa
        have HLO := Aside0.mk (loadOk_bad HGet.out (fun h => by rw [h.1] at hno; cases hno))
        clear hno
        go_wp2_with (first | (go_at_call 46; rw [← HWX.out]; with_reducible refine (HNa.out _).mono ?_; rintro e w1 ⟨rfl, n1, rfl⟩; have hz0 : wx.cell? ⟨w.heap.size, 0, none⟩ = some (.slice none 0 0) := (blk_cell (HG2.out _ (Below.refl _ _)) 0).trans rfl; have hz1 : wx.cell? ⟨w.heap.size, 1, none⟩ = some (.slice none 0 0) := (blk_cell (HG2.out _ (Below.refl _ _)) 1).trans rfl; have hf0 := blk_frozen (HG2.out _ (Below.refl _ _)) 0; have hf1 := blk_frozen (HG2.out _ (Below.refl _ _)) 1; have hx0 : wx.cell? ⟨wo.heap.size, 0, none⟩ = some (.string f.f0) := (blk_cell (HBf.out _ (Below.refl _ _)) 0).trans rfl; have hx1 : wx.cell? ⟨wo.heap.size, 1, none⟩ = some (.slice B f.f1.length d) := (blk_cell (HBf.out _ (Below.refl _ _)) 1).trans rfl) | fail)
        have HWx := Aside0.mk (below_then HW.out HW.out.size (HBx.out _ (pw_below_drewN (Below.refl wx.heap.size wx) n1)))
        refine bodyPost_ret (results_ct rfl _ _ w.heap.size 53 #[.slice none 0 0, .slice none 0 0] (0, 0) _ rfl (blk_put2 (HG2.out _ (pw_below_drewN (Below.refl wx.heap.size wx) n1)) _ _) Try.underlying53 rfl (by kernel_rfl)) rfl ?_
        exact ⟨⟨_, _, by rw [HLO.out]; rfl, by rw [HLO.out]; exact Kd.V_nil _ _ _ _ _, Kd.V_nil _ _ _ _ _⟩, below_set (below_set HWx.out (Nat.le_refl _)) (Nat.le_refl _)⟩
      | true =>
        rw [hno] at HNa
        have HNO := Aside0.mk hno
        clear hno
        obtain ⟨hcut, _⟩ := cutF_to (some ad) c l k hc hk
        obtain ⟨lk, hlk⟩ : ∃ lk, lk = (l.take k).length := ⟨_, rfl⟩
        rw [← hlk] at hcut
        have hlk2 : lk = k := by rw [hlk, List.length_take]; omega
        subst hlk2
        clear hlk
        go_wp2_with (first | (go_at_call 46; rw [← HWX.out]; with_reducible refine (HNa.out _).mono ?_; rintro e w1 ⟨rfl, n1, rfl⟩; have hz0 : wx.cell? ⟨w.heap.size, 0, none⟩ = some (.slice none 0 0) := (blk_cell (HG2.out _ (Below.refl _ _)) 0).trans rfl; have hz1 : wx.cell? ⟨w.heap.size, 1, none⟩ = some (.slice none 0 0) := (blk_cell (HG2.out _ (Below.refl _ _)) 1).trans rfl; have hf0 := blk_frozen (HG2.out _ (Below.refl _ _)) 0; have hf1 := blk_frozen (HG2.out _ (Below.refl _ _)) 1; have hx0 : wx.cell? ⟨wo.heap.size, 0, none⟩ = some (.string f.f0) := (blk_cell (HBf.out _ (Below.refl _ _)) 0).trans rfl; have hx1 : wx.cell? ⟨wo.heap.size, 1, none⟩ = some (.slice B f.f1.length d) := (blk_cell (HBf.out _ (Below.refl _ _)) 1).trans rfl) | fail)
        go_loopw [25] (fun i wq => ∃ j : Nat, j ≤ lk ∧ i = .int .i64 j ∧ Aside0 (∀ x ∈ l.take j, (x.f0.toList == f.f0.toList) = false) ∧ Aside0 (Below wx.heap.size wx wq)) (fun i _ => lk - (intOf i).toNat)
        case atStart => exact ⟨0, by omega, rfl, ⟨by simp⟩, ⟨pw_below_drewN (Below.refl _ _) n1⟩⟩
        case round =>
          obtain ⟨j, hj, rfl, HJ, HQ⟩ := hrel
          have HWq := Aside0.mk (below_then HW.out HW.out.size (HBx.out _ HQ.out))
          have hx0q : wr.cell? ⟨wo.heap.size, 0, none⟩ = some (.string f.f0) := (blk_cell (HBf.out _ HQ.out) 0).trans rfl
          have hx1q : wr.cell? ⟨wo.heap.size, 1, none⟩ = some (.slice B f.f1.length d) := (blk_cell (HBf.out _ HQ.out) 1).trans rfl
          have hlt0 := blk_lt (HBf.out _ HQ.out)
          have hlt2 := blk_lt (HG2.out _ HQ.out)
          have hlt4 := blk_lt (HG4.out _ HQ.out)
          by_cases hjl : j < lk
          · have hjn : j < l.length := by omega
            obtain ⟨ad', B', d', hade, hq0, hq1, hd', _⟩ := CF.at_ (HC.out _ HWq.out) j hjn
            injection hade with hade
            subst hade
            have htk : l.take (j + 1) = l.take j ++ [l[j]] := List.take_succ_eq_append_getElem hjn
            have HMem := Aside0.mk (show l[j] ∈ l.take lk from List.mem_take_iff_getElem.2 ⟨j, by omega, rfl⟩)
            have HTK := Aside0.mk htk
            obtain ⟨x', hx'⟩ : ∃ x', x' = l[j] := ⟨_, rfl⟩
            rw [← hx'] at hq0 hq1 HMem HTK
            clear hx' htk hd'
            by_cases hqe : (x'.f0.toList == f.f0.toList) = true
            · have HLO := Aside0.mk (loadOk_bad HGet.out (fun h => by have := h.2 _ HMem.out; rw [hqe] at this; cases this))
              have hz0q : wr.cell? ⟨w.heap.size, 0, none⟩ = some (.slice none 0 0) := (blk_cell (HG2.out _ HQ.out) 0).trans rfl
              have hz1q : wr.cell? ⟨w.heap.size, 1, none⟩ = some (.slice none 0 0) := (blk_cell (HG2.out _ HQ.out) 1).trans rfl
              have hf0q := blk_frozen (HG2.out _ HQ.out) 0
              have hf1q := blk_frozen (HG2.out _ HQ.out) 1
              go_wp2
              refine bodyPost_ret (results_ct rfl _ _ w.heap.size 53 #[.slice none 0 0, .slice none 0 0] (0, 0) _ rfl (blk_alloc (blk_put2 (HG2.out _ HQ.out) _ _) _) Try.underlying53 rfl (by kernel_rfl)) rfl ?_
              exact ⟨⟨_, _, by rw [HLO.out]; rfl, by rw [HLO.out]; exact Kd.V_nil _ _ _ _ _, Kd.V_nil _ _ _ _ _⟩, below_alloc (below_set (below_set HWq.out (Nat.le_refl _)) (Nat.le_refl _)) _⟩
            · have hqf : (x'.f0.toList == f.f0.toList) = false := by simpa using hqe
              have HJ2 := Aside0.mk (show ∀ y ∈ l.take (j + 1), (y.f0.toList == f.f0.toList) = false by
                rw [HTK.out]
                intro y hy
                rcases List.mem_append.1 hy with h | h
                · exact HJ.out y h
                · rw [List.mem_singleton.1 h]; exact hqf)
              clear hqe
              go_wp2
              go_roundw
              case rel => exact ⟨j + 1, by omega, by go_num, HJ2, ⟨below_alloc HQ.out _⟩⟩
              case measure => simp [intOf]; omega
          · obtain rfl : j = lk := by omega
            have HGA := Aside0.mk (show GoodAt l j f from ⟨HNO.out, HJ.out⟩)
            have HGS := Aside0.mk (HG.out.succ HGet.out HGA.out)
            have hsl := withL_length x f
            have HSS := Aside0.mk (fun (w' : World) (hB : Below wx.heap.size wx w') => (⟨(blk_cell (HG4.out _ hB) 0).trans rfl, (blk_cell (HBf.out _ hB) 0).trans rfl, (blk_cell (HBf.out _ hB) 1).trans rfl⟩ : w'.cell? ⟨w.heap.size + 1, 0, none⟩ = some (.slice A1 x.length c1) ∧ w'.cell? ⟨wo.heap.size, 0, none⟩ = some (.string f.f0) ∧ w'.cell? ⟨wo.heap.size, 1, none⟩ = some (.slice B f.f1.length d)))
            go_wp2
            refine start_ (n := 12) (S := fun w' => w'.cell? ⟨w.heap.size + 1, 0, none⟩ = some (.slice A1 x.length c1) ∧ w'.cell? ⟨wo.heap.size, 0, none⟩ = some (.string f.f0) ∧ w'.cell? ⟨wo.heap.size, 1, none⟩ = some (.slice B f.f1.length d)) (ds := [11]) #[false, false, false, false, false, false, false, false, false, false, false, false] (by kernel_rfl) rfl rfl ?_ (fun hHeld => ?_)
            · exact HSS.out _ (below_drew HQ.out)
            refine pure_ (i := 0) (N := some 36) (v := ?_) (a' := ?_) #[true, false, false, false, false, false, false, false, false, false, false, false] rfl rfl (by kernel_rfl) (fun _ _ _ h => h) (Or.inl ⟨by rfl, ?_⟩) ?_ ?_
            rotate_left
            · intro w'
              go_simp
              with_reducible rfl
            rotate_left
            · simp only [Act.put, List.setIfInBounds_toArray, List.set_cons_zero, List.set_cons_succ, i64_w, i32_w]
              rfl
            refine take_ (i := 1) (N := some 37) (v := ?_) (a' := ?_) #[true, true, false, false, false, false, false, false, false, false, false, false] rfl rfl (by kernel_rfl) (fun _ _ _ h => h) (Or.inl ⟨by rfl, ?_⟩) hHeld ?_ ?_
            rotate_left
            · rintro w' ⟨s0, s1, s2⟩
              go_simp
              with_reducible rfl
            rotate_left
            · simp only [Act.put, List.setIfInBounds_toArray, List.set_cons_zero, List.set_cons_succ, i64_w, i32_w]
              rfl
            refine pure_ (i := 2) (N := some 38) (v := ?_) (a' := ?_) #[true, true, true, false, false, false, false, false, false, false, false, false] rfl rfl (by kernel_rfl) (fun _ _ _ h => h) (Or.inl ⟨by rfl, ?_⟩) ?_ ?_
            rotate_left
            · intro w'
              go_simp
              with_reducible rfl
            rotate_left
            · simp only [Act.put, List.setIfInBounds_toArray, List.set_cons_zero, List.set_cons_succ, i64_w, i32_w]
              rfl
            refine take_ (i := 3) (N := some 39) (v := ?_) (a' := ?_) #[true, true, true, true, false, false, false, false, false, false, false, false] rfl rfl (by kernel_rfl) (fun _ _ _ h => h) (Or.inl ⟨by rfl, ?_⟩) hHeld ?_ ?_
            rotate_left
            · rintro w' ⟨s0, s1, s2⟩
              go_simp
              with_reducible rfl
            rotate_left
            · simp only [Act.put, List.setIfInBounds_toArray, List.set_cons_zero, List.set_cons_succ, i64_w, i32_w]
              rfl
            refine pure_ (i := 5) (N := some 41) (v := ?_) (a' := ?_) #[true, true, true, true, false, true, false, false, false, false, false, false] rfl rfl (by kernel_rfl) (fun _ _ _ h => h) (Or.inl ⟨by rfl, ?_⟩) ?_ ?_
            rotate_left
            · intro w'
              go_simp
              with_reducible rfl
            rotate_left
            · simp only [Act.put, List.setIfInBounds_toArray, List.set_cons_zero, List.set_cons_succ, i64_w, i32_w]
              rfl
            refine take_ (i := 6) (N := some 42) (v := ?_) (a' := ?_) #[true, true, true, true, false, true, true, false, false, false, false, false] rfl rfl (by kernel_rfl) (fun _ _ _ h => h) (Or.inl ⟨by rfl, ?_⟩) hHeld ?_ ?_
            rotate_left
            · rintro w' ⟨s0, s1, s2⟩
              go_simp
              with_reducible rfl
            rotate_left
            · simp only [Act.put, List.setIfInBounds_toArray, List.set_cons_zero, List.set_cons_succ, i64_w, i32_w]
              rfl
            have HQd := Aside0.mk (below_drew HQ.out)
            have HWd := Aside0.mk (below_drew HWq.out)
            refine one_ (i := 4) (N := some 40) #[true, true, true, true, true, true, true, false, false, false, false, false] rfl rfl (by kernel_rfl) (by decide) (fun K hK => ?_)
            refine litB_step (by rfl) (by rfl) ?_
            intro v14 w4 HR14 HW14
            have HQ4 := Aside0.mk (below_then HQd.out HQd.out.size HW14.out)
            have HW4 := Aside0.mk (below_then HWd.out HWd.out.size HW14.out)
            refine hK.out _ _ (HSS.out _ HQ4.out) (fun _ => ?_)
            clear hK K
            refine norm_ (a' := ?_) ?_ ?_
            rotate_left
            · show Act.put _ (some 40) _ = _
              simp only [Act.put, List.setIfInBounds_toArray, List.set_cons_zero, List.set_cons_succ, i64_w, i32_w]
              rfl
            refine one_ (i := 7) (N := some 43) #[true, true, true, true, true, true, true, true, false, false, false, false] rfl rfl (by kernel_rfl) (by decide) (fun K hK => ?_)
            refine appB_step (w0 := wx) wx.heap.size (by rfl) (.tmp 40) (.tmp 42) (by rfl) v14 [] f.f1 B _ rfl rfl (Kd.R_lower HR14.out HQd.out.size) (Kd.C_below HCB.out (HBx.out _ HQ4.out)) HQ4.out HQ4.out.size (by simp only [List.length_nil]; omega) ?_
            intro b16 v16 w5 E16 HR16 HQ5
            refine hK.out _ _ (HSS.out _ HQ5.out) (fun _ => ?_)
            clear hK K HR14 HW14
            obtain ⟨A16, c16, rfl⟩ := Kd.R_slice HR16.out
            have HE := Aside0.mk (show (⟨f.f0, b16⟩ : S109) = f by rw [E16.out, List.nil_append])
            have hfr : w.heap.size + 2 ≤ wx.heap.size := by omega
            have HFr := Aside0.mk (fun (W : World) (hB : Below wx.heap.size wx W) => (fun k hk => HK1.out k (by have := hB.size; omega) : ∀ k, W.heap.size ≤ k → ok2 k))
            have HF := Aside0.mk (RB.foot (ok := ok2) HR16.out (fun k hk => HFr.out wx (Below.refl _ _) k hk))
            clear E16 hfr
            refine norm_ (a' := ?_) ?_ ?_
            rotate_left
            · show Act.put _ (some 43) _ = _
              simp only [Act.put, List.setIfInBounds_toArray, List.set_cons_zero, List.set_cons_succ, i64_w, i32_w]
              rfl
            refine pure_ (i := 8) (N := some 44) (v := ?_) (a' := ?_) #[true, true, true, true, true, true, true, true, true, false, false, false] rfl rfl (by kernel_rfl) (fun _ _ _ h => h) (Or.inl ⟨by rfl, ?_⟩) ?_ ?_
            rotate_left
            · intro w'
              go_simp
              with_reducible rfl
            rotate_left
            · simp only [Act.put, List.setIfInBounds_toArray, List.set_cons_zero, List.set_cons_succ, i64_w, i32_w]
              rfl
            refine one_ (i := 9) (N := some 45) #[true, true, true, true, true, true, true, true, true, true, false, false] rfl rfl (by kernel_rfl) (by decide) (fun K hK => ?_)
            refine goes_ Try.func80 (by kernel_rfl) rfl #[.slice A1 x.length c1, .agg #[.string f.f0, .slice A16 b16.length c16]] (by rfl) rfl rfl (by (try simp only [List.map_toArray, List.map_cons, List.map_nil]); first | done | rfl) ?_
            refine (with_calls ok2 A1 c1 x ⟨f.f0, b16⟩ A16 c16 w5 (HFr.out _ HQ5.out) (Kd.V_below HVr.out (HBx.out _ HQ5.out)) HF.out.2.1 HF.out.2.2 (by omega)).mono ?_
            rintro e w6 ⟨⟨v6, rfl, hv6⟩, hB6⟩
            rw [HE.out] at hv6
            obtain ⟨A6, c6, rfl⟩ := Kd.V_slice hv6
            have HV6 := Aside0.mk hv6
            have HQ6 := Aside0.mk (below_then HQ5.out HQ5.out.size hB6)
            have HW6 := Aside0.mk (below_then HW.out HW.out.size (HBx.out _ HQ6.out))
            refine ⟨_, rfl, hK.out _ _ (HSS.out _ HQ6.out) (fun _ => ?_)⟩
            clear hK K hv6 hB6
            rw [← HST.out] at HV6
            refine norm_ (a' := ?_) ?_ ?_
            rotate_left
            · show Act.put _ (some 45) _ = _
              simp only [Act.put, List.setIfInBounds_toArray, List.set_cons_zero, List.set_cons_succ, i64_w, i32_w]
              rfl
            refine pure_ (i := 10) (N := some 46) (v := ?_) (a' := ?_) #[true, true, true, true, true, true, true, true, true, true, true, false] rfl rfl (by kernel_rfl) (fun _ _ _ h => h) (Or.inl ⟨by rfl, ?_⟩) ?_ ?_
            rotate_left
            · intro w'
              go_simp
              with_reducible rfl
            rotate_left
            · simp only [Act.put, List.setIfInBounds_toArray, List.set_cons_zero, List.set_cons_succ, i64_w, i32_w]
              rfl
            refine last_ (i := 11) (N := none) #[true, true, true, true, true, true, true, true, true, true, true, true] rfl rfl (by kernel_rfl) (by decide) (fun K hK => ?_)
            have hy0 : w6.cell? ⟨w.heap.size + 1, 0, none⟩ = some (.slice A1 x.length c1) := (blk_cell (HG4.out _ HQ6.out) 0).trans rfl
            have hfy0 := blk_frozen (HG4.out _ HQ6.out) 0
            refine skip_ (w1 := ?_) (by rfl) rfl ?_ ?_
            rotate_left
            · go_simp
              rfl
            refine hK.out _ _ ?_
            clear hK K
            refine done_ (by kernel_rfl) ?_
            go_wp2
            go_roundw
            case rel =>
              refine ⟨j + 1, A6, c6, by omega, by go_num, HGS, ⟨blk_far (HG2.out _ HQ6.out) (p := ⟨w.heap.size + 1, 0, none⟩) (by show ¬ w.heap.size = w.heap.size + 1; omega) _⟩, ⟨?_⟩, ⟨?_⟩, ⟨below_set HW6.out (by omega)⟩⟩
              · have e : (loadL (l.take (j + 1))).length = (withL x f).length := by rw [HST.out]
                exact blk_put (cs := #[.slice A1 x.length c1, .slice none 0 0]) (HG4.out _ HQ6.out) 0 _ (by rw [e]; rfl)
              · have hv := Kd.V_far HV6.out (p := ⟨w.heap.size + 1, 0, none⟩) (fun k hk => (HK2.out k hk).2.2) (.slice A6 (withL x f).length c6)
                rw [HST.out] at hv ⊢
                exact hv
            case measure => simp [intOf]; omega
    · obtain rfl : k = l.length := by omega
      have HLO := Aside0.mk (loadOk_good.2 HG.out)
      rw [List.take_length] at HB4 HVr
      have hz0 : wo.cell? ⟨w.heap.size, 0, none⟩ = some (.slice none 0 0) := (blk_cell HB2.out 0).trans rfl
      have hz1 : wo.cell? ⟨w.heap.size, 1, none⟩ = some (.slice none 0 0) := (blk_cell HB2.out 1).trans rfl
      have hf0 := blk_frozen HB2.out 0
      have hf1 := blk_frozen HB2.out 1
      have hx0 : wo.cell? ⟨w.heap.size + 1, 0, none⟩ = some (.slice A1 (loadL l).length c1) := (blk_cell HB4.out 0).trans rfl
      have hx1 : wo.cell? ⟨w.heap.size + 1, 1, none⟩ = some (.slice none 0 0) := (blk_cell HB4.out 1).trans rfl
      go_wp2
      refine bodyPost_ret (results_ct rfl _ _ w.heap.size 53 #[.slice A1 (loadL l).length c1, .slice none 0 0] (0, 0) _ rfl (blk_put2 HB2.out _ _) Try.underlying53 rfl (by kernel_rfl)) rfl ?_
      exact ⟨⟨_, _, by rw [HLO.out]; rfl, by rw [HLO.out]; exact V_set2 (Kd.V_mono HVr.out (fun k hk => ⟨(HK2.out k hk).1, (HK2.out k hk).2.1⟩)) _ _ _ _, Kd.V_nil _ _ _ _ _⟩, below_set (below_set HW.out (Nat.le_refl _)) (Nat.le_refl _)⟩
end Go.Proofs.Ytfaniohoplbdoaa.My
