/-
  DERIVED: THE SHELF's CONTRACTS AT THIS DUMP, IN PLAIN WORDS (tools/lay-plain.mjs out of 'YtfaniohoplbdoaaShelf0.lean', which tools/lay-shelf.mjs wrote): THE SAME DECLARATIONS UNDER THE SAME NAMES: 'import', 'namespace', 'open', 'def', 'theorem' AND NOTHING ELSE: no command of the shelf's: FOR A HAND-IN. Each laying: the table of numbers ('.._ren') and one theorem, a field a fact of the dump's own or the kernel's comparison; each contract: ONE APPLICATION.
-/
import Derived.Shelf.SlGeneric
import Derived.Shelf.SlIter.Nil
import Derived.Shelf.SortM.Plain
import Derived.Shelf.SortM.SortNone
import Derived.Shelf.SlMaps.Clone
import Derived.Ground.GgzProg
import Derived.Ground.SlgmProg
import Derived.Ground.SlmcProg
import Derived.Test.YtfaniohoplbdoaaProg
import Derived.Test.YtfaniohoplbdoaaBb
import Derived.ArgAppend
namespace Go.Proofs
open Go.Shelf
def Try.keys95_ren : Go.Shelf.Ren := ⟨fun | 7 => 95 | 10 => 99 | n => n, fun | 23 => 110 | 26 => 9 | 3 => 22 | 28 => 137 | 0 => 0 | 27 => 136 | 33 => 69 | 4 => 4 | n => n, fun | n => n⟩
theorem Try.keys95 : Go.Proofs.SlLaysZ.n7 Try.prog Try.keys95_ren := {
  mixed := by kernel_rfl
  f7 := ⟨Try.f95.name, by decide, Try.func95.trans (congrArg some (by kernel_rfl))⟩
  f10 := ⟨Try.f99.name, by decide, Try.func99.trans (congrArg some (by kernel_rfl))⟩
  t0 := Try.underlying0
  a0 := Try.isAgg0
  z0 := Try.sizeOf0
  v0 := Try.zeroValue0
  t4 := Try.underlying4
  a4 := Try.isAgg4
  z4 := Try.sizeOf4
  v4 := Try.zeroValue4
  t23 := Try.underlying110
  a23 := Try.isAgg110
  z23 := Try.sizeOf110
  v23 := Try.zeroValue110
  t26 := Try.underlying9
  a26 := Try.isAgg9
  z26 := Try.sizeOf9
  v26 := Try.zeroValue9
  t27 := Try.underlying136
  a27 := Try.isAgg136
  z27 := Try.sizeOf136
  v27 := Try.zeroValue136
  t28 := Try.underlying137
  a28 := Try.isAgg137
  z28 := Try.sizeOf137
  v28 := Try.zeroValue137
  t33 := Try.underlying69
  a33 := Try.isAgg69
  z33 := Try.sizeOf69
  v33 := Try.zeroValue69 }
def Try.sorted94_ren : Go.Shelf.Ren := ⟨fun | 6 => 94 | 8 => 97 | 9 => 98 | 11 => 100 | 13 => 102 | 12 => 101 | 23 => 112 | 24 => 113 | 14 => 103 | 15 => 104 | 16 => 105 | 17 => 106 | 18 => 107 | 19 => 108 | 20 => 109 | 21 => 110 | 22 => 111 | 25 => 114 | 26 => 115 | 27 => 116 | 28 => 117 | 29 => 118 | 30 => 119 | 31 => 120 | n => n, fun | 26 => 9 | 28 => 137 | 24 => 134 | 0 => 0 | 3 => 3 | 37 => 128 | 48 => 23 | 50 => 155 | 4 => 4 | 40 => 146 | 39 => 145 | 45 => 151 | 5 => 5 | 9 => 9 | 51 => 156 | 55 => 160 | 57 => 162 | 58 => 163 | 33 => 69 | n => n, fun | n => n⟩
theorem Try.sorted94 : Go.Proofs.SlLaysZ.n6 Try.prog Try.sorted94_ren := {
  mixed := by kernel_rfl
  f6 := ⟨Try.f94.name, by decide, Try.func94.trans (congrArg some (by kernel_rfl))⟩
  f8 := ⟨Try.f97.name, by decide, Try.func97.trans (congrArg some (by kernel_rfl))⟩
  f11 := ⟨Try.f100.name, by decide, Try.func100.trans (congrArg some (by kernel_rfl))⟩
  t0 := Try.underlying0
  a0 := Try.isAgg0
  z0 := Try.sizeOf0
  v0 := Try.zeroValue0
  t24 := Try.underlying134
  a24 := Try.isAgg134
  z24 := Try.sizeOf134
  v24 := Try.zeroValue134
  t26 := Try.underlying9
  a26 := Try.isAgg9
  z26 := Try.sizeOf9
  v26 := Try.zeroValue9
  t28 := Try.underlying137
  a28 := Try.isAgg137
  z28 := Try.sizeOf137
  v28 := Try.zeroValue137
  i26 := by kernel_rfl }
def Try.sort98_ren : Go.Shelf.Ren := ⟨fun | 6 => 98 | 8 => 102 | 9 => 101 | 19 => 112 | 20 => 113 | 21 => 103 | 22 => 104 | 23 => 105 | 24 => 106 | 25 => 107 | 26 => 108 | 27 => 109 | 28 => 110 | 29 => 111 | 36 => 114 | 31 => 115 | 32 => 116 | 37 => 117 | 38 => 118 | 39 => 119 | 41 => 120 | n => n, fun | 27 => 134 | 29 => 9 | 3 => 3 | 32 => 128 | 26 => 134 | 0 => 0 | 44 => 23 | 46 => 155 | 4 => 4 | 36 => 146 | 35 => 145 | 41 => 151 | 5 => 5 | 9 => 9 | 53 => 156 | 57 => 160 | 63 => 162 | 64 => 163 | n => n, fun | n => n⟩
theorem Try.sort98 : Go.Proofs.SlLaysM.n6 Try.prog Try.sort98_ren := {
  mixed := by kernel_rfl
  f6 := ⟨Try.f98.name, by decide, Try.func98.trans (congrArg some (by kernel_rfl))⟩
  f8 := Try.func102.trans (congrArg some (by kernel_rfl))
  f9 := ⟨Try.f101.name, by decide, Try.func101.trans (congrArg some (by kernel_rfl))⟩
  f19 := Try.func112.trans (congrArg some (by kernel_rfl))
  f20 := Try.func113.trans (congrArg some (by kernel_rfl))
  f21 := ⟨Try.f103.name, by decide, Try.func103.trans (congrArg some (by kernel_rfl))⟩
  f22 := ⟨Try.f104.name, by decide, Try.func104.trans (congrArg some (by kernel_rfl))⟩
  f23 := ⟨Try.f105.name, by decide, Try.func105.trans (congrArg some (by kernel_rfl))⟩
  f24 := ⟨Try.f106.name, by decide, Try.func106.trans (congrArg some (by kernel_rfl))⟩
  f25 := ⟨Try.f107.name, by decide, Try.func107.trans (congrArg some (by kernel_rfl))⟩
  f26 := ⟨Try.f108.name, by decide, Try.func108.trans (congrArg some (by kernel_rfl))⟩
  f27 := ⟨Try.f109.name, by decide, Try.func109.trans (congrArg some (by kernel_rfl))⟩
  f28 := ⟨Try.f110.name, by decide, Try.func110.trans (congrArg some (by kernel_rfl))⟩
  f29 := ⟨Try.f111.name, by decide, Try.func111.trans (congrArg some (by kernel_rfl))⟩
  f31 := Try.func115.trans (congrArg some (by kernel_rfl))
  f32 := Try.func116.trans (congrArg some (by kernel_rfl))
  f36 := ⟨Try.f114.name, by decide, Try.func114.trans (congrArg some (by kernel_rfl))⟩
  f37 := ⟨Try.f117.name, by decide, Try.func117.trans (congrArg some (by kernel_rfl))⟩
  f38 := ⟨Try.f118.name, by decide, Try.func118.trans (congrArg some (by kernel_rfl))⟩
  f39 := ⟨Try.f119.name, by decide, Try.func119.trans (congrArg some (by kernel_rfl))⟩
  f41 := ⟨Try.f120.name, by decide, Try.func120.trans (congrArg some (by kernel_rfl))⟩
  t0 := Try.underlying0
  a0 := Try.isAgg0
  z0 := Try.sizeOf0
  v0 := Try.zeroValue0
  t3 := Try.underlying3
  a3 := Try.isAgg3
  z3 := Try.sizeOf3
  v3 := Try.zeroValue3
  t4 := Try.underlying4
  a4 := Try.isAgg4
  z4 := Try.sizeOf4
  v4 := Try.zeroValue4
  t5 := Try.underlying5
  a5 := Try.isAgg5
  z5 := Try.sizeOf5
  v5 := Try.zeroValue5
  t9 := Try.underlying9
  a9 := Try.isAgg9
  z9 := Try.sizeOf9
  v9 := Try.zeroValue9
  t26 := Try.underlying134
  a26 := Try.isAgg134
  z26 := Try.sizeOf134
  v26 := Try.zeroValue134
  t27 := Try.underlying134
  a27 := Try.isAgg134
  z27 := Try.sizeOf134
  v27 := Try.zeroValue134
  t29 := Try.underlying9
  a29 := Try.isAgg9
  z29 := Try.sizeOf9
  v29 := Try.zeroValue9
  t32 := Try.underlying128
  a32 := Try.isAgg128
  z32 := Try.sizeOf128
  v32 := Try.zeroValue128
  t35 := Try.underlying145
  a35 := Try.isAgg145
  z35 := Try.sizeOf145
  v35 := Try.zeroValue145
  t36 := Try.underlying146
  a36 := Try.isAgg146
  z36 := Try.sizeOf146
  v36 := Try.zeroValue146
  t41 := Try.underlying151
  a41 := Try.isAgg151
  z41 := Try.sizeOf151
  v41 := Try.zeroValue151
  t44 := Try.underlying23
  a44 := Try.isAgg23
  z44 := Try.sizeOf23
  v44 := Try.zeroValue23
  t46 := Try.underlying155
  a46 := Try.isAgg155
  z46 := Try.sizeOf155
  v46 := Try.zeroValue155
  t53 := Try.underlying156
  a53 := Try.isAgg156
  z53 := Try.sizeOf156
  v53 := Try.zeroValue156
  t57 := Try.underlying160
  a57 := Try.isAgg160
  z57 := Try.sizeOf160
  v57 := Try.zeroValue160
  t63 := Try.underlying162
  a63 := Try.isAgg162
  z63 := Try.sizeOf162
  v63 := Try.zeroValue162
  t64 := Try.underlying163
  a64 := Try.isAgg163
  z64 := Try.sizeOf163
  v64 := Try.zeroValue163 }
def Try.clone92_ren : Go.Shelf.Ren := ⟨fun | 5 => 92 | 7 => 96 | n => n, fun | 23 => 110 | 25 => 9 | 3 => 22 | 4 => 4 | 20 => 20 | n => n, fun | n => n⟩
theorem Try.clone92 : Go.Proofs.SlLaysW.n5 Try.prog Try.clone92_ren := {
  mixed := by kernel_rfl
  f5 := ⟨Try.f92.name, by decide, Try.func92.trans (congrArg some (by kernel_rfl))⟩
  f7 := Try.func96.trans (congrArg some (by kernel_rfl))
  t4 := Try.underlying4
  a4 := Try.isAgg4
  z4 := Try.sizeOf4
  v4 := Try.zeroValue4
  t20 := Try.underlying20
  a20 := Try.isAgg20
  z20 := Try.sizeOf20
  v20 := Try.zeroValue20
  t23 := Try.underlying110
  a23 := Try.isAgg110
  z23 := Try.sizeOf110
  v23 := Try.zeroValue110 }
end Go.Proofs
/- The files of a disk, as a map. -/
namespace Go.Proofs.Ytfaniohoplbdoaa.My
open Go Go.RowKit Go.Proofs.YtfaniohoplbdoaaW.PrintWords Go.Proofs.YtfaniohoplbdoaaW.PrintLast Go.Proofs.YtfaniohoplbdoaaW.PrintMore Go.Proofs.Ytfaniohoplbdoaa.PDiskActs
set_option linter.unusedVariables false
set_option linter.unusedSimpArgs false
/-- An element of such a map is told as it stands. -/
def RV (v : Value) : Option (DataW Value × List MemPlace) := some (.held v, [])
theorem keyLaw : Maps.Keyed Try.prog 9 := Maps.string_keyed Try.underlying9
theorem zero22 (w : World) : (zeroValue 22).run Try.prog w = .ok (.slice none 0 0) w := by kernel_rfl
theorem key_of {nm : ByteArray} (h : nm.size ≤ maxLen) : keyOf Try.prog 9 (.string nm) = some (.string nm.data.toList) := WideMaps.keyOf_string_mk Try.underlying9 h
theorem RV_inj {v : Value} {d : DataW Value} {ps : List MemPlace} (h : RV v = some (d, ps)) : DataW.held v = d := (Prod.mk.inj (Option.some.inj h)).1
/-- Block b is a map of at most n files, l; what they lead to lies in ok. -/
def MP (w : World) (ok : Nat → Prop) (b n : Nat) (l : List S109) : Prop := ∃ D, w.ownsMap Try.prog 9 RV b n D ∧ Mir (fun v bs => VB w ok v bs) D l
theorem MP.move {w w' : World} {ok : Nat → Prop} {b n : Nat} {l : List S109} (h : MP w ok b n l) (hb : Below w.heap.size w w') : MP w' ok b n l := by
  obtain ⟨D, ho, hm⟩ := h
  have hlt := ho.lt
  obtain ⟨es, clock, h1, h2⟩ := ho
  exact ⟨D, ⟨es, clock, (hb.block b hlt).trans h1, h2⟩, hm.imp fun v bs hv => Kd.V_below hv hb⟩
theorem MP.lt {w : World} {ok : Nat → Prop} {b n : Nat} {l : List S109} (h : MP w ok b n l) : b < w.heap.size := by
  obtain ⟨D, ho, hm⟩ := h
  exact ho.lt
theorem MP.look {w : World} {ok : Nat → Prop} {b n : Nat} {l : List S109} (h : MP w ok b n l) {nm : ByteArray} (hn : nm.size ≤ maxLen) :
    ∃ v, (Instr.lookup 110 (.map (some b)) (.string nm) false).run Try.prog w = .ok v w ∧ VB w ok v ((findL l nm).getD []) := by
  obtain ⟨D, ho, hm⟩ := h
  obtain ⟨v, ps, hrun, hv⟩ := ho.lookup keyLaw Try.underlying110 (zero22 w) (zd := .held (.slice none 0 0)) (zp := []) rfl (key_of hn)
  have hv' : v = v ∧ DataW.held v = D.atKey (.string nm.data.toList) (.held (.slice none 0 0)) := ⟨rfl, RV_inj hv⟩
  refine ⟨v, hrun, ?_⟩
  rcases hm.look nm (.held (.slice none 0 0)) with ⟨h1, h2, h3⟩ | ⟨u, bs, h1, h2, h3, h4⟩
  · rw [h3] at hv'
    have e := hv'.2
    injection e with e
    rw [h1, e]
    exact Kd.V_nil _ _ _ _ _
  · rw [h3] at hv'
    have e := hv'.2
    injection e with e
    rw [h1, e]
    exact h4
theorem MP.look_ok {w : World} {ok : Nat → Prop} {b n : Nat} {l : List S109} (h : MP w ok b n l) {nm : ByteArray} (hn : nm.size ≤ maxLen) :
    ∃ v, (Instr.lookup 110 (.map (some b)) (.string nm) true).run Try.prog w = .ok (.tuple #[v, .bool (findL l nm).isSome]) w ∧ VB w ok v ((findL l nm).getD []) := by
  obtain ⟨D, ho, hm⟩ := h
  obtain ⟨v, ps, hrun, hv⟩ := ho.look_ok keyLaw Try.underlying110 (zero22 w) (zd := .held (.slice none 0 0)) (zp := []) rfl (key_of hn)
  have hv' : DataW.held v = D.atKey (.string nm.data.toList) (.held (.slice none 0 0)) := RV_inj hv
  rcases hm.look nm (.held (.slice none 0 0)) with ⟨h1, h2, h3⟩ | ⟨u, bs, h1, h2, h3, h4⟩
  · rw [h3] at hv'
    injection hv' with e
    rw [h2] at hrun
    refine ⟨v, by rw [h1]; exact hrun, ?_⟩
    rw [h1, e]
    exact Kd.V_nil _ _ _ _ _
  · rw [h3] at hv'
    injection hv' with e
    rw [h2] at hrun
    refine ⟨v, by rw [h1]; exact hrun, ?_⟩
    rw [h1, e]
    exact h4
theorem MP.put {w : World} {ok : Nat → Prop} {b n : Nat} {l : List S109} (h : MP w ok b n l) (hb : ∀ k, ok k → k ≠ b) {f : S109} {v : Value} (hn : f.f0.size ≤ maxLen) (hl : n < maxLen) (hv : VB w ok v f.f1) :
    ∃ w', (Instr.mapUpdate 110 (.map (some b)) (.string f.f0) v).run Try.prog w = .ok () w' ∧ MP w' ok b (n + 1) (withL l f) ∧ w.grownBy w' (some b) := by
  obtain ⟨D, ho, hm⟩ := h
  obtain ⟨w', hrun, ho', hg⟩ := ho.update keyLaw Try.underlying110 hl (key_of hn) (val := v) (d := .held v) (ps := []) rfl
  refine ⟨w', hrun, ⟨_, ho', ?_⟩, hg⟩
  exact (hm.put f hv).imp fun v bs hv => Kd.V_grown hv hg (fun k hk he => hb k hk (by injection he))
theorem MP.del {w : World} {ok : Nat → Prop} {b n : Nat} {l : List S109} (h : MP w ok b n l) (hb : ∀ k, ok k → k ≠ b) {nm : ByteArray} (hn : nm.size ≤ maxLen) (ty : TypeId) :
    ∃ w', (Builtin.delete_ #[110, 9] ty #[.map (some b), .string nm]).run Try.prog w = .ok (.tuple #[]) w' ∧ MP w' ok b n (withoutL l nm) ∧ w.grownBy w' (some b) := by
  obtain ⟨D, ho, hm⟩ := h
  obtain ⟨w', hrun, ho', hg⟩ := ho.drop keyLaw Try.underlying110 (key_of hn) ty
  refine ⟨w', hrun, ⟨_, ho', ?_⟩, hg.grown⟩
  exact (hm.del nm).imp fun v bs hv => Kd.V_grown hv hg.grown (fun k hk he => hb k hk (by injection he))
/-! ### the library -/
theorem clone_calls (ok : Nat → Prop) (b n : Nat) (l : List S109) (w : World) (h : MP w ok b n l) :
    Calls Try.prog 92 #[.map (some b)] w fun e w' => e = .returned (.map (some w.heap.size)) ∧ MP w' ok w.heap.size n l ∧ Below w.heap.size w w' := by
  obtain ⟨D, ho, hm⟩ := h
  exact (AnyW.maps_Clone_owns Try.clone92 9 RV b n D w ho).mono fun e w' ⟨h1, h2, _, h4⟩ => ⟨h1, ⟨D, h2, hm.imp fun v bs hv => Kd.V_below hv h4⟩, h4⟩
end Go.Proofs.Ytfaniohoplbdoaa.My
/- The names of a map's files, sorted. -/
namespace Go.Proofs
open Go.RowKit Go.Maps Go.Sort Go.Shelf
/-- slices.Sort's two contracts at this dump, at the fence that asks nothing. -/
theorem Try.sorts94 (m : Nat) : AnyZ.SortsIn Try.prog Try.sorted94_ren Fence.wide m :=
  ⟨fun blk off cap ss W hH hblk hsz => callsIn_wide.2 (AnyM.slices_Sort_string Try.sort98 blk off cap ss W hH hblk hsz),
   fun p cap W => callsIn_wide.2 (AnyM.slices_Sort_string_none Try.sort98 p cap W)⟩

/-- **maps.Keys[map[string][]byte,string,[]byte], at whatever map, the nil one too:** a function value over ONE NEW BLOCK, which holds the map. -/
theorem Try.maps_Keys_95 (mb : Option Nat) (W : World) : CallsIn Fence.wide 5 Try.prog 95 #[.map mb] W fun e w' => e = .returned (.func (.func 99) #[] #[.pointer (some ⟨W.heap.size, 0, none⟩)]) ∧ w' = W.alloc (.cells #[.map mb] 110) :=
  AnyZ.keys_in Try.keys95 Fence.wide 5 trivial rfl mb W

set_option maxHeartbeats 1000000 in
/-- **slices.Sorted[string] AT WHAT maps.Keys[map[string][]byte,string,[]byte] HANDED BACK FOR A MAP THAT IS NOT nil** ('w': the world AHEAD of maps.Keys' call): A NEW SLICE THAT HOLDS THE MAP's KEYS, SORTED; nil just where it has none; nothing that lay before has turned. -/
theorem Try.slices_Sorted_keys_94_95 {H : Type} (b nn : Nat) (D0 : DataW H) (R : Value → Option (DataW H × List MemPlace)) (w : World) (hown : w.ownsMap Try.prog 9 R b nn D0) (hmax : Maps.size D0 ≤ maxLen) (hbytes : Maps.size D0 * 16 ≤ 140737488355328) :
    CallsIn Fence.wide 5 Try.prog 94 #[.func (.func 99) #[] #[.pointer (some ⟨w.heap.size, 0, none⟩)]] (w.alloc (.cells #[.map (some b)] 110)) fun e w' => ∃ (v : Value) (ss : List (List UInt8)), e = .returned v ∧ ss.Perm (strKeys D0) ∧
      w'.ownsRow (w.alloc (.cells #[.map (some b)] 110)).heap.size 9 1 v ss.length ((ss.mergeSort (fun x y => decide (x ≤ y))).map encStr) ∧ (v = .slice none 0 0 ↔ ss = []) ∧ Below (w.alloc (.cells #[.map (some b)] 110)).heap.size (w.alloc (.cells #[.map (some b)] 110)) w' := by
  have hbl := hown.lt
  have hseq : SeqGives Fence.wide 2 Try.prog 99 #[.pointer (some ⟨w.heap.size, 0, none⟩)] encStr (fun ss => ss.Perm (strKeys D0)) (Maps.size D0) (w.alloc (.cells #[.map (some b)] 110)) :=
    AnyZ.keys_gives (ρ := Try.keys95_ren) { Try.keys95 with } Fence.wide _ trivial rfl (by omega) w.heap.size b nn D0 _ (by simp) (by simp) (by
      obtain ⟨es, clock, hb, Ft, hs, hD⟩ := hown
      exact ⟨es, clock, (Below.heap_alloc _ _ b hbl).trans hb, Ft, hs, hD⟩)
  exact AnyZ.sorted_in Try.sorted94 Fence.wide 5 trivial trivial trivial trivial rfl (by omega) (Try.sorts94 _) (enters_of Try.func98 (by kernel_rfl) rfl) 99 #[.pointer (some ⟨w.heap.size, 0, none⟩)] trivial (enters_of Try.func99 (by kernel_rfl) rfl) _ _ hmax hbytes _ hseq

end Go.Proofs
namespace Go.Proofs.Ytfaniohoplbdoaa.My
open Go Go.RowKit Go.Proofs.YtfaniohoplbdoaaW.PrintWords Go.Proofs.YtfaniohoplbdoaaW.PrintLast Go.Proofs.YtfaniohoplbdoaaW.PrintMore Go.Proofs.Ytfaniohoplbdoaa.PDiskActs
set_option linter.unusedVariables false
set_option linter.unusedSimpArgs false
theorem keys_calls (b : Nat) (w : World) : Calls Try.prog 95 #[.map (some b)] w fun e w' => e = .returned (.func (.func 99) #[] #[.pointer (some ⟨w.heap.size, 0, none⟩)]) ∧ w' = w.alloc (.cells #[.map (some b)] 110) :=
  callsIn_wide.1 (Try.maps_Keys_95 (some b) w)
theorem sorted_keys {D : DataW Value} {es : List (Lit × DataW Value)} (he : D = .map es) (hp : es.Pairwise (fun p q => p.1.before q.1 = true)) {Rv : Value → List Int → Prop} {l : List S109} (hm : Mir Rv D l) {ss : List (List UInt8)} (hs : ss.Perm (strKeys D)) :
    ss.mergeSort (fun x y => decide (x ≤ y)) = l.map fun f => f.f0.data.toList := by
  have h1 := mergeSort_of_perm hs
  have h2 : (strKeys D).Pairwise (fun x y => leB x y = true) := by
    subst he
    obtain ⟨es', he', ha⟩ := hm
    injection he' with he'
    subst he'
    show (es.map fun p => strOf p.1).Pairwise _
    rw [List.pairwise_map]
    have hk : ∀ {es : List (Lit × DataW Value)} {l : List S109}, All2 (EntryOf Rv) es l → ∀ p ∈ es, ∃ x, p.1 = .string x := by
      intro es
      induction es with
      | nil => intro l h p hp; cases hp
      | cons e es ih =>
        intro l h p hp
        cases l with
        | nil => exact h.elim
        | cons f l =>
          rcases List.mem_cons.1 hp with rfl | hp
          · exact ⟨_, h.1.1⟩
          · exact ih h.2 p hp
    refine List.Pairwise.imp_of_mem ?_ hp
    intro p q hp hq hb
    obtain ⟨x, hx⟩ := hk ha p hp
    obtain ⟨y, hy⟩ := hk ha q hq
    rw [hx, hy] at hb ⊢
    have hb' : bytesBefore x y = true := hb
    rw [before_less, bytesLess_eq] at hb'
    show decide (x ≤ y) = true
    exact decide_eq_true (List.le_of_lt (of_decide_eq_true hb'))
  have h3 : ss.mergeSort leB = strKeys D := h1.trans (List.mergeSort_of_pairwise h2)
  have h4 := hm.keys
  rw [← h4]
  exact h3
theorem sorted_calls (ok : Nat → Prop) (b n : Nat) (l : List S109) (w : World) (h : MP w ok b n l) (hl : l.length ≤ 1099511627776) :
    Calls Try.prog 94 #[.func (.func 99) #[] #[.pointer (some ⟨w.heap.size, 0, none⟩)]] (w.alloc (.cells #[.map (some b)] 110)) fun e w' => (∃ A c, e = .returned (.slice A l.length c) ∧ Kd.C Kd.string w' A l.length (l.map S109.f0)) ∧ Below w.heap.size w w' := by
  obtain ⟨D, ho, hm⟩ := h
  have hsz := hm.size
  obtain ⟨es, he, hp, _⟩ := ho.canon keyLaw
  refine (callsIn_wide.1 (Try.slices_Sorted_keys_94_95 b n D RV w ho (by rw [hsz]; unfold maxLen; omega) (by rw [hsz]; omega))).mono fun e w' hh => ?_
  obtain ⟨v, ss, rfl, hS, hrow, hnil, hb⟩ := hh
  have hlen : ss.length = l.length := by rw [hS.length_eq, hm.keys, List.length_map]
  rw [sorted_keys he hp hm hS] at hrow
  have hr : Kd.R Kd.string 9 w' (w.alloc (.cells #[.map (some b)] 110)).heap.size (fun _ => True) v (l.map S109.f0) := by
    refine Kd.R_of_own (enc := Value.string) (h1 := fun _ => rfl) ?_ (fun _ _ => trivial)
    have e1 : (l.map S109.f0).length = ss.length := by rw [List.length_map, hlen]
    have e2 : (l.map fun f => f.f0.data.toList).map encStr = encs Value.string (l.map S109.f0) := by
      simp [encs, encStr]
    rw [e1, ← e2]
    exact hrow
  obtain ⟨A, c, rfl, _, hC⟩ := Kd.R_reads hr
  rw [List.length_map] at hC
  exact ⟨⟨A, c, by rw [List.length_map], hC⟩, below_then (below_alloc (Below.refl _ _) _) (by rw [alloc_size]; omega) hb⟩
end Go.Proofs.Ytfaniohoplbdoaa.My
/- slices.Clone on bytes, and the list of a map's files. -/
namespace Go.Proofs.Ytfaniohoplbdoaa.My
open Go Go.RowKit Go.Proofs.YtfaniohoplbdoaaW.PrintWords Go.Proofs.YtfaniohoplbdoaaW.PrintLast Go.Proofs.YtfaniohoplbdoaaW.PrintMore Go.Proofs.Ytfaniohoplbdoaa.PDiskActs
set_option linter.unusedVariables false
set_option linter.unusedSimpArgs false
set_option maxHeartbeats 1000000 in
set_option maxRecDepth 100000 in
theorem cloneB_calls (A : Option Addr) (c : Nat) (l : List Int) (w : World) (hC : CB w A l) (hl : l.length ≤ 140737488351232) :
    Calls Try.prog 79 #[.slice A l.length c] w fun e w' => (∃ v, e = .returned v ∧ RB w' w.heap.size v l) ∧ Below w.heap.size w w' := by
  have HC := Aside0.mk hC
  have hq : ∀ (w : World) (a : Option Addr) (n c n' c' : Nat), (binOp .eql 22 (.slice a n c) (.slice none n' c')).run Try.prog w = .ok (.bool a.isNone) w := fun w a n c n' c' => Lib.run_eql_slice_nil w _ _ a n c n' c' Try.underlying22
  cases A with
  | none =>
    have h0 : l = [] := by
      have := hC.2.2
      by_cases h : 0 < l.length
      · obtain ⟨ad, he, _⟩ := this h
        cases he
      · exact List.eq_nil_of_length_eq_zero (by omega)
    subst h0
    clear hC
    go_enter Try.func79, Try.ntmps79
    go_wp2
    go_ret
    exact ⟨⟨_, rfl, Kd.R_nil _ _ _ _ _⟩, Below.refl _ _⟩
  | some ad =>
    clear hC
    go_enter Try.func79, Try.ntmps79
    go_wp2_with (first | ((with_reducible refine gate_dst (N := 7) rfl ?_); refine app_bts (w0 := w) w.heap.size rfl (.tmp 5) (.tmp 6) rfl _ [] l (some ad) c rfl rfl (RB_lit0 rfl (Nat.le_refl _)) (Kd.C_alloc HC.out _) (below_alloc (Below.refl _ _) _) (below_alloc (Below.refl w.heap.size w) _).size (by simp only [List.length_nil]; omega) ?_; intro z v w2 EZ HR HW2) | fail)
    go_ret
    have hr := HR.out
    rw [EZ.out, List.nil_append] at hr
    exact ⟨⟨_, rfl, hr⟩, HW2.out⟩
theorem str_at {w : World} {A : Option Addr} {l : List S109} (h : Kd.C Kd.string w A l.length (l.map S109.f0)) (j : Nat) (hj : j < l.length) : ∃ ad, A = some ad ∧ w.cell? (ad.add j) = some (.string l[j].f0) := by
  obtain ⟨ad, e, hc⟩ := h.2.2 (by omega)
  obtain ⟨cs, hlen, hK, hcell⟩ := hc j l[j].f0 (by rw [List.getElem?_map, List.getElem?_eq_getElem hj]; rfl)
  have hK' : cs = [.string l[j].f0] := hK
  subst hK'
  have := hcell 0 _ rfl
  rw [show j * Kd.sz Kd.string + 0 = j from by show j * 1 + 0 = j; omega] at this
  exact ⟨ad, e, this⟩
theorem app_file2 {ops : Array Oper} {rest : List Oper} {o : Oper} {a : Act} {Q : Exit → Act → World → Prop} {w0 W : World} (base : Nat) (hgd : o.guard = none) (s x : Operand)
    (ho : o.op = .call { callee := .builtin .append, args := #[s, x], argTypes := #[42, 42] }) (v : Value) (xs : List S109) (p : S109) (A : Option Addr) (c : Nat) (ok okp : Nat → Prop) {g : Nat} (hs : a.eval s = v) (hx : a.eval x = .slice (some ⟨g, 0, none⟩) 1 1) (hgw : g = W.heap.size)
    (hl1 : p.f1.length ≤ c) (hp : Kd.F (Kd.int .u8) W okp A p.f1.length p.f1) (hokp : ∀ k, okp k → ok k ∧ some k ≠ v.ownBlock) (hfresh : ∀ k, W.heap.size ≤ k → ok k)
    (HO : NF W base ok v xs) (HB : Below base w0 W) (hbase : base ≤ W.heap.size) (hl : xs.length + 1 ≤ 3518437208883)
    (h : ∀ (ys : List S109) v1 w1, Aside0 (ys = xs ++ [p]) → Aside0 (NF w1 base ok v1 ys) → Aside0 (Below base w0 w1) → wpList Try.prog ops Q rest (a.put o.dst v1) w1) : wpList Try.prog ops Q (o :: rest) a (W.alloc (.cells #[.string p.f0, .slice A p.f1.length c] 109)) :=
  Kd.N_append k109 base hgd s x 42 109 (.agg #[(.string ⟨#[]⟩), (.slice none 0 0)]) 40 ho Try.underlying42 info109 rfl (by decide) (by decide) v xs p [.string p.f0, .slice A p.f1.length c] ok okp hs (hgw ▸ hx) (k109_mkF W okp p hl1 hp)
    hokp hfresh HO HB hbase (by omega)
    (fun v1 w1 h1 h2 _ _ => h _ v1 w1 ⟨rfl⟩ ⟨h1⟩ ⟨h2⟩)
/-- Each file's name finds that file (no two have one name). -/
def Uniq (l : List S109) : Prop := ∀ f ∈ l, findL l f.f0 = some f.f1
set_option maxHeartbeats 2000000 in
set_option maxRecDepth 100000 in
theorem list_calls (okm ok : Nat → Prop) (b n : Nat) (l : List S109) (w : World) (hok : ∀ k, w.heap.size ≤ k → ok k) (h : MP w okm b n l) (hu : Uniq l) (hl : l.length ≤ 1099511627776) (hs : ∀ f ∈ l, f.f1.length ≤ 140737488351232 ∧ f.f0.size ≤ maxLen) :
    Calls Try.prog 88 #[.map (some b)] w (ViewPost w ok l) := by
  have HM := Aside0.mk (fun (W : World) (hB : Below w.heap.size w W) => h.move hB)
  have HSo := Aside0.mk (sorted_calls okm b n l w h hl)
  have HK := Aside0.mk (keys_calls b w)
  have HU := Aside0.mk hu
  have HS := Aside0.mk hs
  have HOK := Aside0.mk hok
  have hu109 := Try.underlying109
  clear h hu hs hok
  go_enter Try.func88, Try.ntmps88
  go_wp2_with (first | (go_at_call 95; with_reducible refine HK.out.mono ?_; rintro e w1 ⟨rfl, rfl⟩) | (go_at_call 94; with_reducible refine HSo.out.mono ?_; rintro e w2 ⟨⟨A2, c2, rfl, hC2⟩, hB2⟩; have HC2 := Aside0.mk hC2; have HB2 := Aside0.mk hB2; clear hC2 hB2) | fail)
  go_loopw [3, 10] (fun v i wr => ∃ k : Nat, k ≤ l.length ∧ i = .int .i64 k ∧ Aside0 (NF wr w2.heap.size ok v (l.take k)) ∧ Aside0 (Below w2.heap.size w2 wr)) (fun _ i _ => l.length - (intOf i).toNat)
  case atStart => exact ⟨0, by omega, rfl, ⟨Kd.N_nil _ _ _ _ _⟩, ⟨Below.refl _ _⟩⟩
  case round =>
    obtain ⟨k, hk, rfl, HN, HW⟩ := hrel
    have HWw := Aside0.mk (below_then HB2.out HB2.out.size HW.out)
    by_cases hlt : k < l.length
    · obtain ⟨ad, rfl, hc0⟩ := str_at (Kd.C_below HC2.out HW.out) k hlt
      have HST := Aside0.mk (show l.take (k + 1) = l.take k ++ [l[k]] from List.take_succ_eq_append_getElem hlt)
      have hsz := HS.out l[k] (List.getElem_mem hlt)
      have hun := HU.out l[k] (List.getElem_mem hlt)
      have hlen : (l.take k).length ≤ k := by rw [List.length_take]; omega
      obtain ⟨f, hf⟩ : ∃ f, f = l[k] := ⟨_, rfl⟩
      rw [← hf] at hc0 HST hsz hun
      clear hf
      obtain ⟨v0, hrun, hv0⟩ := (HM.out _ HWw.out).look (nm := f.f0) hsz.2
      rw [hun] at hv0
      obtain ⟨A0, c0, rfl⟩ := Kd.V_slice hv0
      have HV0 := Aside0.mk (Kd.V_reads' hv0)
      clear hv0 hun
      have HCl := Aside0.mk (cloneB_calls A0 c0 f.f1 wr HV0.out.2.2 hsz.1)
      replace hrun : (Instr.lookup 110 (.map (some b)) (.string f.f0) false).run Try.prog wr = .ok (.slice A0 f.f1.length c0) wr := hrun
      go_wp2_with (first | (go_at_call 79; with_reducible refine HCl.out.mono ?_; rintro e w3 ⟨⟨v3, rfl, hr3⟩, hB3⟩; obtain ⟨A3, c3, rfl⟩ := Kd.R_slice hr3; have HR3 := Aside0.mk (RB.foot (ok := fun k => ok k ∧ wr.heap.size ≤ k) hr3 (fun k hk => ⟨HOK.out k (Nat.le_trans HWw.out.size hk), hk⟩)); have HB3 := Aside0.mk hB3; have HW3 := Aside0.mk (below_then HW.out HW.out.size hB3); clear hr3 hB3) | ((with_reducible refine gate_dst (N := 22) rfl ?_); refine app_file2 (w0 := w2) w2.heap.size rfl (.tmp 14) (.tmp 21) rfl _ (l.take k) f A3 c3 ok _ rfl rfl rfl HR3.out.2.1 HR3.out.2.2 ?hop ?hfr (Kd.N_below HN.out HB3.out) HW3.out HW3.out.size (by omega) ?_; (case hop => exact fun k hk => ⟨hk.1, fun he => by have := Kd.N_lt HN.out k he.symm; have := hk.2; omega⟩); (case hfr => exact fun k hk => HOK.out k (Nat.le_trans HB2.out.size (Nat.le_trans HW3.out.size hk))); intro z4 v4 w4 EZ4 HN4 HW4) | fail)
      go_roundw
      case rel => exact ⟨k + 1, by omega, by go_num, ⟨by rw [HST.out, ← EZ4.out]; exact HN4.out⟩, HW4⟩
      case measure => simp [intOf]; omega
    · obtain rfl : k = l.length := by omega
      rw [List.take_length] at HN
      go_wp2
      go_ret
      exact ⟨⟨_, rfl, Kd.N_V HN.out⟩, HWw.out⟩
end Go.Proofs.Ytfaniohoplbdoaa.My
/- Bytes appended to a slice that has no room. -/
namespace Go.Proofs.Ytfaniohoplbdoaa.My
open Go Go.RowKit Go.Proofs.YtfaniohoplbdoaaW.PrintWords Go.Proofs.YtfaniohoplbdoaaW.PrintLast Go.Proofs.YtfaniohoplbdoaaW.PrintMore Go.Proofs.Ytfaniohoplbdoaa.PDiskActs
set_option linter.unusedVariables false
set_option linter.unusedSimpArgs false
theorem CB.cells {w : World} {A : Option Addr} {l : List Int} (h : CB w A l) (hp : 0 < l.length) : ∃ ad, A = some ad ∧ ∀ j u, (bts l)[j]? = some u → w.cell? (ad.add j) = some u := by
  obtain ⟨ad, e, hc⟩ := h.2.2 hp
  refine ⟨ad, e, fun j u hu => ?_⟩
  have hj : j < l.length := by
    have := (List.getElem?_eq_some_iff.1 hu).1
    rwa [nums_length] at this
  obtain ⟨cs, hlen, hK, hcell⟩ := hc j l[j] (List.getElem?_eq_getElem hj)
  have hK' : cs = [.int .u8 l[j]] := hK
  subst hK'
  have h1 := hcell 0 _ rfl
  rw [show j * Kd.sz (Kd.int .u8) + 0 = j from by show j * 1 + 0 = j; omega] at h1
  rw [h1]
  rw [← hu]
  simp [nums, hj]
theorem VB_of_own {ok : Nat → Prop} {w w' : World} {v : Value} {l : List Int} (hok : ∀ k, w.heap.size ≤ k → ok k) (h : w'.ownsRow w.heap.size 5 1 v l.length (bts l)) : VB w' ok v l := by
  have hr : RB w' w.heap.size v l := Kd.R_of_own (enc := Value.int .u8) (h1 := fun _ => rfl) h (fun _ _ => trivial)
  exact Kd.V_mono (Kd.R_V (Kd.R_bound hr)) (fun k hk => hok k hk.2.1)
/-- 'append(v[:n:n], y...)'. -/
theorem run_append_clip {ok : Nat → Prop} (w : World) (ty : TypeId) (A : Option Addr) (l : List Int) (B : Option Addr) (d : Nat) (y : List Int) (hok : ∀ k, w.heap.size ≤ k → ok k) (hv : Kd.F (Kd.int .u8) w ok A l.length l) (hy : CB w B y) (hlen : l.length + y.length ≤ 140737488355328) :
    ∃ v' w', (Builtin.append_ #[22, 22] ty #[.slice A l.length l.length, .slice B y.length d]).run Try.prog w = .ok v' w' ∧ VB w' ok v' (l ++ y) ∧ w.grownBy w' none := by
  obtain ⟨i0, hi0, hz, hsz, hby⟩ := info_parts info5
  rcases Nat.eq_zero_or_pos y.length with h0 | hp
  · have e : y = [] := List.eq_nil_of_length_eq_zero h0
    subst e
    refine ⟨.slice A l.length l.length, w, ?_, ⟨A, l.length, by simp, by simp, by rw [List.append_nil]; exact hv⟩, ⟨rfl, rfl, rfl, Nat.le_refl _, fun _ _ _ => rfl⟩⟩
    cases A <;> cases B <;> simp [Builtin.append_, run_underlying Try.underlying22, sizeOf, typeInfo, hi0, Builtin.lenOf, Builtin.firstCells, storeCells, go_sem]
  · obtain ⟨bd, rfl, hyc⟩ := CB.cells hy hp
    have hb1 : ∀ u ∈ bts y, u.oneCell' = true := by
      intro u hu
      obtain ⟨x, _, rfl⟩ := List.mem_map.1 hu
      rfl
    have hbl : (l ++ y).length = l.length + y.length := List.length_append
    have hba : bts (l ++ y) = bts l ++ bts y := nums_append _ _ _
    have fin : ∀ v' w', w'.ownsRow w.heap.size 5 1 v' (l.length + y.length) (bts l ++ bts y) → VB w' ok v' (l ++ y) := fun v' w' h => VB_of_own hok (by rw [hbl, hba]; exact h)
    rcases Nat.eq_zero_or_pos l.length with hl0 | hlp
    · have e : l = [] := List.eq_nil_of_length_eq_zero hl0
      subst e
      cases A with
      | none =>
        obtain ⟨v', w', hr, ho, hg, _⟩ := run_append_own (P := Try.prog) w w.heap.size 22 ty 5 i0 (.int .u8 0) 1 1 Try.underlying22 hi0 hz hsz hby rfl (by decide) (.slice none 0 0) 0 [] (World.ownsRow_nil w _ 5 1) bd y.length d (bts y) (by rw [nums_length, Nat.mul_one]) hyc hb1 (by unfold maxLen; omega) (by omega) (Nat.le_refl _)
        exact ⟨v', w', hr, fin v' w' ho, hg⟩
      | some ad =>
        obtain ⟨v', w', hr, ho, hg⟩ := run_append_arg_grows (P := Try.prog) w 22 ty 5 i0 (.int .u8 0) 1 1 Try.underlying22 hi0 hz hsz hby rfl (by decide) ad 0 0 [] rfl (fun j u hj => by simp at hj) bd y.length d (bts y) (by rw [nums_length, Nat.mul_one]) hyc (by omega) (by unfold maxLen; omega) (by omega)
        exact ⟨v', w', hr, fin v' w' ho, hg⟩
    · obtain ⟨ad, rfl, hlc⟩ := CB.cells (Kd.F_now hv) hlp
      obtain ⟨v', w', hr, ho, hg⟩ := run_append_arg_grows (P := Try.prog) w 22 ty 5 i0 (.int .u8 0) 1 1 Try.underlying22 hi0 hz hsz hby rfl (by decide) ad l.length l.length (bts l) (by rw [nums_length, Nat.mul_one]) hlc bd y.length d (bts y) (by rw [nums_length, Nat.mul_one]) hyc (by omega) (by unfold maxLen; omega) (by omega)
      exact ⟨v', w', hr, fin v' w' ho, hg⟩
end Go.Proofs.Ytfaniohoplbdoaa.My
/- disk.apply. -/
namespace Go.Proofs.Ytfaniohoplbdoaa.My
open Go Go.RowKit Go.Proofs.YtfaniohoplbdoaaW.PrintWords Go.Proofs.YtfaniohoplbdoaaW.PrintLast Go.Proofs.YtfaniohoplbdoaaW.PrintMore Go.Proofs.Ytfaniohoplbdoaa.PDiskActs
set_option linter.unusedVariables false
set_option linter.unusedSimpArgs false
theorem MP.mono {w : World} {ok : Nat → Prop} {b n : Nat} {l : List S109} (h : MP w ok b n l) {n' : Nat} (hn : n ≤ n') : MP w ok b n' l := by
  obtain ⟨D, ho, hm⟩ := h
  exact ⟨D, ho.mono hn, hm⟩
/-- What apply does to the files. -/
def applyL (l : List S109) (o : S123) : List S109 :=
  if o.f0 = 0 then withL l ⟨o.f1, (findL l o.f1).getD [] ++ o.f3⟩
  else if o.f0 = 1 then withoutL l o.f1
  else if o.f0 = 2 then withL (withoutL l o.f1) ⟨o.f2, (findL l o.f1).getD []⟩
  else l
theorem cut_clip (A : Option Addr) (c n : Nat) (hc : n ≤ c) (W : World) : (Instr.slice 22 (.slice A n c) none (some (.int .i64 (n : Int))) (some (.int .i64 (n : Int)))).run Try.prog W = .ok (.slice A n n) W := by
  obtain ⟨i0, hi0, _, hsz, _⟩ := info_parts info5
  have h1 : ¬ ((n : Int) < 0) := by omega
  have h2 : ¬ (c < n) := by omega
  simp [Instr.slice, run_underlying Try.underlying22, go_sem, asInt, h1, h2]
theorem grown_join {w w1 w2 w3 : World} {row : Option Nat} (h1 : w.grownBy w1 none) (h2 : w1.grownBy w2 none) (h3 : w2.grownBy w3 row) : w.grownBy w3 row :=
  ⟨h3.os.trans (h2.os.trans h1.os), h3.tape.trans (h2.tape.trans h1.tape), h3.output.trans (h2.output.trans h1.output), Nat.le_trans h1.size (Nat.le_trans h2.size h3.size), fun k hk hne => (h3.block k (Nat.lt_of_lt_of_le hk (Nat.le_trans h1.size h2.size)) hne).trans ((h2.block k (Nat.lt_of_lt_of_le hk h1.size) (by simp)).trans (h1.block k hk (by simp)))⟩
abbrev ApplyPost (w : World) (ok : Nat → Prop) (b n : Nat) (l : List S109) : Ending → World → Prop := fun e w' => e = .returned (.tuple #[]) ∧ MP w' ok b n l ∧ w.grownBy w' (some b)
set_option maxHeartbeats 2000000 in
set_option maxRecDepth 100000 in
theorem apply_calls (ok : Nat → Prop) (b n : Nat) (l : List S109) (o : S123) (B : Option Addr) (d : Nat) (w : World) (hok : ∀ k, w.heap.size ≤ k → ok k) (hb : ∀ k, ok k → k ≠ b) (h : MP w ok b n l) (hd : o.f3.length ≤ d)
    (hC : CB w B o.f3) (hn : n + 1 < maxLen) (hs : byF l + o.f3.length ≤ 140737488351232) (hm1 : o.f1.size ≤ maxLen) (hm2 : o.f2.size ≤ maxLen) :
    Calls Try.prog 93 #[.map (some b), doV o B d] w (ApplyPost w ok b (n + 1) (applyL l o)) := by
  obtain ⟨wb, hwb⟩ : ∃ wb, wb = w.alloc (.cells (doC o B d) 121) := ⟨_, rfl⟩
  have hBx : Below w.heap.size w wb := by rw [hwb]; exact below_alloc (Below.refl _ _) _
  have hsb : wb.heap.size = w.heap.size + 1 := by rw [hwb, alloc_size]
  have hblk : wb.heap[w.heap.size]? = some (.cells (doC o B d) 121 (0, 0)) := by rw [hwb]; exact blk_new _ _
  have hgx : w.grownBy wb none := by rw [hwb]; exact World.grownBy_alloc _ _ none
  have HM := Aside0.mk (h.move hBx)
  have HC := Aside0.mk (Kd.C_below hC hBx)
  have hlt := h.lt
  have HOK := Aside0.mk hok
  have HNB := Aside0.mk hb
  have HBK := Aside0.mk hblk
  have HWB := Aside0.mk hwb
  have HGX := Aside0.mk hgx
  obtain ⟨v0, hrun, hv0⟩ := (h.move hBx).look hm1
  obtain ⟨x, hx⟩ : ∃ x, x = (findL l o.f1).getD [] := ⟨_, rfl⟩
  have hxl : x.length ≤ byF l := by rw [hx]; exact findL_le
  rw [← hx] at hv0
  obtain ⟨A0, c0, rfl⟩ := Kd.V_slice hv0
  have HV0 := Aside0.mk hv0
  have HX := Aside0.mk hx
  have hu121 := Try.underlying121
  have hz0 : wb.cell? ⟨w.heap.size, 0, none⟩ = some (.int .i64 o.f0) := (blk_cell hblk 0).trans rfl
  have hz1 : wb.cell? ⟨w.heap.size, 1, none⟩ = some (.string o.f1) := (blk_cell hblk 1).trans rfl
  have hz2 : wb.cell? ⟨w.heap.size, 2, none⟩ = some (.string o.f2) := (blk_cell hblk 2).trans rfl
  have hz3 : wb.cell? ⟨w.heap.size, 3, none⟩ = some (.slice B o.f3.length d) := (blk_cell hblk 3).trans rfl
  clear hwb hBx hblk hgx h hC hok hb hv0 hx
  by_cases h0 : o.f0 = 0
  · have h0b : (o.f0 == 0) = true := by simpa using h0
    have HA := Aside0.mk (show applyL l o = withL l ⟨o.f1, x ++ o.f3⟩ by rw [HX.out]; unfold applyL; rw [if_pos h0])
    clear h0
    have hcl := cut_clip A0 c0 x.length (Kd.V_reads' HV0.out).2.1
    go_enter Try.func93, Try.ntmps93
    go_wp2_with (first | (at_lookup; rw [← HWB.out]) | fail)
    refine start_ (n := 13) (S := fun w' => w'.cell? ⟨w.heap.size, 1, none⟩ = some (.string o.f1) ∧ w'.cell? ⟨w.heap.size, 3, none⟩ = some (.slice B o.f3.length d)) (ds := []) #[false, false, false, false, false, false, false, false, false, false, false, false, false] (by kernel_rfl) rfl rfl ?_ (fun hHeld => ?_)
    · exact ⟨hz1, hz3⟩
    refine pure_ (i := 0) (N := some 14) (v := ?_) (a' := ?_) #[true, false, false, false, false, false, false, false, false, false, false, false, false] rfl rfl (by kernel_rfl) (fun _ _ _ h => h) (Or.inl ⟨by rfl, ?_⟩) ?_ ?_
    rotate_left
    · intro w'
      go_simp
      with_reducible rfl
    rotate_left
    · simp only [Act.put, List.setIfInBounds_toArray, List.set_cons_zero, List.set_cons_succ, i64_w, i32_w]
      rfl
    refine pure_ (i := 1) (N := some 15) (v := ?_) (a' := ?_) #[true, true, false, false, false, false, false, false, false, false, false, false, false] rfl rfl (by kernel_rfl) (fun _ _ _ h => h) (Or.inl ⟨by rfl, ?_⟩) ?_ ?_
    rotate_left
    · intro w'
      go_simp
      with_reducible rfl
    rotate_left
    · simp only [Act.put, List.setIfInBounds_toArray, List.set_cons_zero, List.set_cons_succ, i64_w, i32_w]
      rfl
    refine take_ (i := 2) (N := some 16) (v := ?_) (a' := ?_) #[true, true, true, false, false, false, false, false, false, false, false, false, false] rfl rfl (by kernel_rfl) (fun _ _ _ h => h) (Or.inl ⟨by rfl, ?_⟩) hHeld ?_ ?_
    rotate_left
    · rintro w' ⟨s0, s1⟩
      go_simp
      with_reducible rfl
    rotate_left
    · simp only [Act.put, List.setIfInBounds_toArray, List.set_cons_zero, List.set_cons_succ, i64_w, i32_w]
      rfl
    refine pure_ (i := 3) (N := some 17) (v := ?_) (a' := ?_) #[true, true, true, true, false, false, false, false, false, false, false, false, false] rfl rfl (by kernel_rfl) (fun _ _ _ h => h) (Or.inl ⟨by rfl, ?_⟩) ?_ ?_
    rotate_left
    · intro w'
      go_simp
      with_reducible rfl
    rotate_left
    · simp only [Act.put, List.setIfInBounds_toArray, List.set_cons_zero, List.set_cons_succ, i64_w, i32_w]
      rfl
    refine pure_ (i := 4) (N := some 18) (v := ?_) (a' := ?_) #[true, true, true, true, true, false, false, false, false, false, false, false, false] rfl rfl (by kernel_rfl) (fun _ _ _ h => h) (Or.inl ⟨by rfl, ?_⟩) ?_ ?_
    rotate_left
    · intro w'
      go_simp
      with_reducible rfl
    rotate_left
    · simp only [Act.put, List.setIfInBounds_toArray, List.set_cons_zero, List.set_cons_succ, i64_w, i32_w]
      rfl
    refine pure_ (i := 5) (N := some 19) (v := ?_) (a' := ?_) #[true, true, true, true, true, true, false, false, false, false, false, false, false] rfl rfl (by kernel_rfl) (fun _ _ _ h => h) (Or.inl ⟨by rfl, ?_⟩) ?_ ?_
    rotate_left
    · intro w'
      go_simp
      with_reducible rfl
    rotate_left
    · simp only [Act.put, List.setIfInBounds_toArray, List.set_cons_zero, List.set_cons_succ, i64_w, i32_w]
      rfl
    refine pure_ (i := 6) (N := some 20) (v := ?_) (a' := ?_) #[true, true, true, true, true, true, true, false, false, false, false, false, false] rfl rfl (by kernel_rfl) (fun _ _ _ h => h) (Or.inl ⟨by rfl, ?_⟩) ?_ ?_
    rotate_left
    · intro w'
      go_simp
      with_reducible rfl
    rotate_left
    · simp only [Act.put, List.setIfInBounds_toArray, List.set_cons_zero, List.set_cons_succ, i64_w, i32_w]
      rfl
    refine pure_ (i := 7) (N := some 21) (v := ?_) (a' := ?_) #[true, true, true, true, true, true, true, true, false, false, false, false, false] rfl rfl (by kernel_rfl) (fun _ _ _ h => h) (Or.inl ⟨by rfl, ?_⟩) ?_ ?_
    rotate_left
    · intro w'
      go_simp
      with_reducible rfl
    rotate_left
    · simp only [Act.put, List.setIfInBounds_toArray, List.set_cons_zero, List.set_cons_succ, i64_w, i32_w]
      rfl
    refine pure_ (i := 8) (N := some 22) (v := ?_) (a' := ?_) #[true, true, true, true, true, true, true, true, true, false, false, false, false] rfl rfl (by kernel_rfl) (fun _ _ _ h => h) (Or.inl ⟨by rfl, ?_⟩) ?_ ?_
    rotate_left
    · intro w'
      go_simp
      with_reducible rfl
    rotate_left
    · simp only [Act.put, List.setIfInBounds_toArray, List.set_cons_zero, List.set_cons_succ, i64_w, i32_w]
      rfl
    refine pure_ (i := 9) (N := some 23) (v := ?_) (a' := ?_) #[true, true, true, true, true, true, true, true, true, true, false, false, false] rfl rfl (by kernel_rfl) (fun _ _ _ h => h) (Or.inl ⟨by rfl, ?_⟩) ?_ ?_
    rotate_left
    · intro w'
      go_simp
      with_reducible rfl
    rotate_left
    · simp only [Act.put, List.setIfInBounds_toArray, List.set_cons_zero, List.set_cons_succ, i64_w, i32_w]
      rfl
    refine take_ (i := 10) (N := some 24) (v := ?_) (a' := ?_) #[true, true, true, true, true, true, true, true, true, true, true, false, false] rfl rfl (by kernel_rfl) (fun _ _ _ h => h) (Or.inl ⟨by rfl, ?_⟩) hHeld ?_ ?_
    rotate_left
    · rintro w' ⟨s0, s1⟩
      go_simp
      with_reducible rfl
    rotate_left
    · simp only [Act.put, List.setIfInBounds_toArray, List.set_cons_zero, List.set_cons_succ, i64_w, i32_w]
      rfl
    obtain ⟨v2, w2, hap, hv2, hg2⟩ := run_append_clip (ok := ok) wb.drew 22 A0 x B d o.f3 (fun k hk => HOK.out k (by have : wb.drew.heap.size = wb.heap.size := rfl; omega)) (Kd.V_F (Kd.V_drew HV0.out)) (Kd.C_drew HC.out) (by omega)
    have HV2 := Aside0.mk hv2
    have HG2 := Aside0.mk hg2
    clear hrun hcl hz0 hz1 hz2 hz3 hv2 hg2
    refine one_ (i := 11) (N := some 25) #[true, true, true, true, true, true, true, true, true, true, true, true, false] rfl rfl (by kernel_rfl) (by decide) (fun K hK => ?_)
    refine event_step (v := v2) (w1 := w2) (by rfl) ?_ ?_
    · have hap' := hap
      simp only [execOp, resolve, invoke, builtin] 
      simp [execOp, resolve, invoke, builtin, Act.eval, hap, Result.andThen]
    refine hK.out _ _ ⟨?_, ?_⟩ (fun _ => ?_)
    · rw [HG2.out.cell_far _ (by show w.heap.size < wb.heap.size; omega) (by simp)]; exact (blk_cell HBK.out 1).trans rfl
    · rw [HG2.out.cell_far _ (by show w.heap.size < wb.heap.size; omega) (by simp)]; exact (blk_cell HBK.out 3).trans rfl
    clear hK K hap
    refine norm_ (a' := ?_) ?_ ?_
    rotate_left
    · show Act.put _ (some 25) _ = _
      simp only [Act.put, List.setIfInBounds_toArray, List.set_cons_zero, List.set_cons_succ, i64_w, i32_w]
      rfl
    obtain ⟨w3, hup, hm3, hg3⟩ := (HM.out.move (w' := w2) ⟨HG2.out.os, HG2.out.tape, HG2.out.output, HG2.out.size, fun k hk => HG2.out.block k hk (by simp)⟩).put HNB.out (f := ⟨o.f1, x ++ o.f3⟩) (v := v2) hm1 (by omega) HV2.out
    replace hup : (Instr.mapUpdate 110 (.map (some b)) (.string o.f1) v2).run Try.prog w2 = .ok () w3 := hup
    refine one_ (i := 12) (N := none) #[true, true, true, true, true, true, true, true, true, true, true, true, true] rfl rfl (by kernel_rfl) (by decide) (fun K hK => ?_)
    refine skip_ (w1 := ?_) (by rfl) rfl ?_ ?_
    rotate_left
    · go_simp
      rfl
    have hbk2 : w2.heap[w.heap.size]? = some (.cells (doC o B d) 121 (0, 0)) := (HG2.out.block _ (blk_lt HBK.out) (by simp)).trans HBK.out
    have hbk3 : w3.heap[w.heap.size]? = some (.cells (doC o B d) 121 (0, 0)) := (hg3.block _ (blk_lt hbk2) (by simp; omega)).trans hbk2
    refine hK.out _ _ ⟨(blk_cell hbk3 1).trans rfl, (blk_cell hbk3 3).trans rfl⟩ (fun _ => ?_)
    clear hK K
    have HM3 := Aside0.mk hm3
    have HG3 := Aside0.mk (grown_join HGX.out (⟨HG2.out.os, HG2.out.tape, HG2.out.output, HG2.out.size, fun k hk => HG2.out.block k hk⟩ : wb.grownBy w2 none) hg3)
    clear hm3 hg3 hup hbk2 hbk3
    refine done_ (by kernel_rfl) ?_
    go_wp2
    go_end0
    exact ⟨rfl, by rw [HA.out]; exact HM3.out, HG3.out⟩
  have h0b : (o.f0 == 0) = false := by simpa using h0
  by_cases h1 : o.f0 = 1
  · have h1b : (o.f0 == 1) = true := by simpa using h1
    have HA := Aside0.mk (show applyL l o = withoutL l o.f1 by unfold applyL; rw [if_neg h0, if_pos h1])
    clear h0 h1 hrun
    obtain ⟨w3, hdel, hm3, hg3⟩ := HM.out.del HNB.out hm1 0
    have HM3 := Aside0.mk (hm3.mono (Nat.le_succ n))
    have HG3 := Aside0.mk (grown_join HGX.out (⟨rfl, rfl, rfl, Nat.le_refl _, fun _ _ _ => rfl⟩ : wb.grownBy wb none) hg3)
    have HDel := Aside0.mk hdel
    clear hm3 hg3 hdel
    go_enter Try.func93, Try.ntmps93
    go_wp2_with fail
    rw [← HWB.out, HDel.out]
    simp only [Result.andThen]
    rw [Oper.upon_value]
    go_wp2
    go_end0
    exact ⟨rfl, by rw [HA.out]; exact HM3.out, HG3.out⟩
  have h1b : (o.f0 == 1) = false := by simpa using h1
  by_cases h2 : o.f0 = 2
  · have h2b : (o.f0 == 2) = true := by simpa using h2
    have HA := Aside0.mk (show applyL l o = withL (withoutL l o.f1) ⟨o.f2, x⟩ by rw [HX.out]; unfold applyL; rw [if_neg h0, if_neg h1, if_pos h2])
    clear h0 h1 h2
    obtain ⟨w3, hdel, hm3, hg3⟩ := HM.out.del HNB.out hm1 0
    have hv3 := Kd.V_grown HV0.out hg3 (fun k hk he => HNB.out k hk (by injection he))
    obtain ⟨w4, hput, hm4, hg4⟩ := hm3.put HNB.out (f := ⟨o.f2, x⟩) (v := .slice A0 x.length c0) hm2 (by omega) hv3
    replace hput : (Instr.mapUpdate 110 (.map (some b)) (.string o.f2) (.slice A0 x.length c0)).run Try.prog w3 = .ok () w4 := hput
    have HM4 := Aside0.mk hm4
    have hbk3 : w3.heap[w.heap.size]? = some (.cells (doC o B d) 121 (0, 0)) := (hg3.block _ (blk_lt HBK.out) (by simp; omega)).trans HBK.out
    have hy2 : w3.cell? ⟨w.heap.size, 2, none⟩ = some (.string o.f2) := (blk_cell hbk3 2).trans rfl
    have HG4 := Aside0.mk (grown_join HGX.out (⟨rfl, rfl, rfl, Nat.le_refl _, fun _ _ _ => rfl⟩ : wb.grownBy wb none) (⟨hg4.os.trans hg3.os, hg4.tape.trans hg3.tape, hg4.output.trans hg3.output, Nat.le_trans hg3.size hg4.size, fun k hk hne => (hg4.block k (Nat.lt_of_lt_of_le hk hg3.size) hne).trans (hg3.block k hk hne)⟩ : wb.grownBy w4 (some b)))
    have HDel := Aside0.mk hdel
    clear hm3 hg3 hdel hv3 hm4 hg4 hbk3
    go_enter Try.func93, Try.ntmps93
    go_wp2_with (first | (at_lookup; rw [← HWB.out]) | fail)
    rw [HDel.out]
    simp only [Result.andThen]
    rw [Oper.upon_value]
    go_wp2
    go_end0
    exact ⟨rfl, by rw [HA.out]; exact HM4.out, HG4.out⟩
  · have h2b : (o.f0 == 2) = false := by simpa using h2
    have HA := Aside0.mk (show applyL l o = l by unfold applyL; rw [if_neg h0, if_neg h1, if_neg h2])
    clear h0 h1 h2 hrun
    go_enter Try.func93, Try.ntmps93
    go_wp2_with fail
    go_end0
    exact ⟨rfl, by rw [HA.out, ← HWB.out]; exact HM.out.mono (Nat.le_succ n), by rw [← HWB.out]; exact HGX.out.but _⟩
end Go.Proofs.Ytfaniohoplbdoaa.My
/- A disk's view. -/
namespace Go.Proofs.Ytfaniohoplbdoaa.My
open Go Go.RowKit Go.Proofs.YtfaniohoplbdoaaW.PrintWords Go.Proofs.YtfaniohoplbdoaaW.PrintLast Go.Proofs.YtfaniohoplbdoaaW.PrintMore Go.Proofs.Ytfaniohoplbdoaa.PDiskActs
set_option linter.unusedVariables false
set_option linter.unusedSimpArgs false
def dviewL (l : List S109) (ops : List S123) : List S109 := ops.foldl applyL l
theorem dviewL_take_succ {l : List S109} {ops : List S123} {k : Nat} (h : k < ops.length) : dviewL l (ops.take (k + 1)) = applyL (dviewL l (ops.take k)) ops[k] := by
  unfold dviewL
  rw [List.take_succ_eq_append_getElem h, List.foldl_append]
  rfl
theorem byF_applyL (l : List S109) (o : S123) : byF (applyL l o) ≤ byF l + o.f3.length := by
  unfold applyL
  split
  · unfold withL
    rw [byF_insL]
    have := byF_find o.f1 l
    simp only [List.length_append]
    omega
  · split
    · have := byF_without o.f1 l
      omega
    · split
      · unfold withL
        rw [byF_insL]
        have h1 := byF_find o.f1 l
        have h2 := byF_without o.f2 (withoutL l o.f1)
        show ((findL l o.f1).getD []).length + byF (withoutL (withoutL l o.f1) o.f2) ≤ _
        omega
      · omega
theorem byF_dviewL (ops : List S123) : ∀ l : List S109, byF (dviewL l ops) ≤ byF l + byO ops := by
  induction ops with
  | nil => intro l; simp [dviewL, byO]
  | cons o r ih =>
    intro l
    have h := ih (applyL l o)
    have := byF_applyL l o
    simp only [dviewL, List.foldl_cons, byO, List.map_cons, List.sum_cons] at h ⊢
    omega
theorem MP.elder {w : World} {ok : Nat → Prop} {b n : Nat} {l : List S109} (h : MP w ok b n l) (a : Nat) (ha : w.heap.size ≤ a) : MP w (fun k => ok k ∧ k ≠ a) b n l := by
  obtain ⟨D, ho, hm⟩ := h
  exact ⟨D, ho, hm.imp fun v bs hv => Kd.V_elderB hv a ha⟩
theorem MP.okmono {w : World} {ok ok' : Nat → Prop} {b n : Nat} {l : List S109} (h : MP w ok b n l) (hi : ∀ k, ok k → ok' k) : MP w ok' b n l := by
  obtain ⟨D, ho, hm⟩ := h
  exact ⟨D, ho, hm.imp fun v bs hv => Kd.V_mono hv hi⟩
/-- A disk: its struct lies at g, its map at b; the buffered operations' row is its own. -/
structure DiskAt (w : World) (ok : Nat → Prop) (g b n : Nat) (l : List S109) (A : Option Addr) (c : Nat) (ops : List S123) : Prop where
  blk : w.heap[g]? = some (.cells #[.map (some b), .slice A ops.length c] 113 (0, 0))
  mapN : MP w (fun k => ok k ∧ some k ≠ (Value.slice A ops.length c).ownBlock) b n l
  pendN : Kd.N k123 121 w 0 ok (.slice A ops.length c) ops
  offg : ∀ k, ok k → k ≠ g
  offb : ∀ k, ok k → k ≠ b
  names : ∀ o ∈ ops, o.f1.size ≤ maxLen ∧ o.f2.size ≤ maxLen
theorem DiskAt.map {w : World} {ok : Nat → Prop} {g b n : Nat} {l : List S109} {A : Option Addr} {c : Nat} {ops : List S123} (h : DiskAt w ok g b n l A c ops) : MP w ok b n l := h.mapN.okmono fun _ hk => hk.1
/-- A disk whose buffered operations are only read. -/
structure DiskR (w : World) (ok : Nat → Prop) (g b n : Nat) (l : List S109) (A : Option Addr) (c : Nat) (ops : List S123) : Prop where
  blk : w.heap[g]? = some (.cells #[.map (some b), .slice A ops.length c] 113 (0, 0))
  map : MP w ok b n l
  pend : VO w ok (.slice A ops.length c) ops
  offg : ∀ k, ok k → k ≠ g
  names : ∀ o ∈ ops, o.f1.size ≤ maxLen ∧ o.f2.size ≤ maxLen
theorem DiskAt.pend {w : World} {ok : Nat → Prop} {g b n : Nat} {l : List S109} {A : Option Addr} {c : Nat} {ops : List S123} (h : DiskAt w ok g b n l A c ops) : VO w ok (.slice A ops.length c) ops :=
  (show Kd.V k123 121 w 0 ok (.slice A ops.length c) ops from Kd.N_V h.pendN)
theorem DiskAt.toR {w : World} {ok : Nat → Prop} {g b n : Nat} {l : List S109} {A : Option Addr} {c : Nat} {ops : List S123} (h : DiskAt w ok g b n l A c ops) : DiskR w ok g b n l A c ops := ⟨h.blk, h.map, h.pend, h.offg, h.names⟩
set_option maxHeartbeats 2000000 in
set_option maxRecDepth 100000 in
theorem dviewR_calls (ok : Nat → Prop) (g b n : Nat) (l : List S109) (A : Option Addr) (c : Nat) (ops : List S123) (w : World) (hok : ∀ k, w.heap.size ≤ k → ok k) (hD : DiskR w ok g b n l A c ops) (hn : n + ops.length + 1 < maxLen)
    (hs : byF l + byO ops ≤ 140737488351232) :
    Calls Try.prog 86 #[.pointer (some ⟨g, 0, none⟩)] w fun e w' => e = .returned (.map (some w.heap.size)) ∧ MP w' (fun k => ok k ∧ k ≠ w.heap.size) w.heap.size (n + ops.length) (dviewL l ops) ∧ Below w.heap.size w w' := by
  have hblk := hD.blk
  have hmp := hD.map
  have hpe := hD.pend
  have hnm := hD.names
  have hm := Kd.C_max (Kd.V_reads' hpe).2.2
  have hlg := blk_lt hblk
  have HCl := Aside0.mk (clone_calls _ b n l w (hmp.elder w.heap.size (Nat.le_refl _)))
  have HO := Aside0.mk (Kd.V_reads' hpe).2.2
  have HNm := Aside0.mk hnm
  have HOK := Aside0.mk hok
  have HBK := Aside0.mk hblk
  have hu113 := Try.underlying113
  have hu121 := Try.underlying121
  have hz0 : w.cell? ⟨g, 0, none⟩ = some (.map (some b)) := (blk_cell hblk 0).trans rfl
  clear hblk hmp hpe hnm hok hD
  go_enter Try.func86, Try.ntmps86
  go_wp2_with (first | (go_at_call 92; with_reducible refine HCl.out.mono ?_; rintro e w1 ⟨rfl, hm1, hB1⟩; have HM1 := Aside0.mk hm1; have HB1 := Aside0.mk hB1; have hz1 : w1.cell? ⟨g, 1, none⟩ = some (.slice A ops.length c) := (blk_cell ((hB1.block _ hlg).trans HBK.out) 1).trans rfl; clear hm1 hB1 hz0) | fail)
  go_loopw [16] (fun i wr => ∃ k : Nat, k ≤ ops.length ∧ i = .int .i64 k ∧ Aside0 (MP wr (fun k => ok k ∧ k ≠ w.heap.size) w.heap.size (n + k) (dviewL l (ops.take k))) ∧ Aside0 (Below w.heap.size w wr)) (fun i _ => ops.length - (intOf i).toNat)
  case atStart => exact ⟨0, by omega, rfl, HM1, HB1⟩
  case round =>
    obtain ⟨k, hk, rfl, HM, HW⟩ := hrel
    by_cases hlt : k < ops.length
    · obtain ⟨ad, B, d, rfl, hc0, hc1, hc2, hc3, hd, hC⟩ := CO.at_ (Kd.C_below HO.out HW.out) k hlt
      have HCo := Aside0.mk hC
      have HST := Aside0.mk (dviewL_take_succ (l := l) hlt)
      have hb1 := byO_take hlt
      have hb2 := byF_dviewL (ops.take k) l
      have hnm := HNm.out ops[k] (List.getElem_mem hlt)
      obtain ⟨o, ho⟩ : ∃ o, o = ops[k] := ⟨_, rfl⟩
      rw [← ho] at hc0 hc1 hc2 hc3 hd HCo HST hb1 hnm
      clear ho hC
      generalize dviewL l (ops.take k) = x at HM HST hb2
      have hmlt := HM.out.lt
      have HWb := Aside0.mk (below_alloc HW.out (.cells (doC o B d) 121))
      have HAp := Aside0.mk (apply_calls (fun k => ok k ∧ k ≠ w.heap.size) w.heap.size (n + k) x o B d (wr.alloc (.cells (doC o B d) 121)) (fun j hj => ⟨HOK.out j (Nat.le_trans HWb.out.size hj), by rw [alloc_size] at hj; omega⟩) (fun j hj => hj.2) (HM.out.move (below_alloc (Below.refl _ _) _)) hd (Kd.C_alloc HCo.out _) (by omega) (by omega) hnm.1 hnm.2)
      go_wp2_with fail
      with_reducible refine HAp.out.mono ?_
      rintro e w3 ⟨rfl, hm3, hg3⟩
      have HM3 := Aside0.mk hm3
      have HB3 := Aside0.mk (pw_below_grown HWb.out (some w.heap.size) HWb.out.size hg3 (fun j hj => by injection hj with hj; omega))
      clear hm3 hg3 HAp
      go_wp2
      go_roundw
      case rel => exact ⟨k + 1, by omega, by go_num, ⟨by rw [HST.out]; exact HM3.out⟩, HB3⟩
      case measure => simp [intOf]; omega
    · obtain rfl : k = ops.length := by omega
      rw [List.take_length] at HM
      go_wp2
      go_ret
      exact ⟨rfl, HM.out, HW.out⟩
theorem dview_calls (ok : Nat → Prop) (g b n : Nat) (l : List S109) (A : Option Addr) (c : Nat) (ops : List S123) (w : World) (hok : ∀ k, w.heap.size ≤ k → ok k) (hD : DiskAt w ok g b n l A c ops) (hn : n + ops.length + 1 < maxLen)
    (hs : byF l + byO ops ≤ 140737488351232) :
    Calls Try.prog 86 #[.pointer (some ⟨g, 0, none⟩)] w fun e w' => e = .returned (.map (some w.heap.size)) ∧ MP w' (fun k => ok k ∧ k ≠ w.heap.size) w.heap.size (n + ops.length) (dviewL l ops) ∧ Below w.heap.size w w' :=
  dviewR_calls ok g b n l A c ops w hok hD.toR hn hs
end Go.Proofs.Ytfaniohoplbdoaa.My
/- A disk's exists, Read, Sync, Files, View. -/
namespace Go.Proofs.Ytfaniohoplbdoaa.My
open Go Go.RowKit Go.Proofs.YtfaniohoplbdoaaW.PrintWords Go.Proofs.YtfaniohoplbdoaaW.PrintLast Go.Proofs.YtfaniohoplbdoaaW.PrintMore Go.Proofs.Ytfaniohoplbdoaa.PDiskActs
set_option linter.unusedVariables false
set_option linter.unusedSimpArgs false
theorem MP.far {w : World} {ok : Nat → Prop} {b n : Nat} {l : List S109} (h : MP w ok b n l) {p : Addr} (hb : b ≠ p.block) (hok : ∀ k, ok k → k ≠ p.block) (u : Value) : MP (w.setCell p u) ok b n l := by
  obtain ⟨D, ho, hm⟩ := h
  exact ⟨D, ho.setCell hb u, hm.imp fun v bs hv => Kd.V_far hv hok u⟩
theorem DiskAt.move {w w' : World} {ok : Nat → Prop} {g b n : Nat} {l : List S109} {A : Option Addr} {c : Nat} {ops : List S123} (h : DiskAt w ok g b n l A c ops) (hb : Below w.heap.size w w') : DiskAt w' ok g b n l A c ops :=
  ⟨(hb.block _ (blk_lt h.blk)).trans h.blk, h.mapN.move hb, Kd.N_below h.pendN hb, h.offg, h.offb, h.names⟩
set_option maxHeartbeats 2000000 in
set_option maxRecDepth 100000 in
theorem exists_calls (ok : Nat → Prop) (g b n : Nat) (l : List S109) (A : Option Addr) (c : Nat) (ops : List S123) (nm : ByteArray) (w : World) (hok : ∀ k, w.heap.size ≤ k → ok k) (hD : DiskAt w ok g b n l A c ops) (hn : n + ops.length + 1 < maxLen)
    (hs : byF l + byO ops ≤ 140737488351232) (hm : nm.size ≤ maxLen) :
    Calls Try.prog 87 #[.pointer (some ⟨g, 0, none⟩), .string nm] w fun e w' => e = .returned (.bool (findL (dviewL l ops) nm).isSome) ∧ Below w.heap.size w w' := by
  have HV := Aside0.mk (dview_calls ok g b n l A c ops w hok hD hn hs)
  clear hok hD
  go_enter Try.func87, Try.ntmps87
  go_wp2_with (first | (go_at_call 86; with_reducible refine HV.out.mono ?_; rintro e w1 ⟨rfl, hm1, hB1⟩; obtain ⟨v0, hrun, hv0⟩ := hm1.look_ok hm; have HB1 := Aside0.mk hB1; clear hm1 hv0 hB1) | fail)
  go_ret
  exact ⟨rfl, HB1.out⟩
set_option maxHeartbeats 2000000 in
set_option maxRecDepth 100000 in
theorem dread_calls (ok : Nat → Prop) (g b n : Nat) (l : List S109) (A : Option Addr) (c : Nat) (ops : List S123) (nm : ByteArray) (w : World) (hok : ∀ k, w.heap.size ≤ k → ok k) (hD : DiskAt w ok g b n l A c ops) (hn : n + ops.length + 1 < maxLen)
    (hs : byF l + byO ops ≤ 140737488351232) (hm : nm.size ≤ maxLen) :
    Calls Try.prog 56 #[.pointer (some ⟨g, 0, none⟩), .string nm] w (ReadPost w (findL (dviewL l ops) nm)) := by
  have HV := Aside0.mk (dview_calls ok g b n l A c ops w hok hD hn hs)
  have hle : ((findL (dviewL l ops) nm).getD []).length ≤ 140737488351232 := by
    have h1 := findL_le (l := dviewL l ops) (nm := nm)
    have h2 := byF_dviewL ops l
    omega
  clear hok hD
  obtain ⟨r, hr⟩ : ∃ r, r = findL (dviewL l ops) nm := ⟨_, rfl⟩
  rw [← hr] at hle ⊢
  have HR := Aside0.mk hr
  clear hr
  go_enter Try.func56, Try.ntmps56
  go_wp2_with (first | (go_at_call 86; with_reducible refine HV.out.mono ?_; rintro e w1 ⟨rfl, hm1, hB1⟩; obtain ⟨v0, hrun, hv0⟩ := hm1.look_ok hm; rw [← HR.out] at hrun hv0; obtain ⟨A0, c0, rfl⟩ := Kd.V_slice hv0; have HV0 := Aside0.mk (Kd.V_reads' hv0); have HB1 := Aside0.mk hB1; have HCl := Aside0.mk (cloneB_calls A0 c0 (r.getD []) w1 HV0.out.2.2 hle); clear hm1 hv0 hB1) | (go_at_call 79; with_reducible refine HCl.out.mono ?_; rintro e w3 ⟨⟨v3, rfl, hr3⟩, hB3⟩; have HR3 := Aside0.mk hr3; have HB3 := Aside0.mk hB3; clear hr3 hB3) | fail)
  go_ret2
  exact ⟨⟨_, rfl, Kd.R_lower HR3.out HB1.out.size⟩, below_then HB1.out HB1.out.size HB3.out⟩
set_option maxHeartbeats 2000000 in
set_option maxRecDepth 100000 in
theorem dsyncR_calls (ok : Nat → Prop) (g b n : Nat) (l : List S109) (A : Option Addr) (c : Nat) (ops : List S123) (w : World) (hok : ∀ k, w.heap.size ≤ k → ok k) (hD : DiskR w ok g b n l A c ops) (hn : n + ops.length + 1 < maxLen)
    (hs : byF l + byO ops ≤ 140737488351232) :
    Calls Try.prog 55 #[.pointer (some ⟨g, 0, none⟩)] w fun e w' => e = .returned (.tuple #[]) ∧ DiskAt w' (fun k => ok k ∧ k ≠ w.heap.size) g w.heap.size (n + ops.length) (dviewL l ops) none 0 [] ∧ w.grownBy w' (some g) := by
  have HV := Aside0.mk (dviewR_calls ok g b n l A c ops w hok hD hn hs)
  have hlg := blk_lt hD.blk
  have HBK := Aside0.mk hD.blk
  have HG := Aside0.mk hD.offg
  clear hok hD
  go_enter Try.func55, Try.ntmps55
  go_wp2_with (first | (go_at_call 86; with_reducible refine HV.out.mono ?_; rintro e w1 ⟨rfl, hm1, hB1⟩; have hb1 := (hB1.block _ hlg).trans HBK.out; have HB1 := Aside0.mk hB1; have HM1 := Aside0.mk hm1; have HK1 := Aside0.mk hb1; have hz0 : w1.cell? ⟨g, 0, none⟩ = some (.map (some b)) := (blk_cell hb1 0).trans rfl; have hz1 : w1.cell? ⟨g, 1, none⟩ = some (.slice A ops.length c) := (blk_cell hb1 1).trans rfl; have hf0 := blk_frozen hb1 0; have hf1 := blk_frozen hb1 1; clear hm1 hB1 hb1 HV) | fail)
  go_end0
  have hne : w.heap.size ≠ g := by omega
  refine ⟨rfl, ⟨blk_put2 HK1.out _ _, ?_, Kd.N_nil _ _ _ _ _, fun k hk => HG.out k hk.1, fun k hk => hk.2, by simp⟩, ?_⟩
  · refine MP.okmono (ok := fun k => ok k ∧ k ≠ w.heap.size) ?_ (fun k hk => ⟨hk, by simp [Value.ownBlock]⟩)
    exact (HM1.out.far (p := ⟨g, 0, none⟩) hne (fun k hk => HG.out k hk.1) _).far (p := ⟨g, 1, none⟩) hne (fun k hk => HG.out k hk.1) _
  · refine ⟨HB1.out.os, HB1.out.tape, HB1.out.output, by simpa [World.setCell] using HB1.out.size, fun k hk hne2 => ?_⟩
    have hkg : k ≠ g := fun e => hne2 (by rw [e])
    rw [Below.heap_setCell _ ⟨g, 1, none⟩ _ k hkg, Below.heap_setCell _ ⟨g, 0, none⟩ _ k hkg]
    exact HB1.out.block k hk
theorem dsync_calls (ok : Nat → Prop) (g b n : Nat) (l : List S109) (A : Option Addr) (c : Nat) (ops : List S123) (w : World) (hok : ∀ k, w.heap.size ≤ k → ok k) (hD : DiskAt w ok g b n l A c ops) (hn : n + ops.length + 1 < maxLen)
    (hs : byF l + byO ops ≤ 140737488351232) :
    Calls Try.prog 55 #[.pointer (some ⟨g, 0, none⟩)] w fun e w' => e = .returned (.tuple #[]) ∧ DiskAt w' (fun k => ok k ∧ k ≠ w.heap.size) g w.heap.size (n + ops.length) (dviewL l ops) none 0 [] ∧ w.grownBy w' (some g) :=
  dsyncR_calls ok g b n l A c ops w hok hD.toR hn hs
end Go.Proofs.Ytfaniohoplbdoaa.My
/- A disk's Files, View, Pending, New. -/
namespace Go.Proofs.Ytfaniohoplbdoaa.My
open Go Go.RowKit Go.Proofs.YtfaniohoplbdoaaW.PrintWords Go.Proofs.YtfaniohoplbdoaaW.PrintLast Go.Proofs.YtfaniohoplbdoaaW.PrintMore Go.Proofs.Ytfaniohoplbdoaa.PDiskActs
set_option linter.unusedVariables false
set_option linter.unusedSimpArgs false
theorem uniq_of_all2 {Rv : Value → List Int → Prop} : ∀ {es : List (Lit × DataW Value)} {l : List S109}, All2 (EntryOf Rv) es l → es.Pairwise (fun p q => p.1 ≠ q.1) → Uniq l
  | [], [], _, _ => fun f hf => by cases hf
  | e :: es, f :: l, h, hp => by
    obtain ⟨h1, h2⟩ := h
    rw [List.pairwise_cons] at hp
    have ih := uniq_of_all2 h2 hp.2
    intro x hx
    rcases List.mem_cons.1 hx with rfl | hx
    · simp [findL]
    · have hne : (f.f0.toList == x.f0.toList) = false := by
        have hmem : ∀ {es : List (Lit × DataW Value)} {l : List S109}, All2 (EntryOf Rv) es l → x ∈ l → ∃ p ∈ es, p.1 = .string x.f0.data.toList := by
          intro es
          induction es with
          | nil => intro l h hx; cases l with | nil => cases hx | cons => exact h.elim
          | cons e es ih =>
            intro l h hx
            cases l with
            | nil => exact h.elim
            | cons f l =>
              rcases List.mem_cons.1 hx with rfl | hx
              · exact ⟨e, List.mem_cons_self, h.1.1⟩
              · obtain ⟨p, hp, he⟩ := ih h.2 hx
                exact ⟨p, List.mem_cons_of_mem _ hp, he⟩
        obtain ⟨p, hpm, hpe⟩ := hmem h2 hx
        have := hp.1 p hpm
        rw [h1.1, hpe] at this
        rw [ByteArray.toList_eq, ByteArray.toList_eq]
        simpa using this
      have := ih x hx
      unfold findL at this ⊢
      rw [List.find?_cons, hne]
      exact this
theorem MP.uniq {w : World} {ok : Nat → Prop} {b n : Nat} {l : List S109} (h : MP w ok b n l) : Uniq l := by
  obtain ⟨D, ho, es, he, ha⟩ := h
  obtain ⟨es', he', hp, _⟩ := ho.entries keyLaw
  rw [he] at he'
  injection he' with he'
  subst he'
  exact uniq_of_all2 ha hp
theorem MP.names {w : World} {ok : Nat → Prop} {b n : Nat} {l : List S109} (h : MP w ok b n l) : ∀ f ∈ l, f.f0.size ≤ maxLen := by
  obtain ⟨D, ho, es, he, ha⟩ := h
  obtain ⟨es', he', hk⟩ := ho.keysOf
  rw [he] at he'
  injection he' with he'
  subst he'
  have : ∀ {es : List (Lit × DataW Value)} {l : List S109} {Rv : Value → List Int → Prop}, All2 (EntryOf Rv) es l → (∀ p ∈ es, Maps.KeysOf Try.prog 9 p.1) → ∀ f ∈ l, f.f0.size ≤ maxLen := by
    intro es
    induction es with
    | nil => intro l Rv h _ f hf; cases l with | nil => cases hf | cons => exact h.elim
    | cons e es ih =>
      intro l Rv h hk f hf
      cases l with
      | nil => exact h.elim
      | cons g l =>
        rcases List.mem_cons.1 hf with rfl | hf
        · obtain ⟨v, hv⟩ := hk e List.mem_cons_self
          obtain ⟨x, _, hx, hl⟩ := Maps.keyOf_str Try.underlying9 hv
          have := h.1.1.symm.trans hx
          injection this with this
          have e2 : f.f0.data.toList.length = x.length := by rw [this]
          rw [Array.length_toList] at e2
          show f.f0.data.size ≤ maxLen
          omega
        · exact ih h.2 (fun p hp => hk p (List.mem_cons_of_mem _ hp)) f hf
  exact this ha hk
set_option maxHeartbeats 2000000 in
set_option maxRecDepth 100000 in
theorem files_calls (okm ok : Nat → Prop) (g b n : Nat) (l : List S109) (A : Option Addr) (c : Nat) (ops : List S123) (w : World) (hok : ∀ k, w.heap.size ≤ k → ok k) (hD : DiskAt w okm g b n l A c ops) (hl : l.length ≤ 1099511627776) (hs : byF l ≤ 140737488351232) :
    Calls Try.prog 60 #[.pointer (some ⟨g, 0, none⟩)] w (ViewPost w ok l) := by
  have HL := Aside0.mk (list_calls okm ok b n l w hok hD.map hD.map.uniq hl (fun f hf => ⟨by have := byF_le hf; omega, hD.map.names f hf⟩))
  have hz0 : w.cell? ⟨g, 0, none⟩ = some (.map (some b)) := (blk_cell hD.blk 0).trans rfl
  have hu113 := Try.underlying113
  clear hD hok
  go_enter Try.func60, Try.ntmps60
  go_wp2_with (first | (go_at_call 88; with_reducible refine HL.out.mono ?_; rintro e w1 ⟨⟨v, rfl, hv⟩, hB⟩; have HV := Aside0.mk hv; have HB := Aside0.mk hB; clear hv hB) | fail)
  go_ret
  exact ⟨⟨_, rfl, HV.out⟩, HB.out⟩
set_option maxHeartbeats 2000000 in
set_option maxRecDepth 100000 in
theorem dviewF_calls (okm ok : Nat → Prop) (g b n : Nat) (l : List S109) (A : Option Addr) (c : Nat) (ops : List S123) (w : World) (hokm : ∀ k, w.heap.size ≤ k → okm k) (hok : ∀ k, w.heap.size ≤ k → ok k) (hD : DiskAt w okm g b n l A c ops) (hn : n + ops.length + 1 < maxLen) (hl : (dviewL l ops).length ≤ 1099511627776)
    (hs : byF l + byO ops ≤ 140737488351232) :
    Calls Try.prog 61 #[.pointer (some ⟨g, 0, none⟩)] w (ViewPost w ok (dviewL l ops)) := by
  have HV := Aside0.mk (dview_calls okm g b n l A c ops w hokm hD hn hs)
  have hbf := byF_dviewL ops l
  have HOK := Aside0.mk hok
  have HL := Aside0.mk (fun (w1 : World) (hm : MP w1 (fun k => okm k ∧ k ≠ w.heap.size) w.heap.size (n + ops.length) (dviewL l ops)) (hB : Below w.heap.size w w1) => list_calls _ ok w.heap.size (n + ops.length) (dviewL l ops) w1 (fun k hk => hok k (Nat.le_trans hB.size hk)) hm hm.uniq hl (fun f hf => ⟨by have := byF_le hf; omega, hm.names f hf⟩))
  have hu113 := Try.underlying113
  clear hD hok hokm
  go_enter Try.func61, Try.ntmps61
  go_wp2_with (first | (go_at_call 86; with_reducible refine HV.out.mono ?_; rintro e w1 ⟨rfl, hm1, hB1⟩; have HL1 := Aside0.mk (HL.out w1 hm1 hB1); have HB1 := Aside0.mk hB1; clear hm1 hB1) | (go_at_call 88; with_reducible refine HL1.out.mono ?_; rintro e w2 ⟨⟨v, rfl, hv⟩, hB⟩; have HVv := Aside0.mk hv; have HB := Aside0.mk hB; clear hv hB) | fail)
  go_ret
  exact ⟨⟨_, rfl, HVv.out⟩, below_then HB1.out HB1.out.size HB.out⟩
end Go.Proofs.Ytfaniohoplbdoaa.My
/- A new disk. -/
namespace Go.Proofs.Ytfaniohoplbdoaa.My
open Go Go.RowKit Go.Proofs.YtfaniohoplbdoaaW.PrintWords Go.Proofs.YtfaniohoplbdoaaW.PrintLast Go.Proofs.YtfaniohoplbdoaaW.PrintMore Go.Proofs.Ytfaniohoplbdoaa.PDiskActs
set_option linter.unusedVariables false
set_option linter.unusedSimpArgs false
set_option maxHeartbeats 2000000 in
set_option maxRecDepth 100000 in
theorem new_calls (ok : Nat → Prop) (w : World) :
    Calls Try.prog 53 #[] w fun e w' => e = .returned (.pointer (some ⟨w.heap.size + 1, 0, none⟩)) ∧ DiskAt w' (fun k => ok k ∧ k ≠ w.heap.size ∧ k ≠ w.heap.size + 1) (w.heap.size + 1) w.heap.size 0 [] none 0 [] ∧ Below w.heap.size w w' ∧ w'.heap.size = w.heap.size + 2 := by
  have hmm := @run_makeMap Try.prog
  go_enter Try.func53, Try.ntmps53
  go_wp2
  go_ret
  have hb := blk_new (w.alloc (.map #[] 0)) (.cells #[.map (some w.heap.size), .slice none 0 0] 113)
  rw [alloc_size] at hb
  refine ⟨rfl, ⟨hb, ⟨.map [], ?_, Mir.nil _⟩, Kd.N_nil _ _ _ _ _, fun k hk => hk.2.2, fun k hk => hk.2.1, by simp⟩, below_alloc (below_alloc (Below.refl _ _) _) _, by rw [alloc_size, alloc_size]⟩
  exact (World.ownsMap_made w Try.prog 9 RV).alloc _
end Go.Proofs.Ytfaniohoplbdoaa.My
/- A disk's Remove and Rename. -/
namespace Go.Proofs.Ytfaniohoplbdoaa.My
open Go Go.RowKit Go.Proofs.YtfaniohoplbdoaaW.PrintWords Go.Proofs.YtfaniohoplbdoaaW.PrintLast Go.Proofs.YtfaniohoplbdoaaW.PrintMore Go.Proofs.Ytfaniohoplbdoaa.PDiskActs
set_option linter.unusedVariables false
set_option linter.unusedSimpArgs false
theorem info121 : (Try.prog.info? 121).map (fun i => (i.zero, i.size, i.bytes)) = some (some (.agg #[.int .i64 0, .string ⟨#[]⟩, .string ⟨#[]⟩, .slice none 0 0]), 4, 64) := by kernel_rfl
/-- What an operation of the disk at g, its row v, leaves as it was. -/
def KeepD (w w' : World) (g : Nat) (v : Value) : Prop := w'.os = w.os ∧ w'.tape = w.tape ∧ w'.output = w.output ∧ w.heap.size ≤ w'.heap.size ∧ ∀ k, k < w.heap.size → k ≠ g → some k ≠ v.ownBlock → w'.heap[k]? = w.heap[k]?
/-- Where the new row lies. -/
def RowAt (w w' : World) (v v' : Value) : Prop := v'.ownBlock = v.ownBlock ∨ ∃ b, v'.ownBlock = some b ∧ w.heap.size ≤ b ∧ b < w'.heap.size
abbrev PushPost (w : World) (ok : Nat → Prop) (g b n : Nat) (l : List S109) (A : Option Addr) (c : Nat) (ops ops' : List S123) (r : Int) : Ending → World → Prop := fun e w' => e = .returned (.int .i64 r) ∧ ∃ A' c', DiskAt w' ok g b n l A' c' ops' ∧ KeepD w w' g (.slice A ops.length c) ∧ RowAt w w' (.slice A ops.length c) (.slice A' ops'.length c')
theorem push_same {w w' : World} {ok : Nat → Prop} {g b n : Nat} {l : List S109} {A : Option Addr} {c : Nat} {ops : List S123} {r : Int} (hD : DiskAt w ok g b n l A c ops) (hB : Below w.heap.size w w') : PushPost w ok g b n l A c ops ops r (.returned (.int .i64 r)) w' :=
  ⟨rfl, A, c, hD.move hB, ⟨hB.os, hB.tape, hB.output, hB.size, fun k hk _ _ => hB.block k hk⟩, .inl rfl⟩
theorem app_op {ops : Array Oper} {rest : List Oper} {o : Oper} {a : Act} {Q : Exit → Act → World → Prop} {W : World} (hgd : o.guard = none) (s x : Operand)
    (ho : o.op = .call { callee := .builtin .append, args := #[s, x], argTypes := #[111, 111] }) (v : Value) (xs : List S123) (p : S123) (A : Option Addr) (c : Nat) (ok okp : Nat → Prop) {g : Nat} (hs : a.eval s = v) (hx : a.eval x = .slice (some ⟨g, 0, none⟩) 1 1) (hgw : g = W.heap.size)
    (hl1 : p.f3.length ≤ c) (hp : Kd.F (Kd.int .u8) W okp A p.f3.length p.f3) (hokp : ∀ k, okp k → ok k ∧ some k ≠ v.ownBlock) (hfresh : ∀ k, W.heap.size ≤ k → ok k)
    (HO : Kd.N k123 121 W 0 ok v xs) (hl : xs.length + 1 ≤ 2199023255552)
    (h : ∀ v1 w1, Aside0 (Kd.N k123 121 w1 0 ok v1 (xs ++ [p])) → Aside0 (W.grownBy w1 v.ownBlock) → Aside0 (v1.ownBlock = v.ownBlock ∨ ∃ b, v1.ownBlock = some b ∧ W.heap.size ≤ b) → wpList Try.prog ops Q rest (a.put o.dst v1) w1) : wpList Try.prog ops Q (o :: rest) a (W.alloc (.cells (doC p A c) 121)) :=
  Kd.N_append (w0 := W) k123 0 hgd s x 111 121 (.agg #[(.int .i64 0), (.string ⟨#[]⟩), (.string ⟨#[]⟩), (.slice none 0 0)]) 64 ho Try.underlying111 info121 rfl (by decide) (by decide) v xs p [.int .i64 p.f0, .string p.f1, .string p.f2, .slice A p.f3.length c] ok okp hs (hgw ▸ hx) (k123_mkF W okp p hl1 hp)
    hokp hfresh HO (Below.refl _ _) (Nat.zero_le _) (by omega)
    (fun v1 w1 h1 _ h3 h4 => h v1 w1 ⟨h1⟩ ⟨h3⟩ ⟨h4⟩)
theorem DiskAt.ne {w : World} {ok : Nat → Prop} {g b n : Nat} {l : List S109} {A : Option Addr} {c : Nat} {ops : List S123} (h : DiskAt w ok g b n l A c ops) : b ≠ g := by
  intro e
  obtain ⟨D, ⟨es, clock, h1, _⟩, _⟩ := h.mapN
  have h2 := h.blk
  rw [← e, h1] at h2
  cases h2
theorem push_done {w1 w2 : World} {ok : Nat → Prop} {g b n : Nat} {l : List S109} {A : Option Addr} {c : Nat} {ops : List S123} {o : S123} {A2 : Option Addr} {c2 : Nat} (hD : DiskAt w1 ok g b n l A c ops)
    (hN : Kd.N k123 121 w2 0 ok (.slice A2 (ops ++ [o]).length c2) (ops ++ [o])) (hg : w1.grownBy w2 (Value.slice A ops.length c).ownBlock)
    (hat : (Value.slice A2 (ops ++ [o]).length c2).ownBlock = (Value.slice A ops.length c).ownBlock ∨ ∃ b, (Value.slice A2 (ops ++ [o]).length c2).ownBlock = some b ∧ w1.heap.size ≤ b) (hnm : o.f1.size ≤ maxLen ∧ o.f2.size ≤ maxLen) :
    w2.heap[g]? = some (.cells #[.map (some b), .slice A ops.length c] 113 (0, 0)) ∧ ∀ v2, v2 = Value.slice A2 (ops ++ [o]).length c2 → DiskAt (w2.setCell ⟨g, 1, none⟩ v2) ok g b n l A2 c2 (ops ++ [o]) ∧ KeepD w1 (w2.setCell ⟨g, 1, none⟩ v2) g (.slice A ops.length c) ∧ RowAt w1 (w2.setCell ⟨g, 1, none⟩ v2) (.slice A ops.length c) (.slice A2 (ops ++ [o]).length c2) := by
  have hgo : some g ≠ (Value.slice A ops.length c).ownBlock := fun he => hD.offg g (hD.pendN.1 g he.symm) rfl
  have hbo : some b ≠ (Value.slice A ops.length c).ownBlock := fun he => hD.offb b (hD.pendN.1 b he.symm) rfl
  have hblk := (hg.block g (blk_lt hD.blk) hgo).trans hD.blk
  refine ⟨hblk, fun v2 hv2 => ?_⟩
  subst hv2
  have hsz : (w2.setCell ⟨g, 1, none⟩ (.slice A2 (ops ++ [o]).length c2)).heap.size = w2.heap.size := by simp [World.setCell]
  refine ⟨⟨blk_put (cs := #[.map (some b), .slice A ops.length c]) hblk 1 _ rfl, ?_, Kd.N_far hN (p := ⟨g, 1, none⟩) hD.offg _, hD.offg, hD.offb, ?_⟩, ⟨hg.os, hg.tape, hg.output, by rw [hsz]; exact hg.size, fun k hk hkg hko => ?_⟩, ?_⟩
  · obtain ⟨D, ho, hm⟩ := hD.mapN
    have hm2 : MP w2 (fun k => ok k ∧ some k ≠ (Value.slice A2 (ops ++ [o]).length c2).ownBlock) b n l := ⟨D, ho.kept hg hbo, hm.imp fun v bs hv => Kd.V_after hv hg hat⟩
    exact hm2.far (p := ⟨g, 1, none⟩) hD.ne (fun k hk => hD.offg k hk.1) _
  · intro x hx
    rcases List.mem_append.1 hx with h | h
    · exact hD.names x h
    · rw [List.mem_singleton.1 h]; exact hnm
  · rw [Below.heap_setCell _ ⟨g, 1, none⟩ _ k hkg]
    exact hg.block k hk hko
  · rcases hat with h | ⟨q, h, hq⟩
    · exact .inl h
    · exact .inr ⟨q, h, hq, by rw [hsz]; exact Kd.N_lt hN q h⟩
end Go.Proofs.Ytfaniohoplbdoaa.My
/- A disk's Remove and Rename, walked. -/
namespace Go.Proofs.Ytfaniohoplbdoaa.My
open Go Go.RowKit Go.Proofs.YtfaniohoplbdoaaW.PrintWords Go.Proofs.YtfaniohoplbdoaaW.PrintLast Go.Proofs.YtfaniohoplbdoaaW.PrintMore Go.Proofs.Ytfaniohoplbdoaa.PDiskActs
set_option linter.unusedVariables false
set_option linter.unusedSimpArgs false
theorem KeepD.pre {w w1 w' : World} {g : Nat} {v : Value} (hB : Below w.heap.size w w1) (h : KeepD w1 w' g v) : KeepD w w' g v :=
  ⟨h.1.trans hB.os, h.2.1.trans hB.tape, h.2.2.1.trans hB.output, Nat.le_trans hB.size h.2.2.2.1, fun k hk h1 h2 => (h.2.2.2.2 k (Nat.lt_of_lt_of_le hk hB.size) h1 h2).trans (hB.block k hk)⟩
theorem RowAt.pre {w w1 w' : World} {v v' : Value} (hB : Below w.heap.size w w1) (h : RowAt w1 w' v v') : RowAt w w' v v' := by
  rcases h with h | ⟨b, h1, h2, h3⟩
  · exact .inl h
  · exact .inr ⟨b, h1, Nat.le_trans hB.size h2, h3⟩
def dremL (l : List S109) (ops : List S123) (nm : ByteArray) : List S123 × Int := if (findL (dviewL l ops) nm).isSome then (ops ++ [⟨1, nm, ⟨#[]⟩, []⟩], 0) else (ops, 11)
set_option maxHeartbeats 2000000 in
set_option maxRecDepth 100000 in
theorem dremove_calls (ok : Nat → Prop) (g b n : Nat) (l : List S109) (A : Option Addr) (c : Nat) (ops : List S123) (nm : ByteArray) (w : World) (hok : ∀ k, w.heap.size ≤ k → ok k) (hD : DiskAt w ok g b n l A c ops) (hn : n + ops.length + 1 < maxLen)
    (hs : byF l + byO ops ≤ 140737488351232) (hm : nm.size ≤ maxLen) (hl : ops.length + 1 ≤ 2199023255552) :
    Calls Try.prog 58 #[.pointer (some ⟨g, 0, none⟩), .string nm] w (PushPost w ok g b n l A c ops (dremL l ops nm).1 (dremL l ops nm).2) := by
  have HE := Aside0.mk (exists_calls ok g b n l A c ops nm w hok hD hn hs hm)
  have HD := Aside0.mk (fun (w1 : World) (hB : Below w.heap.size w w1) => hD.move hB)
  have HOK := Aside0.mk hok
  have hu113 := Try.underlying113
  have hu121 := Try.underlying121
  unfold dremL
  clear hok hD
  cases hq : (findL (dviewL l ops) nm).isSome with
  | false =>
    rw [hq] at HE
    clear hq
    simp only [Bool.false_eq_true, if_false]
    go_enter Try.func58, Try.ntmps58
    go_wp2_with (first | (go_at_call 87; with_reducible refine HE.out.mono ?_; rintro e w1 ⟨rfl, hB1⟩; have HB1 := Aside0.mk hB1; clear hB1) | fail)
    go_ret
    exact push_same (HD.out w (Below.refl _ _)) HB1.out
  | true =>
    rw [hq] at HE
    clear hq
    simp only [if_true]
    go_enter Try.func58, Try.ntmps58
    go_wp2_with (first | (go_at_call 87; with_reducible refine HE.out.mono ?_; rintro e w1 ⟨rfl, hB1⟩; have HB1 := Aside0.mk hB1; have HD1 := Aside0.mk (HD.out w1 hB1); have hz1 : w1.cell? ⟨g, 1, none⟩ = some (.slice A ops.length c) := (blk_cell HD1.out.blk 1).trans rfl; clear hB1) | ((with_reducible refine gate_dst (N := 19) rfl ?_); refine app_op (W := w1) rfl (.tmp 15) (.tmp 18) rfl _ ops ⟨1, nm, ⟨#[]⟩, []⟩ none 0 ok (fun _ => False) rfl rfl rfl (Nat.le_refl _) (Kd.F_nil _ _ _) (fun _ h => h.elim) ?hfr HD1.out.pendN hl ?_; (case hfr => exact fun k hk => HOK.out k (Nat.le_trans HB1.out.size hk)); intro v2 w2 HN HG HA; obtain ⟨A2, c2, rfl⟩ := Kd.N_slice HN.out; have HP := Aside0.mk (push_done HD1.out HN.out HG.out HA.out ⟨hm, by show (0 : Nat) ≤ maxLen; omega⟩); have hy1 : w2.cell? ⟨g, 1, none⟩ = some (.slice A ops.length c) := (blk_cell HP.out.1 1).trans rfl; have hf1 := blk_frozen HP.out.1 1; clear hz1) | fail)
    go_ret
    obtain ⟨p1, p2, p3⟩ := HP.out.2 (.slice A2 (ops.length + 1) c2) (by simp)
    exact ⟨rfl, A2, c2, p1, p2.pre HB1.out, p3.pre HB1.out⟩
def drenL (l : List S109) (ops : List S123) (nm tn : ByteArray) : List S123 × Int := if (findL (dviewL l ops) nm).isSome then (if nameOk tn then (ops ++ [⟨2, nm, tn, []⟩], 0) else (ops, 8)) else (ops, 11)
set_option maxHeartbeats 2000000 in
set_option maxRecDepth 100000 in
theorem drename_calls (ok : Nat → Prop) (g b n : Nat) (l : List S109) (A : Option Addr) (c : Nat) (ops : List S123) (nm tn : ByteArray) (w : World) (hok : ∀ k, w.heap.size ≤ k → ok k) (hD : DiskAt w ok g b n l A c ops) (hn : n + ops.length + 1 < maxLen)
    (hs : byF l + byO ops ≤ 140737488351232) (hm : nm.size ≤ maxLen) (hm2 : tn.size ≤ maxLen) (hl : ops.length + 1 ≤ 2199023255552) :
    Calls Try.prog 59 #[.pointer (some ⟨g, 0, none⟩), .string nm, .string tn] w (PushPost w ok g b n l A c ops (drenL l ops nm tn).1 (drenL l ops nm tn).2) := by
  have HE := Aside0.mk (exists_calls ok g b n l A c ops nm w hok hD hn hs hm)
  have HD := Aside0.mk (fun (w1 : World) (hB : Below w.heap.size w w1) => hD.move hB)
  have HOK := Aside0.mk hok
  have HWo := Aside0.mk (fun w => word_calls tn w (by unfold maxLen at hm2; omega))
  have hu113 := Try.underlying113
  have hu121 := Try.underlying121
  unfold drenL
  clear hok hD
  cases hq : (findL (dviewL l ops) nm).isSome with
  | false =>
    rw [hq] at HE
    clear hq
    simp only [Bool.false_eq_true, if_false]
    go_enter Try.func59, Try.ntmps59
    go_wp2_with (first | (go_at_call 87; with_reducible refine HE.out.mono ?_; rintro e w1 ⟨rfl, hB1⟩; have HB0 := Aside0.mk hB1; clear hB1) | fail)
    go_ret
    exact push_same (HD.out w (Below.refl _ _)) HB0.out
  | true =>
    rw [hq] at HE
    clear hq
    cases hno : nameOk tn with
    | false =>
      rw [hno] at HWo
      clear hno
      simp only [Bool.false_eq_true, if_false, if_true]
      go_enter Try.func59, Try.ntmps59
      go_wp2_with (first | (go_at_call 87; with_reducible refine HE.out.mono ?_; rintro e w1 ⟨rfl, hB1⟩; have HB0 := Aside0.mk hB1; clear hB1) | (go_at_call 78; with_reducible refine (HWo.out _).mono ?_; rintro e w2 ⟨rfl, hB2⟩; have HB1 := Aside0.mk (below_then HB0.out HB0.out.size hB2); have HD1 := Aside0.mk (HD.out w2 HB1.out); have hz1 : w2.cell? ⟨g, 1, none⟩ = some (.slice A ops.length c) := (blk_cell HD1.out.blk 1).trans rfl; clear hB2) | fail)
      go_ret
      exact push_same (HD.out w (Below.refl _ _)) HB1.out
    | true =>
      rw [hno] at HWo
      clear hno
      simp only [if_true]
      go_enter Try.func59, Try.ntmps59
      go_wp2_with (first | (go_at_call 87; with_reducible refine HE.out.mono ?_; rintro e w1 ⟨rfl, hB1⟩; have HB0 := Aside0.mk hB1; clear hB1) | (go_at_call 78; with_reducible refine (HWo.out _).mono ?_; rintro e w2 ⟨rfl, hB2⟩; have HB1 := Aside0.mk (below_then HB0.out HB0.out.size hB2); have HD1 := Aside0.mk (HD.out w2 HB1.out); have hz1 : w2.cell? ⟨g, 1, none⟩ = some (.slice A ops.length c) := (blk_cell HD1.out.blk 1).trans rfl; clear hB2) | ((with_reducible refine gate_dst (N := 25) rfl ?_); refine app_op (W := w2) rfl (.tmp 20) (.tmp 24) rfl _ ops ⟨2, nm, tn, []⟩ none 0 ok (fun _ => False) rfl rfl rfl (Nat.le_refl _) (Kd.F_nil _ _ _) (fun _ h => h.elim) ?hfr HD1.out.pendN hl ?_; (case hfr => exact fun k hk => HOK.out k (Nat.le_trans HB1.out.size hk)); intro v2 w3 HN HG HA; obtain ⟨A2, c2, rfl⟩ := Kd.N_slice HN.out; have HP := Aside0.mk (push_done HD1.out HN.out HG.out HA.out ⟨hm, hm2⟩); have hy1 : w3.cell? ⟨g, 1, none⟩ = some (.slice A ops.length c) := (blk_cell HP.out.1 1).trans rfl; have hf1 := blk_frozen HP.out.1 1; clear hz1) | fail)
      go_ret
      obtain ⟨p1, p2, p3⟩ := HP.out.2 (.slice A2 (ops.length + 1) c2) (by simp)
      exact ⟨rfl, A2, c2, p1, p2.pre HB1.out, p3.pre HB1.out⟩
end Go.Proofs.Ytfaniohoplbdoaa.My
/- A disk's Append. -/
namespace Go.Proofs.Ytfaniohoplbdoaa.My
open Go Go.RowKit Go.Proofs.YtfaniohoplbdoaaW.PrintWords Go.Proofs.YtfaniohoplbdoaaW.PrintLast Go.Proofs.YtfaniohoplbdoaaW.PrintMore Go.Proofs.Ytfaniohoplbdoaa.PDiskActs
set_option linter.unusedVariables false
set_option linter.unusedSimpArgs false
theorem app_op_step {ops : Array Oper} {o : Oper} {a : Act} {Q : Exit → Act → World → Prop} {Kc : Act → World → Prop} {W : World} (hw : Region.wanted o (yielded ops a.tmps) = true) (s x : Operand)
    (ho : o.op = .call { callee := .builtin .append, args := #[s, x], argTypes := #[111, 111] }) (v : Value) (xs : List S123) (p : S123) (A : Option Addr) (c : Nat) (ok okp : Nat → Prop) {g : Nat} (hs : a.eval s = v) (hx : a.eval x = .slice (some ⟨g, 0, none⟩) 1 1) (hgw : g = W.heap.size)
    (hl1 : p.f3.length ≤ c) (hp : Kd.F (Kd.int .u8) W okp A p.f3.length p.f3) (hokp : ∀ k, okp k → ok k ∧ some k ≠ v.ownBlock) (hfresh : ∀ k, W.heap.size ≤ k → ok k)
    (HO : Kd.N k123 121 W 0 ok v xs) (hl : xs.length + 1 ≤ 2199023255552)
    (h : ∀ v1 w1, Aside0 (Kd.N k123 121 w1 0 ok v1 (xs ++ [p])) → Aside0 (W.grownBy w1 v.ownBlock) → Aside0 (v1.ownBlock = v.ownBlock ∨ ∃ b, v1.ownBlock = some b ∧ W.heap.size ≤ b) → Kc (a.put o.dst v1) w1) :
    if Region.wanted o (yielded ops a.tmps) = true then Oper.wp Try.prog o a (W.alloc (.cells (doC p A c) 121)) Kc Q else Kc (a.put o.dst undef) (W.alloc (.cells (doC p A c) 121)) :=
  Kd.N_append_step (w0 := W) k123 0 hw s x 111 121 (.agg #[(.int .i64 0), (.string ⟨#[]⟩), (.string ⟨#[]⟩), (.slice none 0 0)]) 64 ho Try.underlying111 info121 rfl (by decide) (by decide) v xs p [.int .i64 p.f0, .string p.f1, .string p.f2, .slice A p.f3.length c] ok okp hs (hgw ▸ hx) (k123_mkF W okp p hl1 hp)
    hokp hfresh HO (Below.refl _ _) (Nat.zero_le _) (by omega)
    (fun v1 w1 h1 _ h3 h4 => h v1 w1 ⟨h1⟩ ⟨h3⟩ ⟨h4⟩)
set_option maxHeartbeats 2000000 in
set_option maxRecDepth 100000 in
theorem dappend_calls (ok : Nat → Prop) (g b n : Nat) (l : List S109) (A : Option Addr) (c : Nat) (ops : List S123) (nm : ByteArray) (B : Option Addr) (d : Nat) (y : List Int) (w : World) (hok : ∀ k, w.heap.size ≤ k → ok k) (hD : DiskAt w ok g b n l A c ops)
    (hC : CB w B y) (hyl : y.length ≤ 140737488351232) (hm : nm.size ≤ maxLen) (hl : ops.length + 1 ≤ 2199023255552) :
    Calls Try.prog 57 #[.pointer (some ⟨g, 0, none⟩), .string nm, .slice B y.length d] w (PushPost w ok g b n l A c ops (appendL ops nm y).1 (appendL ops nm y).2) := by
  have HD := Aside0.mk (fun (w1 : World) (hB : Below w.heap.size w w1) => hD.move hB)
  have HC := Aside0.mk (fun (w1 : World) (hB : Below w.heap.size w w1) => Kd.C_below hC hB)
  have HOK := Aside0.mk hok
  have HWo := Aside0.mk (fun w => word_calls nm w (by unfold maxLen at hm; omega))
  have hu113 := Try.underlying113
  have hu121 := Try.underlying121
  unfold appendL
  clear hok hD hC
  cases hno : nameOk nm with
  | false =>
    rw [hno] at HWo
    clear hno
    simp only [Bool.false_eq_true, if_false]
    go_enter Try.func57, Try.ntmps57
    go_wp2_with (first | (go_at_call 78; with_reducible refine (HWo.out _).mono ?_; rintro e w1 ⟨rfl, hB1⟩; have HB1 := Aside0.mk hB1; clear hB1) | fail)
    go_ret
    exact push_same (HD.out w (Below.refl _ _)) HB1.out
  | true =>
    rw [hno] at HWo
    clear hno
    simp only [if_true]
    go_enter Try.func57, Try.ntmps57
    go_wp2_with (first | (go_at_call 78; with_reducible refine (HWo.out _).mono ?_; rintro e w1 ⟨rfl, hB1⟩; have HB1 := Aside0.mk hB1; have HD1 := Aside0.mk (HD.out w1 hB1); have hz1 : w1.cell? ⟨g, 1, none⟩ = some (.slice A ops.length c) := (blk_cell HD1.out.blk 1).trans rfl; clear hB1) | fail)
    refine start_ (n := 14) (S := fun w' => w'.cell? ⟨g, 1, none⟩ = some (.slice A ops.length c)) (ds := [13]) #[false, false, false, false, false, false, false, false, false, false, false, false, false, false] (by kernel_rfl) rfl rfl ?_ (fun hHeld => ?_)
    · exact hz1
    refine pure_ (i := 0) (N := some 12) (v := ?_) (a' := ?_) #[true, false, false, false, false, false, false, false, false, false, false, false, false, false] rfl rfl (by kernel_rfl) (fun _ _ _ h => h) (Or.inl ⟨by rfl, ?_⟩) ?_ ?_
    rotate_left
    · intro w'
      go_simp
      with_reducible rfl
    rotate_left
    · simp only [Act.put, List.setIfInBounds_toArray, List.set_cons_zero, List.set_cons_succ, i64_w, i32_w]
      rfl
    refine pure_ (i := 1) (N := some 13) (v := ?_) (a' := ?_) #[true, true, false, false, false, false, false, false, false, false, false, false, false, false] rfl rfl (by kernel_rfl) (fun _ _ _ h => h) (Or.inl ⟨by rfl, ?_⟩) ?_ ?_
    rotate_left
    · intro w'
      go_simp
      with_reducible rfl
    rotate_left
    · simp only [Act.put, List.setIfInBounds_toArray, List.set_cons_zero, List.set_cons_succ, i64_w, i32_w]
      rfl
    refine pure_ (i := 2) (N := some 14) (v := ?_) (a' := ?_) #[true, true, true, false, false, false, false, false, false, false, false, false, false, false] rfl rfl (by kernel_rfl) (fun _ _ _ h => h) (Or.inl ⟨by rfl, ?_⟩) ?_ ?_
    rotate_left
    · intro w'
      go_simp
      with_reducible rfl
    rotate_left
    · simp only [Act.put, List.setIfInBounds_toArray, List.set_cons_zero, List.set_cons_succ, i64_w, i32_w]
      rfl
    refine pure_ (i := 3) (N := some 15) (v := ?_) (a' := ?_) #[true, true, true, true, false, false, false, false, false, false, false, false, false, false] rfl rfl (by kernel_rfl) (fun _ _ _ h => h) (Or.inl ⟨by rfl, ?_⟩) ?_ ?_
    rotate_left
    · intro w'
      go_simp
      with_reducible rfl
    rotate_left
    · simp only [Act.put, List.setIfInBounds_toArray, List.set_cons_zero, List.set_cons_succ, i64_w, i32_w]
      rfl
    refine take_ (i := 4) (N := some 16) (v := ?_) (a' := ?_) #[true, true, true, true, true, false, false, false, false, false, false, false, false, false] rfl rfl (by kernel_rfl) (fun _ _ _ h => h) (Or.inl ⟨by rfl, ?_⟩) hHeld ?_ ?_
    rotate_left
    · rintro w' s0
      go_simp
      with_reducible rfl
    rotate_left
    · simp only [Act.put, List.setIfInBounds_toArray, List.set_cons_zero, List.set_cons_succ, i64_w, i32_w]
      rfl
    refine pure_ (i := 5) (N := some 17) (v := ?_) (a' := ?_) #[true, true, true, true, true, true, false, false, false, false, false, false, false, false] rfl rfl (by kernel_rfl) (fun _ _ _ h => h) (Or.inl ⟨by rfl, ?_⟩) ?_ ?_
    rotate_left
    · intro w'
      go_simp
      with_reducible rfl
    rotate_left
    · simp only [Act.put, List.setIfInBounds_toArray, List.set_cons_zero, List.set_cons_succ, i64_w, i32_w]
      rfl
    refine pure_ (i := 6) (N := some 18) (v := ?_) (a' := ?_) #[true, true, true, true, true, true, true, false, false, false, false, false, false, false] rfl rfl (by kernel_rfl) (fun _ _ _ h => h) (Or.inl ⟨by rfl, ?_⟩) ?_ ?_
    rotate_left
    · intro w'
      go_simp
      with_reducible rfl
    rotate_left
    · simp only [Act.put, List.setIfInBounds_toArray, List.set_cons_zero, List.set_cons_succ, i64_w, i32_w]
      rfl
    have HBd := Aside0.mk (below_drew HB1.out)
    clear hz1
    refine one_ (i := 7) (N := some 19) #[true, true, true, true, true, true, true, true, false, false, false, false, false, false] rfl rfl (by kernel_rfl) (by decide) (fun K hK => ?_)
    refine goes_ Try.func79 (by kernel_rfl) rfl #[.slice B y.length d] (by rfl) rfl rfl (by (try simp only [List.map_toArray, List.map_cons, List.map_nil]); first | done | rfl) ?_
    refine (cloneB_calls B d y w1.drew (HC.out _ HBd.out) hyl).mono ?_
    rintro e w2 ⟨⟨v2, rfl, hr2⟩, hB2⟩
    obtain ⟨A2, c2, rfl⟩ := Kd.R_slice hr2
    have HB2 := Aside0.mk (below_then HBd.out HBd.out.size hB2)
    have HD2 := Aside0.mk (HD.out w2 HB2.out)
    have HR2 := Aside0.mk (RB.foot (ok := fun k => ok k ∧ w1.drew.heap.size ≤ k) hr2 (fun k hk => ⟨HOK.out k (Nat.le_trans HBd.out.size hk), hk⟩))
    refine ⟨_, rfl, hK.out _ _ ((blk_cell HD2.out.blk 1).trans rfl) (fun _ => ?_)⟩
    clear hK K hr2 hB2
    refine norm_ (a' := ?_) ?_ ?_
    rotate_left
    · show Act.put _ (some 19) _ = _
      simp only [Act.put, List.setIfInBounds_toArray, List.set_cons_zero, List.set_cons_succ, i64_w, i32_w]
      rfl
    refine pure_ (i := 8) (N := some 20) (v := ?_) (a' := ?_) #[true, true, true, true, true, true, true, true, true, false, false, false, false, false] rfl rfl (by kernel_rfl) (fun _ _ _ h => h) (Or.inl ⟨by rfl, ?_⟩) ?_ ?_
    rotate_left
    · intro w'
      go_simp
      with_reducible rfl
    rotate_left
    · simp only [Act.put, List.setIfInBounds_toArray, List.set_cons_zero, List.set_cons_succ, i64_w, i32_w]
      rfl
    refine one_ (i := 9) (N := some 21) #[true, true, true, true, true, true, true, true, true, true, false, false, false, false] rfl rfl (by kernel_rfl) (by decide) (fun K hK => ?_)
    refine event_step (v := .slice (some ⟨w2.heap.size, 0, none⟩) 1 1) (w1 := w2.alloc (.cells (doC ⟨0, nm, ⟨#[]⟩, y⟩ A2 c2) 121)) (by rfl) (by first | (go_simp; done) | (go_simp; rfl)) ?_
    refine hK.out _ _ ((blk_cell (HD.out _ (below_alloc HB2.out _)).blk 1).trans rfl) (fun _ => ?_)
    clear hK K
    refine norm_ (a' := ?_) ?_ ?_
    rotate_left
    · show Act.put _ (some 21) _ = _
      simp only [Act.put, List.setIfInBounds_toArray, List.set_cons_zero, List.set_cons_succ, i64_w, i32_w]
      rfl
    refine one_ (i := 10) (N := some 22) #[true, true, true, true, true, true, true, true, true, true, true, false, false, false] rfl rfl (by kernel_rfl) (by decide) (fun K hK => ?_)
    refine app_op_step (W := w2) (by rfl) (.tmp 16) (.tmp 21) (by rfl) _ ops ⟨0, nm, ⟨#[]⟩, y⟩ A2 c2 ok _ rfl rfl rfl HR2.out.2.1 HR2.out.2.2 (fun k hk => ⟨hk.1, fun he => by have := Kd.N_lt HD1.out.pendN k he.symm; have : w1.drew.heap.size = w1.heap.size := rfl; have := hk.2; omega⟩) (fun k hk => HOK.out k (Nat.le_trans HB2.out.size hk)) HD2.out.pendN hl ?_
    intro v3 w3 HN HG HA
    obtain ⟨A3, c3, rfl⟩ := Kd.N_slice HN.out
    have HP := Aside0.mk (push_done HD2.out HN.out HG.out HA.out ⟨hm, by show (0 : Nat) ≤ maxLen; omega⟩)
    refine hK.out _ _ ((blk_cell HP.out.1 1).trans rfl) (fun _ => ?_)
    clear hK K
    refine norm_ (a' := ?_) ?_ ?_
    rotate_left
    · show Act.put _ (some 22) _ = _
      simp only [Act.put, List.setIfInBounds_toArray, List.set_cons_zero, List.set_cons_succ, i64_w, i32_w]
      rfl
    refine pure_ (i := 11) (N := some 23) (v := ?_) (a' := ?_) #[true, true, true, true, true, true, true, true, true, true, true, true, false, false] rfl rfl (by kernel_rfl) (fun _ _ _ h => h) (Or.inl ⟨by rfl, ?_⟩) ?_ ?_
    rotate_left
    · intro w'
      go_simp
      with_reducible rfl
    rotate_left
    · simp only [Act.put, List.setIfInBounds_toArray, List.set_cons_zero, List.set_cons_succ, i64_w, i32_w]
      rfl
    refine pure_ (i := 12) (N := some 24) (v := ?_) (a' := ?_) #[true, true, true, true, true, true, true, true, true, true, true, true, true, false] rfl rfl (by kernel_rfl) (fun _ _ _ h => h) (Or.inl ⟨by rfl, ?_⟩) ?_ ?_
    rotate_left
    · intro w'
      go_simp
      with_reducible rfl
    rotate_left
    · simp only [Act.put, List.setIfInBounds_toArray, List.set_cons_zero, List.set_cons_succ, i64_w, i32_w]
      rfl
    refine last_ (i := 13) (N := none) #[true, true, true, true, true, true, true, true, true, true, true, true, true, true] rfl rfl (by kernel_rfl) (by decide) (fun K hK => ?_)
    have hy1 : w3.cell? ⟨g, 1, none⟩ = some (.slice A ops.length c) := (blk_cell HP.out.1 1).trans rfl
    have hf1 := blk_frozen HP.out.1 1
    refine skip_ (w1 := ?_) (by rfl) rfl ?_ ?_
    rotate_left
    · go_simp
      rfl
    refine hK.out _ _ ?_
    clear hK K
    refine done_ (by kernel_rfl) ?_
    go_wp2
    go_ret
    obtain ⟨p1, p2, p3⟩ := HP.out.2 (.slice A3 (ops.length + 1) c3) (by simp)
    exact ⟨rfl, A3, c3, p1, p2.pre HB2.out, p3.pre HB2.out⟩
end Go.Proofs.Ytfaniohoplbdoaa.My
/- The files after an operation, by the disk and by the reference. -/
namespace Go.Proofs.Ytfaniohoplbdoaa.My
open Go Go.RowKit Go.Proofs.YtfaniohoplbdoaaW.PrintWords Go.Proofs.YtfaniohoplbdoaaW.PrintLast Go.Proofs.YtfaniohoplbdoaaW.PrintMore Go.Proofs.Ytfaniohoplbdoaa.PDiskActs
set_option linter.unusedVariables false
set_option linter.unusedSimpArgs false
def Srt (l : List S109) : Prop := l.Pairwise fun f g => Op.bytesLess f.f0.toList g.f0.toList = true
theorem less_irrefl (a : List UInt8) : Op.bytesLess a a = false := by rw [← before_less]; exact WideAt.bytes_irrefl a
theorem less_trans {a b c : List UInt8} (h1 : Op.bytesLess a b = true) (h2 : Op.bytesLess b c = true) : Op.bytesLess a c = true := by
  rw [← before_less] at h1 h2 ⊢
  exact WideShapes.bytes_trans a b c h1 h2
theorem less_asymm {a b : List UInt8} (h1 : Op.bytesLess a b = true) : Op.bytesLess b a = false := by
  cases h : Op.bytesLess b a with
  | false => rfl
  | true => have := less_trans h1 h; rw [less_irrefl] at this; cases this
theorem less_ne {a b : List UInt8} (h1 : Op.bytesLess a b = true) : a ≠ b := by
  intro e
  rw [e, less_irrefl] at h1
  cases h1
theorem toList_inj {a b : ByteArray} (h : a.toList = b.toList) : a = b := by
  rw [ByteArray.toList_eq, ByteArray.toList_eq] at h
  exact WideShapes.bytes_inj h
theorem without_none {l : List S109} {a : ByteArray} (h : ∀ f ∈ l, f.f0.toList ≠ a.toList) : withoutL l a = l := by
  unfold withoutL
  rw [List.filter_eq_self]
  intro f hf
  simpa using h f hf
theorem MP.sorted {w : World} {ok : Nat → Prop} {b n : Nat} {l : List S109} (h : MP w ok b n l) : Srt l := by
  obtain ⟨D, ho, es, he, ha⟩ := h
  obtain ⟨es', he', hp, _⟩ := ho.canon keyLaw
  rw [he] at he'
  injection he' with he'
  subst he'
  have : ∀ {es : List (Lit × DataW Value)} {l : List S109} {Rv : Value → List Int → Prop}, All2 (EntryOf Rv) es l → es.Pairwise (fun p q => p.1.before q.1 = true) → Srt l := by
    intro es
    induction es with
    | nil => intro l Rv h _; cases l with | nil => exact List.Pairwise.nil | cons => exact h.elim
    | cons e es ih =>
      intro l Rv h hp
      cases l with
      | nil => exact h.elim
      | cons f l =>
        rw [List.pairwise_cons] at hp
        refine List.pairwise_cons.2 ⟨fun x hx => ?_, ih h.2 hp.2⟩
        have hmem : ∀ {es : List (Lit × DataW Value)} {l : List S109}, All2 (EntryOf Rv) es l → x ∈ l → ∃ p ∈ es, p.1 = .string x.f0.data.toList := by
          intro es
          induction es with
          | nil => intro l h hx; cases l with | nil => cases hx | cons => exact h.elim
          | cons e es ih =>
            intro l h hx
            cases l with
            | nil => exact h.elim
            | cons f l =>
              rcases List.mem_cons.1 hx with rfl | hx
              · exact ⟨e, List.mem_cons_self, h.1.1⟩
              · obtain ⟨p, hp, he⟩ := ih h.2 hx
                exact ⟨p, List.mem_cons_of_mem _ hp, he⟩
        obtain ⟨p, hpm, hpe⟩ := hmem h.2 hx
        have hb := hp.1 p hpm
        rw [h.1.1, hpe] at hb
        rw [ByteArray.toList_eq, ByteArray.toList_eq, ← before_less]
        exact hb
  exact this ha hp
theorem put_back {a : ByteArray} {b : List Int} : ∀ {l : List S109}, Srt l → findL l a = some b → withL (withoutL l a) ⟨a, b⟩ = l
  | [], _, h => by simp [findL] at h
  | x :: r, hs, h => by
    obtain ⟨h1, h2⟩ := List.pairwise_cons.1 hs
    by_cases hx : x.f0.toList = a.toList
    · have e := toList_inj hx
      have hb : x.f1 = b := by simpa [findL, hx] using h
      have hr : ∀ f ∈ r, f.f0.toList ≠ a.toList := fun f hf => by rw [← hx]; exact fun e => less_ne (h1 f hf) e.symm
      have e1 : withoutL (x :: r) a = r := by
        have : withoutL (x :: r) a = withoutL r a := by simp [withoutL, hx]
        rw [this, without_none hr]
      rw [e1]
      unfold withL
      rw [without_none hr]
      subst e
      subst hb
      cases r with
      | nil => rfl
      | cons y r =>
        unfold insL
        rw [if_pos (h1 y List.mem_cons_self)]
    · have hf : findL r a = some b := by simpa [findL, hx] using h
      have ih := put_back h2 hf
      obtain ⟨f, hfm, _, hfa⟩ := findL_mem hf
      have hxa : Op.bytesLess x.f0.toList a.toList = true := by rw [← hfa]; exact h1 f hfm
      have e1 : withoutL (x :: r) a = x :: withoutL r a := by simp [withoutL, hx]
      rw [e1]
      unfold withL at ih ⊢
      have e2 : withoutL (x :: withoutL r a) a = x :: withoutL (withoutL r a) a := by simp [withoutL, hx]
      show insL ⟨a, b⟩ (withoutL (x :: withoutL r a) a) = _
      rw [e2]
      unfold insL
      rw [if_neg (by show ¬ Op.bytesLess a.toList x.f0.toList = true; rw [less_asymm hxa]; simp)]
      rw [show insL ⟨a, b⟩ (withoutL (withoutL r a) a) = r from ih]
/-- An operation that the disk has let in, at the files l. -/
def OkOp (l : List S109) (o : S123) : Prop := (o.f0 = 0 ∨ o.f0 = 1 ∨ o.f0 = 2) ∧ (o.f0 = 2 → (findL l o.f1).isSome = true)
theorem apply_carry {l : List S109} {o : S123} (hs : Srt l) (h : OkOp l o) : applyL l o = carryL l o := by
  unfold applyL carryL
  by_cases h0 : o.f0 = 0
  · rw [if_pos h0, if_pos h0]
  by_cases h1 : o.f0 = 1
  · rw [if_neg h0, if_pos h1, if_neg h0, if_pos h1]
  have h2 : o.f0 = 2 := by rcases h.1 with h | h | h <;> first | exact absurd h h0 | exact absurd h h1 | exact h
  rw [if_neg h0, if_neg h1, if_pos h2, if_neg h0, if_neg h1]
  obtain ⟨b, hb⟩ := Option.isSome_iff_exists.1 (h.2 h2)
  rw [hb]
  show withL (withoutL l o.f1) ⟨o.f2, b⟩ = _
  by_cases hq : o.f1.toList = o.f2.toList
  · have e := toList_inj hq
    rw [← e, put_back hs hb]
    simp
  · have : (o.f1.toList == o.f2.toList) = false := by simpa using hq
    simp only [this, Bool.false_eq_true, if_false]
end Go.Proofs.Ytfaniohoplbdoaa.My
/- A disk's Pending; the nil disk. -/
namespace Go.Proofs.Ytfaniohoplbdoaa.My
open Go Go.RowKit Go.Proofs.YtfaniohoplbdoaaW.PrintWords Go.Proofs.YtfaniohoplbdoaaW.PrintLast Go.Proofs.YtfaniohoplbdoaaW.PrintMore Go.Proofs.Ytfaniohoplbdoaa.PDiskActs
set_option linter.unusedVariables false
set_option linter.unusedSimpArgs false
set_option maxHeartbeats 1000000 in
set_option maxRecDepth 100000 in
theorem pending_calls (ok : Nat → Prop) (g b n : Nat) (l : List S109) (A : Option Addr) (c : Nat) (ops : List S123) (w : World) (hD : DiskAt w ok g b n l A c ops) :
    Calls Try.prog 54 #[.pointer (some ⟨g, 0, none⟩)] w fun e w' => e = .returned (.int .i64 (ops.length : Int)) ∧ w' = w := by
  have hz1 : w.cell? ⟨g, 1, none⟩ = some (.slice A ops.length c) := (blk_cell hD.blk 1).trans rfl
  have hu113 := Try.underlying113
  clear hD
  go_enter Try.func54, Try.ntmps54
  go_wp2
  go_ret
  exact ⟨rfl, rfl⟩
set_option maxHeartbeats 1000000 in
set_option maxRecDepth 100000 in
theorem nil_sync (w : World) : Calls Try.prog 55 #[.pointer none] w fun e w' => e = .returned (.tuple #[]) ∧ w' = w := by
  go_enter Try.func55, Try.ntmps55
  go_wp2
  (try simp only [Exit.inBlock, Exit.then])
  refine bodyPost_end (a := _) (w := w) (results_none (fn := Try.f55) rfl _ _ _) ?_ ?_
  · rfl
  exact ⟨rfl, rfl⟩
set_option maxHeartbeats 1000000 in
set_option maxRecDepth 100000 in
theorem nil_crash (w : World) (keep torn : Int) : Calls Try.prog 49 #[.pointer none, .int .i64 keep, .int .i64 torn] w fun e w' => e = .returned (.tuple #[]) ∧ w' = w := by
  go_enter Try.func49, Try.ntmps49
  go_wp2
  (try simp only [Exit.inBlock, Exit.then])
  refine bodyPost_ret (a := _) (w := w) (results_none (fn := Try.f49) rfl _ _ _) ?_ ?_
  · rfl
  exact ⟨rfl, rfl⟩
set_option maxHeartbeats 1000000 in
set_option maxRecDepth 100000 in
theorem nil_read (w : World) (nm : ByteArray) : Calls Try.prog 56 #[.pointer none, .string nm] w fun e w' => e = .returned (.tuple #[.slice none 0 0, .bool false]) ∧ w' = w := by
  go_enter Try.func56, Try.ntmps56
  go_wp2
  go_ret2
  exact ⟨rfl, rfl⟩
set_option maxHeartbeats 1000000 in
set_option maxRecDepth 100000 in
theorem nil_append (w : World) (nm : ByteArray) (v : Value) : Calls Try.prog 57 #[.pointer none, .string nm, v] w fun e w' => e = .returned (.int .i64 0) ∧ w' = w := by
  go_enter Try.func57, Try.ntmps57
  go_wp2
  go_ret
  exact ⟨rfl, rfl⟩
set_option maxHeartbeats 1000000 in
set_option maxRecDepth 100000 in
theorem nil_remove (w : World) (nm : ByteArray) : Calls Try.prog 58 #[.pointer none, .string nm] w fun e w' => e = .returned (.int .i64 0) ∧ w' = w := by
  go_enter Try.func58, Try.ntmps58
  go_wp2
  go_ret
  exact ⟨rfl, rfl⟩
set_option maxHeartbeats 1000000 in
set_option maxRecDepth 100000 in
theorem nil_rename (w : World) (nm tn : ByteArray) : Calls Try.prog 59 #[.pointer none, .string nm, .string tn] w fun e w' => e = .returned (.int .i64 0) ∧ w' = w := by
  go_enter Try.func59, Try.ntmps59
  go_wp2
  go_ret
  exact ⟨rfl, rfl⟩
set_option maxHeartbeats 1000000 in
set_option maxRecDepth 100000 in
theorem nil_files (w : World) : Calls Try.prog 60 #[.pointer none] w fun e w' => e = .returned (.slice none 0 0) ∧ w' = w := by
  go_enter Try.func60, Try.ntmps60
  go_wp2
  go_ret
  exact ⟨rfl, rfl⟩
set_option maxHeartbeats 1000000 in
set_option maxRecDepth 100000 in
theorem nil_view (w : World) : Calls Try.prog 61 #[.pointer none] w fun e w' => e = .returned (.slice none 0 0) ∧ w' = w := by
  go_enter Try.func61, Try.ntmps61
  go_wp2
  go_ret
  exact ⟨rfl, rfl⟩
set_option maxHeartbeats 1000000 in
set_option maxRecDepth 100000 in
theorem nil_pending (w : World) : Calls Try.prog 54 #[.pointer none] w fun e w' => e = .returned (.int .i64 0) ∧ w' = w := by
  go_enter Try.func54, Try.ntmps54
  go_wp2
  go_ret
  exact ⟨rfl, rfl⟩
end Go.Proofs.Ytfaniohoplbdoaa.My
/- The statements' own bound on sizes. -/
namespace Go.Proofs.Ytfaniohoplbdoaa.My
open Go Go.RowKit Go.Proofs.YtfaniohoplbdoaaW.PrintWords Go.Proofs.YtfaniohoplbdoaaW.PrintLast Go.Proofs.YtfaniohoplbdoaaW.PrintMore Go.Proofs.Ytfaniohoplbdoaa.PDiskActs
set_option linter.unusedVariables false
set_option linter.unusedSimpArgs false
def byP (l : List S82) : Nat := (l.map fun f => f.f3.length).sum
def bigD (l : List S109) (ops : List S82) : Bool := decide (40 < l.length) || decide (60 < ops.length) || decide (3000 < l.length + byF l + ops.length + byP ops)
theorem byF_bound {l : List S109} {m : Nat} (h : ∀ f ∈ l, f.f1.length ≤ m) : byF l ≤ l.length * m := by
  induction l with
  | nil => simp [byF]
  | cons f l ih =>
    have h1 := ih fun x hx => h x (List.mem_cons_of_mem _ hx)
    have h2 := h f List.mem_cons_self
    simp only [byF, List.map_cons, List.sum_cons, List.length_cons] at h1 ⊢
    rw [Nat.add_mul]
    omega
theorem byP_bound {l : List S82} {m : Nat} (h : ∀ f ∈ l, f.f3.length ≤ m) : byP l ≤ l.length * m := by
  induction l with
  | nil => simp [byP]
  | cons f l ih =>
    have h1 := ih fun x hx => h x (List.mem_cons_of_mem _ hx)
    have h2 := h f List.mem_cons_self
    simp only [byP, List.map_cons, List.sum_cons, List.length_cons] at h1 ⊢
    rw [Nat.add_mul]
    omega
theorem byF_take_succ {l : List S109} {k : Nat} (h : k < l.length) : byF (l.take (k + 1)) = byF (l.take k) + l[k].f1.length := by
  unfold byF
  rw [List.take_succ_eq_append_getElem h, List.map_append, List.sum_append]
  simp
theorem byP_take_succ {l : List S82} {k : Nat} (h : k < l.length) : byP (l.take (k + 1)) = byP (l.take k) + l[k].f3.length := by
  unfold byP
  rw [List.take_succ_eq_append_getElem h, List.map_append, List.sum_append]
  simp
abbrev CP (w : World) (A : Option Addr) (l : List S82) : Prop := Kd.C k82 w A l.length l
theorem CP.at_ {w : World} {A : Option Addr} {l : List S82} (h : CP w A l) (j : Nat) (hj : j < l.length) :
    ∃ ad A3 c3, A = some ad ∧ w.cell? (ad.add (j * 6)) = some (.int .i64 l[j].f0) ∧ w.cell? ⟨(ad.add (j * 6)).block, (ad.add (j * 6)).off + 1, none⟩ = some (.string l[j].f1) ∧ w.cell? ⟨(ad.add (j * 6)).block, (ad.add (j * 6)).off + 2, none⟩ = some (.string l[j].f2) ∧ w.cell? ⟨(ad.add (j * 6)).block, (ad.add (j * 6)).off + 3, none⟩ = some (.slice A3 l[j].f3.length c3) ∧ w.cell? ⟨(ad.add (j * 6)).block, (ad.add (j * 6)).off + 4, none⟩ = some (.int .i64 l[j].f4) ∧ w.cell? ⟨(ad.add (j * 6)).block, (ad.add (j * 6)).off + 5, none⟩ = some (.int .i64 l[j].f5) ∧ l[j].f3.length ≤ c3 ∧ CB w A3 l[j].f3 := by
  have e : rd_T82 l (j : Int) = l[j] := by simp [rd_T82, List.getD_eq_getElem?_getD, hj]
  have := at_T82 h (j : Int) (by omega) (by omega)
  rw [e, Int.toNat_natCast] at this
  exact this
set_option maxHeartbeats 2000000 in
set_option maxRecDepth 100000 in
theorem largeD_calls (A : Option Addr) (c : Nat) (l : List S109) (A' : Option Addr) (c' : Nat) (ops : List S82) (w : World) (hC : CF w A l) (hC' : CP w A' ops) (h1 : ∀ f ∈ l, f.f1.length ≤ 140737488351232) (h2 : ∀ f ∈ ops, f.f3.length ≤ 140737488351232) :
    Calls Try.prog 62 #[.slice A l.length c, .slice A' ops.length c'] w fun e w' => e = .returned (.bool (bigD l ops)) ∧ Below w.heap.size w w' := by
  have hm := Kd.C_max hC
  have hm' := Kd.C_max hC'
  have HC := Aside0.mk hC
  have HC' := Aside0.mk hC'
  have H1 := Aside0.mk h1
  have H2 := Aside0.mk h2
  have hu109 := Try.underlying109
  have hu82 := Try.underlying82
  clear hC hC' h1 h2
  go_enter Try.func62, Try.ntmps62
  go_wp2
  go_loopw [5, 12] (fun n i wr => ∃ (x : Int) (k : Nat), k ≤ l.length ∧ n = .int .i64 x ∧ i = .int .i64 k ∧ Aside0 (l.length ≤ 40 → x = ((k + byF (l.take k) : Nat) : Int)) ∧ Aside0 (Below w.heap.size w wr)) (fun _ i _ => l.length - (intOf i).toNat)
  case atStart => exact ⟨0, 0, by omega, rfl, rfl, ⟨fun _ => by simp [byF]⟩, ⟨Below.refl _ _⟩⟩
  case round =>
    obtain ⟨x, k, hk, rfl, rfl, HX, HW⟩ := hrel
    obtain ⟨wo, hwo⟩ : ∃ wo : World, wo = wr := ⟨_, rfl⟩
    subst hwo
    by_cases hlt : k < l.length
    · obtain ⟨ad, B, d, rfl, hc0, hc1, hd, hCB⟩ := CF.at_ (Kd.C_below HC.out HW.out) k hlt
      have hsz := H1.out l[k] (List.getElem_mem hlt)
      have hts := byF_take_succ hlt
      have hbd := byF_bound (l := l.take k) (m := 140737488351232) (fun f hf => H1.out f (List.mem_of_mem_take hf))
      rw [List.length_take] at hbd
      obtain ⟨f, hf⟩ : ∃ f, f = l[k] := ⟨_, rfl⟩
      rw [← hf] at hc0 hc1 hsz hts
      have HT := Aside0.mk hts
      clear hf hCB hd hts
      have hw1 : wrap64 (1 + (f.f1.length : Int)) = 1 + (f.f1.length : Int) := by unfold wrap64; omega
      have HX2 := Aside0.mk (show l.length ≤ 40 → wrap64 (x + (1 + (f.f1.length : Int))) = ((k + 1 + byF (l.take (k + 1)) : Nat) : Int) by
        intro h40
        have e := HX.out h40
        have hk40 : min k l.length * 140737488351232 ≤ 40 * 140737488351232 := Nat.mul_le_mul_right _ (by omega)
        rw [HT.out, e]
        unfold wrap64
        omega)
      clear hbd
      go_wp2
      go_roundw
      case rel => exact ⟨_, k + 1, by omega, rfl, by go_num, HX2, ⟨below_alloc HW.out _⟩⟩
      case measure => simp [intOf]; omega
    · obtain rfl : k = l.length := by omega
      rw [List.take_length] at HX
      go_wp2
      go_loopw [5, 25] (fun n i wr => ∃ (x : Int) (k : Nat), k ≤ ops.length ∧ n = .int .i64 x ∧ i = .int .i64 k ∧ Aside0 (l.length ≤ 40 → ops.length ≤ 60 → x = ((l.length + byF l + k + byP (ops.take k) : Nat) : Int)) ∧ Aside0 (Below w.heap.size w wr)) (fun _ i _ => ops.length - (intOf i).toNat)
      case atStart => exact ⟨x, 0, by omega, rfl, rfl, ⟨fun h _ => by rw [HX.out h]; simp [byP]⟩, HW⟩
      case round =>
        obtain ⟨x2, k2, hk2, rfl, rfl, HX2, HW2⟩ := hrel
        by_cases hlt2 : k2 < ops.length
        · obtain ⟨ad, B, d, rfl, hc0, hc1, hc2, hc3, hc4, hc5, hd, hCB⟩ := CP.at_ (Kd.C_below HC'.out HW2.out) k2 hlt2
          have hsz := H2.out ops[k2] (List.getElem_mem hlt2)
          have hts := byP_take_succ hlt2
          have hbd := byP_bound (l := ops.take k2) (m := 140737488351232) (fun f hf => H2.out f (List.mem_of_mem_take hf))
          have hbf := byF_bound (l := l) (m := 140737488351232) H1.out
          rw [List.length_take] at hbd
          obtain ⟨f, hf⟩ : ∃ f, f = ops[k2] := ⟨_, rfl⟩
          rw [← hf] at hc0 hc1 hc2 hc3 hc4 hc5 hsz hts
          have HT := Aside0.mk hts
          clear hf hCB hd hts
          have hw1 : wrap64 (1 + (f.f3.length : Int)) = 1 + (f.f3.length : Int) := by unfold wrap64; omega
          have HX3 := Aside0.mk (show l.length ≤ 40 → ops.length ≤ 60 → wrap64 (x2 + (1 + (f.f3.length : Int))) = ((l.length + byF l + (k2 + 1) + byP (ops.take (k2 + 1)) : Nat) : Int) by
            intro h40 h60
            have e := HX2.out h40 h60
            have b1 : min k2 ops.length * 140737488351232 ≤ 60 * 140737488351232 := Nat.mul_le_mul_right _ (by omega)
            have b2 : l.length * 140737488351232 ≤ 40 * 140737488351232 := Nat.mul_le_mul_right _ h40
            rw [HT.out, e]
            unfold wrap64
            omega)
          clear hbd hbf
          go_wp2
          go_roundw
          case rel => exact ⟨_, k2 + 1, by omega, rfl, by go_num, HX3, ⟨below_alloc HW2.out _⟩⟩
          case measure => simp [intOf]; omega
        · obtain rfl : k2 = ops.length := by omega
          rw [List.take_length] at HX2
          have HR := Aside0.mk (show bigD l ops = (decide (40 < l.length) || decide (60 < ops.length) || decide (3000 < x2)) by
            unfold bigD
            by_cases h40 : l.length ≤ 40
            · by_cases h60 : ops.length ≤ 60
              · rw [HX2.out h40 h60, decide_eq_false (show ¬ 40 < l.length by omega), decide_eq_false (show ¬ 60 < ops.length by omega)]
                simp only [Bool.false_or]
                exact decide_eq_decide.2 (by omega)
              · rw [decide_eq_true (show 60 < ops.length by omega)]; simp
            · rw [decide_eq_true (show 40 < l.length by omega)]; simp)
          by_cases h40 : 40 < l.length
          · go_wp2
            go_ret
            exact ⟨by rw [HR.out, decide_eq_true h40]; rfl, HW2.out⟩
          · by_cases h60 : 60 < ops.length
            · go_wp2
              go_ret
              exact ⟨by rw [HR.out, decide_eq_true h60]; simp, HW2.out⟩
            · go_wp2
              go_ret
              exact ⟨by rw [HR.out, decide_eq_false h40, decide_eq_false h60]; simp; omega, HW2.out⟩
end Go.Proofs.Ytfaniohoplbdoaa.My
