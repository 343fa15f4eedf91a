/-
  No cell of these rows narrows 'for every input' (looked for: loops, veiled, ifaces, maps, wideKeys, modest, calm, conditions, laid).
  DERIVED. THE GIVEN ROWS OF THIS SEAT. 15 by the template 'for every input the law returns true; each argument reads behind the call as it read before'; 0 by the template 'total and deterministic' (their statements: YtfaniohoplbdoaaTotals.lean).
  GIVEN WITH THE SEED: the statements are not yours to turn. If you find one false, say at which input.
  Laid BY PROGRAM, IN A SANDBOX (cutbox-rows.mjs): the forced cells as the released guide's own fill.sh prints them over the translation 3f4712f9a3001149… (all of the seat's roots in one cut). By AI agents, Wed Nov 11 2026. No macro, syntax, notation, axiom, sorry.
-/
import Derived.Test.YtfaniohoplbdoaaChecked
import GoSem.Claim
import GoSem.ClaimJoined
import GoSem.ClaimMapViews
import Derived.JoinedTies
import Derived.KernelRfl
namespace Go.Proofs.Ytfaniohoplbdoaa
/- THE CELL 'sum', in the pinned program and in every row, IS THE sha256 OF THE DUMP (.gsa) THAT YtfaniohoplbdoaaProg.lean LOADS. Nothing in Lean hashes anything: it is a label: what it is worth is what the hold of that sum in a sandbox is worth. -/
noncomputable def Try.pinned : Pinned := { name := "ytfaniohoplbdoaa", sum := "3f4712f9a3001149f204dea9ff2a0f79e124889b526b7030eb428ac1e719b37f", checked := Try.checked }
namespace Rows
def none {H : Type} : Left H := { results := [], args := [] }

/-- 'bitemporallaw10.FrameSum': WHATEVER THE INPUT: true; the input reads as it did. -/
def frameSumSpec : ChangeSpec := { name := "frameSum", fn := fun _ => fun
  | [d] => { results := [.lit (.bool true)], args := [d] }
  | _ => none }
def frameSumRow : OpenClaim := { program := "ytfaniohoplbdoaa", sum := "3f4712f9a3001149f204dea9ff2a0f79e124889b526b7030eb428ac1e719b37f", func := "bitemporal/bitemporallaw10.FrameSum", spec := "frameSum", apart := false }
def FrameSumSaid : Prop := frameSumRow.holds Try.pinned (OpenSpec.ofChange frameSumSpec)

/-- ITS FALSE NEIGHBOUR: 'it returns false'. Refute it at one input. -/
def frameSumWrong : ChangeSpec := { name := "frameSum", fn := fun _ => fun
  | [d] => { results := [.lit (.bool false)], args := [d] }
  | _ => none }
def FrameSumWrongFalsely : Prop := frameSumRow.holds Try.pinned (OpenSpec.ofChange frameSumWrong)

/-- 'bitemporallaw10.FrameAppend': WHATEVER THE INPUT: true; the input reads as it did. -/
def frameAppendSpec : ChangeSpec := { name := "frameAppend", fn := fun _ => fun
  | [d1, d2, d3, d4] => { results := [.lit (.bool true)], args := [d1, d2, d3, d4] }
  | _ => none }
def frameAppendRow : OpenClaim := { program := "ytfaniohoplbdoaa", sum := "3f4712f9a3001149f204dea9ff2a0f79e124889b526b7030eb428ac1e719b37f", func := "bitemporal/bitemporallaw10.FrameAppend", spec := "frameAppend", apart := false }
def FrameAppendSaid : Prop := frameAppendRow.holds Try.pinned (OpenSpec.ofChange frameAppendSpec)

/-- ITS FALSE NEIGHBOUR: 'it returns false'. Refute it at one input. -/
def frameAppendWrong : ChangeSpec := { name := "frameAppend", fn := fun _ => fun
  | [d1, d2, d3, d4] => { results := [.lit (.bool false)], args := [d1, d2, d3, d4] }
  | _ => none }
def FrameAppendWrongFalsely : Prop := frameAppendRow.holds Try.pinned (OpenSpec.ofChange frameAppendWrong)

/-- 'bitemporallaw10.FrameNext': WHATEVER THE INPUT: true; the input reads as it did. -/
def frameNextSpec : ChangeSpec := { name := "frameNext", fn := fun _ => fun
  | [d1, d2] => { results := [.lit (.bool true)], args := [d1, d2] }
  | _ => none }
def frameNextRow : OpenClaim := { program := "ytfaniohoplbdoaa", sum := "3f4712f9a3001149f204dea9ff2a0f79e124889b526b7030eb428ac1e719b37f", func := "bitemporal/bitemporallaw10.FrameNext", spec := "frameNext", apart := false }
def FrameNextSaid : Prop := frameNextRow.holds Try.pinned (OpenSpec.ofChange frameNextSpec)

/-- ITS FALSE NEIGHBOUR: 'it returns false'. Refute it at one input. -/
def frameNextWrong : ChangeSpec := { name := "frameNext", fn := fun _ => fun
  | [d1, d2] => { results := [.lit (.bool false)], args := [d1, d2] }
  | _ => none }
def FrameNextWrongFalsely : Prop := frameNextRow.holds Try.pinned (OpenSpec.ofChange frameNextWrong)

/-- 'bitemporallaw10.FrameDamage': WHATEVER THE INPUT: true; the input reads as it did. -/
def frameDamageSpec : ChangeSpec := { name := "frameDamage", fn := fun _ => fun
  | [d1, d2, d3, d4] => { results := [.lit (.bool true)], args := [d1, d2, d3, d4] }
  | _ => none }
def frameDamageRow : OpenClaim := { program := "ytfaniohoplbdoaa", sum := "3f4712f9a3001149f204dea9ff2a0f79e124889b526b7030eb428ac1e719b37f", func := "bitemporal/bitemporallaw10.FrameDamage", spec := "frameDamage", apart := false }
def FrameDamageSaid : Prop := frameDamageRow.holds Try.pinned (OpenSpec.ofChange frameDamageSpec)

/-- ITS FALSE NEIGHBOUR: 'it returns false'. Refute it at one input. -/
def frameDamageWrong : ChangeSpec := { name := "frameDamage", fn := fun _ => fun
  | [d1, d2, d3, d4] => { results := [.lit (.bool false)], args := [d1, d2, d3, d4] }
  | _ => none }
def FrameDamageWrongFalsely : Prop := frameDamageRow.holds Try.pinned (OpenSpec.ofChange frameDamageWrong)

/-- 'bitemporallaw10.FrameScan': WHATEVER THE INPUT: true; the input reads as it did. -/
def frameScanSpec : ChangeSpec := { name := "frameScan", fn := fun _ => fun
  | [d] => { results := [.lit (.bool true)], args := [d] }
  | _ => none }
def frameScanRow : OpenClaim := { program := "ytfaniohoplbdoaa", sum := "3f4712f9a3001149f204dea9ff2a0f79e124889b526b7030eb428ac1e719b37f", func := "bitemporal/bitemporallaw10.FrameScan", spec := "frameScan", apart := false }
def FrameScanSaid : Prop := frameScanRow.holds Try.pinned (OpenSpec.ofChange frameScanSpec)

/-- ITS FALSE NEIGHBOUR: 'it returns false'. Refute it at one input. -/
def frameScanWrong : ChangeSpec := { name := "frameScan", fn := fun _ => fun
  | [d] => { results := [.lit (.bool false)], args := [d] }
  | _ => none }
def FrameScanWrongFalsely : Prop := frameScanRow.holds Try.pinned (OpenSpec.ofChange frameScanWrong)

/-- 'bitemporallaw36.WalOpen': WHATEVER THE INPUT: true; the input reads as it did. -/
def walOpenSpec : ChangeSpec := { name := "walOpen", fn := fun _ => fun
  | [d1, d2] => { results := [.lit (.bool true)], args := [d1, d2] }
  | _ => none }
def walOpenRow : OpenClaim := { program := "ytfaniohoplbdoaa", sum := "3f4712f9a3001149f204dea9ff2a0f79e124889b526b7030eb428ac1e719b37f", func := "bitemporal/bitemporallaw36.WalOpen", spec := "walOpen", inPlace := ["maps.clone"], unfollowed := true, recurses := true, apart := false }
def WalOpenSaid : Prop := walOpenRow.holds Try.pinned (OpenSpec.ofChange walOpenSpec)

/-- ITS FALSE NEIGHBOUR: 'it returns false'. Refute it at one input. -/
def walOpenWrong : ChangeSpec := { name := "walOpen", fn := fun _ => fun
  | [d1, d2] => { results := [.lit (.bool false)], args := [d1, d2] }
  | _ => none }
def WalOpenWrongFalsely : Prop := walOpenRow.holds Try.pinned (OpenSpec.ofChange walOpenWrong)

/-- 'bitemporallaw10.FrameBack': WHATEVER THE INPUT: true; the input reads as it did. -/
def frameBackSpec : ChangeSpec := { name := "frameBack", fn := fun _ => fun
  | [d1, d2] => { results := [.lit (.bool true)], args := [d1, d2] }
  | _ => none }
def frameBackRow : OpenClaim := { program := "ytfaniohoplbdoaa", sum := "3f4712f9a3001149f204dea9ff2a0f79e124889b526b7030eb428ac1e719b37f", func := "bitemporal/bitemporallaw10.FrameBack", spec := "frameBack", apart := false }
def FrameBackSaid : Prop := frameBackRow.holds Try.pinned (OpenSpec.ofChange frameBackSpec)

/-- ITS FALSE NEIGHBOUR: 'it returns false'. Refute it at one input. -/
def frameBackWrong : ChangeSpec := { name := "frameBack", fn := fun _ => fun
  | [d1, d2] => { results := [.lit (.bool false)], args := [d1, d2] }
  | _ => none }
def FrameBackWrongFalsely : Prop := frameBackRow.holds Try.pinned (OpenSpec.ofChange frameBackWrong)

/-- 'bitemporallaw36.WalActs': WHATEVER THE INPUT: true; the input reads as it did. -/
def walActsSpec : ChangeSpec := { name := "walActs", fn := fun _ => fun
  | [d1, d2, d3] => { results := [.lit (.bool true)], args := [d1, d2, d3] }
  | _ => none }
def walActsRow : OpenClaim := { program := "ytfaniohoplbdoaa", sum := "3f4712f9a3001149f204dea9ff2a0f79e124889b526b7030eb428ac1e719b37f", func := "bitemporal/bitemporallaw36.WalActs", spec := "walActs", inPlace := ["maps.clone"], unfollowed := true, recurses := true, apart := false }
def WalActsSaid : Prop := walActsRow.holds Try.pinned (OpenSpec.ofChange walActsSpec)

/-- ITS FALSE NEIGHBOUR: 'it returns false'. Refute it at one input. -/
def walActsWrong : ChangeSpec := { name := "walActs", fn := fun _ => fun
  | [d1, d2, d3] => { results := [.lit (.bool false)], args := [d1, d2, d3] }
  | _ => none }
def WalActsWrongFalsely : Prop := walActsRow.holds Try.pinned (OpenSpec.ofChange walActsWrong)

/-- 'bitemporallaw36.WalDurable': WHATEVER THE INPUT: true; the input reads as it did. -/
def walDurableSpec : ChangeSpec := { name := "walDurable", fn := fun _ => fun
  | [d1, d2, d3, d4] => { results := [.lit (.bool true)], args := [d1, d2, d3, d4] }
  | _ => none }
def walDurableRow : OpenClaim := { program := "ytfaniohoplbdoaa", sum := "3f4712f9a3001149f204dea9ff2a0f79e124889b526b7030eb428ac1e719b37f", func := "bitemporal/bitemporallaw36.WalDurable", spec := "walDurable", inPlace := ["maps.clone"], apart := false }
def WalDurableSaid : Prop := walDurableRow.holds Try.pinned (OpenSpec.ofChange walDurableSpec)

/-- ITS FALSE NEIGHBOUR: 'it returns false'. Refute it at one input. -/
def walDurableWrong : ChangeSpec := { name := "walDurable", fn := fun _ => fun
  | [d1, d2, d3, d4] => { results := [.lit (.bool false)], args := [d1, d2, d3, d4] }
  | _ => none }
def WalDurableWrongFalsely : Prop := walDurableRow.holds Try.pinned (OpenSpec.ofChange walDurableWrong)

/-- 'bitemporallaw34.DiskLoad': WHATEVER THE INPUT: true; the input reads as it did. -/
def diskLoadSpec : ChangeSpec := { name := "diskLoad", fn := fun _ => fun
  | [d1, d2] => { results := [.lit (.bool true)], args := [d1, d2] }
  | _ => none }
def diskLoadRow : OpenClaim := { program := "ytfaniohoplbdoaa", sum := "3f4712f9a3001149f204dea9ff2a0f79e124889b526b7030eb428ac1e719b37f", func := "bitemporal/bitemporallaw34.DiskLoad", spec := "diskLoad", inPlace := ["maps.clone"], unfollowed := true, recurses := true, apart := false }
def DiskLoadSaid : Prop := diskLoadRow.holds Try.pinned (OpenSpec.ofChange diskLoadSpec)

/-- ITS FALSE NEIGHBOUR: 'it returns false'. Refute it at one input. -/
def diskLoadWrong : ChangeSpec := { name := "diskLoad", fn := fun _ => fun
  | [d1, d2] => { results := [.lit (.bool false)], args := [d1, d2] }
  | _ => none }
def DiskLoadWrongFalsely : Prop := diskLoadRow.holds Try.pinned (OpenSpec.ofChange diskLoadWrong)

/-- 'bitemporallaw34.DiskActs': WHATEVER THE INPUT: true; the input reads as it did. -/
def diskActsSpec : ChangeSpec := { name := "diskActs", fn := fun _ => fun
  | [d1, d2] => { results := [.lit (.bool true)], args := [d1, d2] }
  | _ => none }
def diskActsRow : OpenClaim := { program := "ytfaniohoplbdoaa", sum := "3f4712f9a3001149f204dea9ff2a0f79e124889b526b7030eb428ac1e719b37f", func := "bitemporal/bitemporallaw34.DiskActs", spec := "diskActs", inPlace := ["maps.clone"], unfollowed := true, recurses := true, apart := false }
def DiskActsSaid : Prop := diskActsRow.holds Try.pinned (OpenSpec.ofChange diskActsSpec)

/-- ITS FALSE NEIGHBOUR: 'it returns false'. Refute it at one input. -/
def diskActsWrong : ChangeSpec := { name := "diskActs", fn := fun _ => fun
  | [d1, d2] => { results := [.lit (.bool false)], args := [d1, d2] }
  | _ => none }
def DiskActsWrongFalsely : Prop := diskActsRow.holds Try.pinned (OpenSpec.ofChange diskActsWrong)

/-- 'bitemporallaw34.DiskRead': WHATEVER THE INPUT: true; the input reads as it did. -/
def diskReadSpec : ChangeSpec := { name := "diskRead", fn := fun _ => fun
  | [d1, d2, d3] => { results := [.lit (.bool true)], args := [d1, d2, d3] }
  | _ => none }
def diskReadRow : OpenClaim := { program := "ytfaniohoplbdoaa", sum := "3f4712f9a3001149f204dea9ff2a0f79e124889b526b7030eb428ac1e719b37f", func := "bitemporal/bitemporallaw34.DiskRead", spec := "diskRead", inPlace := ["maps.clone"], unfollowed := true, recurses := true, apart := false }
def DiskReadSaid : Prop := diskReadRow.holds Try.pinned (OpenSpec.ofChange diskReadSpec)

/-- ITS FALSE NEIGHBOUR: 'it returns false'. Refute it at one input. -/
def diskReadWrong : ChangeSpec := { name := "diskRead", fn := fun _ => fun
  | [d1, d2, d3] => { results := [.lit (.bool false)], args := [d1, d2, d3] }
  | _ => none }
def DiskReadWrongFalsely : Prop := diskReadRow.holds Try.pinned (OpenSpec.ofChange diskReadWrong)

/-- 'bitemporallaw34.DiskPrefix': WHATEVER THE INPUT: true; the input reads as it did. -/
def diskPrefixSpec : ChangeSpec := { name := "diskPrefix", fn := fun _ => fun
  | [d1, d2, d3] => { results := [.lit (.bool true)], args := [d1, d2, d3] }
  | _ => none }
def diskPrefixRow : OpenClaim := { program := "ytfaniohoplbdoaa", sum := "3f4712f9a3001149f204dea9ff2a0f79e124889b526b7030eb428ac1e719b37f", func := "bitemporal/bitemporallaw34.DiskPrefix", spec := "diskPrefix", inPlace := ["maps.clone"], unfollowed := true, recurses := true, apart := false }
def DiskPrefixSaid : Prop := diskPrefixRow.holds Try.pinned (OpenSpec.ofChange diskPrefixSpec)

/-- ITS FALSE NEIGHBOUR: 'it returns false'. Refute it at one input. -/
def diskPrefixWrong : ChangeSpec := { name := "diskPrefix", fn := fun _ => fun
  | [d1, d2, d3] => { results := [.lit (.bool false)], args := [d1, d2, d3] }
  | _ => none }
def DiskPrefixWrongFalsely : Prop := diskPrefixRow.holds Try.pinned (OpenSpec.ofChange diskPrefixWrong)

/-- 'bitemporallaw34.DiskSync': WHATEVER THE INPUT: true; the input reads as it did. -/
def diskSyncSpec : ChangeSpec := { name := "diskSync", fn := fun _ => fun
  | [d1, d2, d3] => { results := [.lit (.bool true)], args := [d1, d2, d3] }
  | _ => none }
def diskSyncRow : OpenClaim := { program := "ytfaniohoplbdoaa", sum := "3f4712f9a3001149f204dea9ff2a0f79e124889b526b7030eb428ac1e719b37f", func := "bitemporal/bitemporallaw34.DiskSync", spec := "diskSync", inPlace := ["maps.clone"], unfollowed := true, recurses := true, apart := false }
def DiskSyncSaid : Prop := diskSyncRow.holds Try.pinned (OpenSpec.ofChange diskSyncSpec)

/-- ITS FALSE NEIGHBOUR: 'it returns false'. Refute it at one input. -/
def diskSyncWrong : ChangeSpec := { name := "diskSync", fn := fun _ => fun
  | [d1, d2, d3] => { results := [.lit (.bool false)], args := [d1, d2, d3] }
  | _ => none }
def DiskSyncWrongFalsely : Prop := diskSyncRow.holds Try.pinned (OpenSpec.ofChange diskSyncWrong)

/-- 'bitemporallaw36.WalAgain': WHATEVER THE INPUT: true; the input reads as it did. -/
def walAgainSpec : ChangeSpec := { name := "walAgain", fn := fun _ => fun
  | [d1, d2] => { results := [.lit (.bool true)], args := [d1, d2] }
  | _ => none }
def walAgainRow : OpenClaim := { program := "ytfaniohoplbdoaa", sum := "3f4712f9a3001149f204dea9ff2a0f79e124889b526b7030eb428ac1e719b37f", func := "bitemporal/bitemporallaw36.WalAgain", spec := "walAgain", inPlace := ["maps.clone"], unfollowed := true, recurses := true, apart := false }
def WalAgainSaid : Prop := walAgainRow.holds Try.pinned (OpenSpec.ofChange walAgainSpec)

/-- ITS FALSE NEIGHBOUR: 'it returns false'. Refute it at one input. -/
def walAgainWrong : ChangeSpec := { name := "walAgain", fn := fun _ => fun
  | [d1, d2] => { results := [.lit (.bool false)], args := [d1, d2] }
  | _ => none }
def WalAgainWrongFalsely : Prop := walAgainRow.holds Try.pinned (OpenSpec.ofChange walAgainWrong)

/- THE SECOND FORM. 'bulk': how many values and letters a reading holds, each counted each time it is reached (what is shared counts as often as it is met; a slice's spare places count too). A statement '..UptoSaid' is the law's where the arguments, and the package variables that the reading takes, are together of bulk at most 1048576: NARROWER than '..Said'. Prove '..Said' where nothing that the law and all that it calls make is longer than what came in: it says more and counts as full. Else prove '..UptoSaid'. A law counts once. -/
mutual
def uptoBulk {H : Type} : DataW H → Nat
  | .lit (.string bytes) => bytes.length + 1
  | .lit _ => 1
  | .nil => 1
  | .ptr d => uptoBulk d + 1
  | .slice elems spare => uptoBulkAll elems + uptoBulkAll spare + 1
  | .agg parts => uptoBulkAll parts + 1
  | .iface _ d => uptoBulk d + 1
  | .map entries => uptoBulkEntries entries + 1
  | .held _ => 1
def uptoBulkAll {H : Type} : List (DataW H) → Nat
  | [] => 0
  | d :: r => uptoBulk d + uptoBulkAll r
def uptoBulkEntries {H : Type} : List (Lit × DataW H) → Nat
  | [] => 0
  | x :: r => uptoBulkEntry x + uptoBulkEntries r
def uptoBulkEntry {H : Type} : Lit × DataW H → Nat
  | (.string bytes, d) => bytes.length + uptoBulk d + 1
  | (_, d) => uptoBulk d + 1
 end
def uptoSmall : (H : Type) → List (DataW H) → Bool := fun _ ds => decide (uptoBulkAll ds ≤ 1048576)
def OpenSpec.upto (s : _root_.Go.ChangeSpec) : _root_.Go.OpenSpec := { _root_.Go.OpenSpec.ofChange s with cond := some uptoSmall }

/-- 'bitemporallaw10.FrameSum', WHERE WHAT IT READS IS OF BULK AT MOST 1048576: true; the input reads as it did. -/
def frameSumUptoRow : OpenClaim := { program := "ytfaniohoplbdoaa", sum := "3f4712f9a3001149f204dea9ff2a0f79e124889b526b7030eb428ac1e719b37f", func := "bitemporal/bitemporallaw10.FrameSum", spec := "frameSum", apart := false, narrowed := true }
def FrameSumUptoSaid : Prop := frameSumUptoRow.holds Try.pinned (OpenSpec.upto frameSumSpec)

/-- 'bitemporallaw10.FrameAppend', WHERE WHAT IT READS IS OF BULK AT MOST 1048576: true; the input reads as it did. -/
def frameAppendUptoRow : OpenClaim := { program := "ytfaniohoplbdoaa", sum := "3f4712f9a3001149f204dea9ff2a0f79e124889b526b7030eb428ac1e719b37f", func := "bitemporal/bitemporallaw10.FrameAppend", spec := "frameAppend", apart := false, narrowed := true }
def FrameAppendUptoSaid : Prop := frameAppendUptoRow.holds Try.pinned (OpenSpec.upto frameAppendSpec)

/-- 'bitemporallaw10.FrameNext', WHERE WHAT IT READS IS OF BULK AT MOST 1048576: true; the input reads as it did. -/
def frameNextUptoRow : OpenClaim := { program := "ytfaniohoplbdoaa", sum := "3f4712f9a3001149f204dea9ff2a0f79e124889b526b7030eb428ac1e719b37f", func := "bitemporal/bitemporallaw10.FrameNext", spec := "frameNext", apart := false, narrowed := true }
def FrameNextUptoSaid : Prop := frameNextUptoRow.holds Try.pinned (OpenSpec.upto frameNextSpec)

/-- 'bitemporallaw10.FrameDamage', WHERE WHAT IT READS IS OF BULK AT MOST 1048576: true; the input reads as it did. -/
def frameDamageUptoRow : OpenClaim := { program := "ytfaniohoplbdoaa", sum := "3f4712f9a3001149f204dea9ff2a0f79e124889b526b7030eb428ac1e719b37f", func := "bitemporal/bitemporallaw10.FrameDamage", spec := "frameDamage", apart := false, narrowed := true }
def FrameDamageUptoSaid : Prop := frameDamageUptoRow.holds Try.pinned (OpenSpec.upto frameDamageSpec)

/-- 'bitemporallaw10.FrameScan', WHERE WHAT IT READS IS OF BULK AT MOST 1048576: true; the input reads as it did. -/
def frameScanUptoRow : OpenClaim := { program := "ytfaniohoplbdoaa", sum := "3f4712f9a3001149f204dea9ff2a0f79e124889b526b7030eb428ac1e719b37f", func := "bitemporal/bitemporallaw10.FrameScan", spec := "frameScan", apart := false, narrowed := true }
def FrameScanUptoSaid : Prop := frameScanUptoRow.holds Try.pinned (OpenSpec.upto frameScanSpec)

/-- 'bitemporallaw36.WalOpen', WHERE WHAT IT READS IS OF BULK AT MOST 1048576: true; the input reads as it did. -/
def walOpenUptoRow : OpenClaim := { program := "ytfaniohoplbdoaa", sum := "3f4712f9a3001149f204dea9ff2a0f79e124889b526b7030eb428ac1e719b37f", func := "bitemporal/bitemporallaw36.WalOpen", spec := "walOpen", inPlace := ["maps.clone"], unfollowed := true, recurses := true, apart := false, narrowed := true }
def WalOpenUptoSaid : Prop := walOpenUptoRow.holds Try.pinned (OpenSpec.upto walOpenSpec)

/-- 'bitemporallaw10.FrameBack', WHERE WHAT IT READS IS OF BULK AT MOST 1048576: true; the input reads as it did. -/
def frameBackUptoRow : OpenClaim := { program := "ytfaniohoplbdoaa", sum := "3f4712f9a3001149f204dea9ff2a0f79e124889b526b7030eb428ac1e719b37f", func := "bitemporal/bitemporallaw10.FrameBack", spec := "frameBack", apart := false, narrowed := true }
def FrameBackUptoSaid : Prop := frameBackUptoRow.holds Try.pinned (OpenSpec.upto frameBackSpec)

/-- 'bitemporallaw36.WalActs', WHERE WHAT IT READS IS OF BULK AT MOST 1048576: true; the input reads as it did. -/
def walActsUptoRow : OpenClaim := { program := "ytfaniohoplbdoaa", sum := "3f4712f9a3001149f204dea9ff2a0f79e124889b526b7030eb428ac1e719b37f", func := "bitemporal/bitemporallaw36.WalActs", spec := "walActs", inPlace := ["maps.clone"], unfollowed := true, recurses := true, apart := false, narrowed := true }
def WalActsUptoSaid : Prop := walActsUptoRow.holds Try.pinned (OpenSpec.upto walActsSpec)

/-- 'bitemporallaw36.WalDurable', WHERE WHAT IT READS IS OF BULK AT MOST 1048576: true; the input reads as it did. -/
def walDurableUptoRow : OpenClaim := { program := "ytfaniohoplbdoaa", sum := "3f4712f9a3001149f204dea9ff2a0f79e124889b526b7030eb428ac1e719b37f", func := "bitemporal/bitemporallaw36.WalDurable", spec := "walDurable", inPlace := ["maps.clone"], apart := false, narrowed := true }
def WalDurableUptoSaid : Prop := walDurableUptoRow.holds Try.pinned (OpenSpec.upto walDurableSpec)

/-- 'bitemporallaw34.DiskLoad', WHERE WHAT IT READS IS OF BULK AT MOST 1048576: true; the input reads as it did. -/
def diskLoadUptoRow : OpenClaim := { program := "ytfaniohoplbdoaa", sum := "3f4712f9a3001149f204dea9ff2a0f79e124889b526b7030eb428ac1e719b37f", func := "bitemporal/bitemporallaw34.DiskLoad", spec := "diskLoad", inPlace := ["maps.clone"], unfollowed := true, recurses := true, apart := false, narrowed := true }
def DiskLoadUptoSaid : Prop := diskLoadUptoRow.holds Try.pinned (OpenSpec.upto diskLoadSpec)

/-- 'bitemporallaw34.DiskActs', WHERE WHAT IT READS IS OF BULK AT MOST 1048576: true; the input reads as it did. -/
def diskActsUptoRow : OpenClaim := { program := "ytfaniohoplbdoaa", sum := "3f4712f9a3001149f204dea9ff2a0f79e124889b526b7030eb428ac1e719b37f", func := "bitemporal/bitemporallaw34.DiskActs", spec := "diskActs", inPlace := ["maps.clone"], unfollowed := true, recurses := true, apart := false, narrowed := true }
def DiskActsUptoSaid : Prop := diskActsUptoRow.holds Try.pinned (OpenSpec.upto diskActsSpec)

/-- 'bitemporallaw34.DiskRead', WHERE WHAT IT READS IS OF BULK AT MOST 1048576: true; the input reads as it did. -/
def diskReadUptoRow : OpenClaim := { program := "ytfaniohoplbdoaa", sum := "3f4712f9a3001149f204dea9ff2a0f79e124889b526b7030eb428ac1e719b37f", func := "bitemporal/bitemporallaw34.DiskRead", spec := "diskRead", inPlace := ["maps.clone"], unfollowed := true, recurses := true, apart := false, narrowed := true }
def DiskReadUptoSaid : Prop := diskReadUptoRow.holds Try.pinned (OpenSpec.upto diskReadSpec)

/-- 'bitemporallaw34.DiskPrefix', WHERE WHAT IT READS IS OF BULK AT MOST 1048576: true; the input reads as it did. -/
def diskPrefixUptoRow : OpenClaim := { program := "ytfaniohoplbdoaa", sum := "3f4712f9a3001149f204dea9ff2a0f79e124889b526b7030eb428ac1e719b37f", func := "bitemporal/bitemporallaw34.DiskPrefix", spec := "diskPrefix", inPlace := ["maps.clone"], unfollowed := true, recurses := true, apart := false, narrowed := true }
def DiskPrefixUptoSaid : Prop := diskPrefixUptoRow.holds Try.pinned (OpenSpec.upto diskPrefixSpec)

/-- 'bitemporallaw34.DiskSync', WHERE WHAT IT READS IS OF BULK AT MOST 1048576: true; the input reads as it did. -/
def diskSyncUptoRow : OpenClaim := { program := "ytfaniohoplbdoaa", sum := "3f4712f9a3001149f204dea9ff2a0f79e124889b526b7030eb428ac1e719b37f", func := "bitemporal/bitemporallaw34.DiskSync", spec := "diskSync", inPlace := ["maps.clone"], unfollowed := true, recurses := true, apart := false, narrowed := true }
def DiskSyncUptoSaid : Prop := diskSyncUptoRow.holds Try.pinned (OpenSpec.upto diskSyncSpec)

/-- 'bitemporallaw36.WalAgain', WHERE WHAT IT READS IS OF BULK AT MOST 1048576: true; the input reads as it did. -/
def walAgainUptoRow : OpenClaim := { program := "ytfaniohoplbdoaa", sum := "3f4712f9a3001149f204dea9ff2a0f79e124889b526b7030eb428ac1e719b37f", func := "bitemporal/bitemporallaw36.WalAgain", spec := "walAgain", inPlace := ["maps.clone"], unfollowed := true, recurses := true, apart := false, narrowed := true }
def WalAgainUptoSaid : Prop := walAgainUptoRow.holds Try.pinned (OpenSpec.upto walAgainSpec)

end Rows
end Go.Proofs.Ytfaniohoplbdoaa
