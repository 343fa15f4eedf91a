-- PRINTED BY print.sh 35421559b90ae4d0a3588c463048766b98c2df88dd9212a6774a882060cdf62d: not written by this session
import Derived.Test.YtfaniohoplbdoaaProg
import Derived.Below
import Derived.Deep.Draws
import Derived.Deep.AppendLies
import Derived.Maps.AppendAt
import Derived.OwnWalk
import Derived.Laws.BytesArg
import Derived.Laws.MakeOwn
import Derived.Laws.OwnMore
import Derived.Deep.OwnRows
import Derived.Tactics
import Derived.Lib.ConvBytes
import Derived.Laws.Slices
import Derived.WalkKit
import Derived.KernelRfl
import Derived.RowKit3
import Derived.Deep.LoopGhost
import Derived.Deep.QuietTactic
import Derived.BigQuiet
import Derived.WideLaws
import Derived.Deep.DeepCutAuto
import Derived.Deep.CutBlock
import Derived.Deep.RegionHeld3
import Derived.Laws.Rows
import Derived.Lib.AppendStr
import Derived.ArgAppend
import Derived.Laws.IdiomCopy
import Derived.OrdersHeld
import Derived.Laws.BitsLemmas
import Derived.RowKit
import Derived.Test.YtfaniohoplbdoaaWWords
import Derived.Test.YtfaniohoplbdoaaWLast
import Derived.Test.YtfaniohoplbdoaaWTab
import Derived.Test.YtfaniohoplbdoaaWFour
import Derived.Test.YtfaniohoplbdoaaWQPut
import Derived.Test.YtfaniohoplbdoaaWApart
import Derived.Test.YtfaniohoplbdoaaWArr
import Derived.Test.YtfaniohoplbdoaaWZeros
import Derived.Test.YtfaniohoplbdoaaWFoot
import Derived.Test.YtfaniohoplbdoaaWKept
import Derived.Test.YtfaniohoplbdoaaWShare
import Derived.Test.YtfaniohoplbdoaaWN
import Derived.Test.YtfaniohoplbdoaaWFootNe
import Derived.Test.YtfaniohoplbdoaaWAt
import Derived.Test.YtfaniohoplbdoaaWEqStruct
import Derived.Test.YtfaniohoplbdoaaWRepsOne
import Derived.Test.YtfaniohoplbdoaaWInv
import Derived.Test.YtfaniohoplbdoaaWInvWords
import Derived.Test.YtfaniohoplbdoaaWGuard
import Derived.Test.YtfaniohoplbdoaaWNEv
import Derived.Test.YtfaniohoplbdoaaWMore
namespace Go.Proofs.Ytfaniohoplbdoaa.PFrameNext
open Go.RowKit Go.Proofs.YtfaniohoplbdoaaW.PrintWords Go.Proofs.YtfaniohoplbdoaaW.PrintLast Go.Proofs.YtfaniohoplbdoaaW.PrintMore
attribute [local go_sem] max2_int min2_int max_two min_two max_three min_three max_four min_four   -- for this text's walks alone
set_option linter.unusedVariables false
set_option linter.unusedSimpArgs false



def errW : Option Int → Value
  | none => .nilIface
  | some c => .iface 0 (.int .i64 c)
theorem errW_none : errW none = .nilIface := rfl
theorem errW_some (c : Int) : errW (some c) = .iface 0 (.int .i64 c) := rfl

-- the values' own types

end Go.Proofs.Ytfaniohoplbdoaa.PFrameNext
