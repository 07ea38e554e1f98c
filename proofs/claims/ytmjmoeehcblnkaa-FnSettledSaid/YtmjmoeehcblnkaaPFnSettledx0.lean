-- Written for this claim by a program of this session (wip/mkprint.py: the print, turned at a few places). Not trusted: Lean checks it.
import Derived.Test.YtmjmoeehcblnkaaProg
import Derived.Below
import Derived.Deep.Draws
import Derived.Deep.AppendLies
import Derived.Maps.AppendAt
import Derived.OwnWalk
import Derived.Laws.BytesArg
import Derived.Laws.MakeOwn
import Derived.Laws.OwnMore
import Derived.Deep.OwnRows
import Derived.Tactics
import Derived.Lib.ConvBytes
import Derived.Laws.Slices
import Derived.WalkKit
import Derived.KernelRfl
import Derived.RowKit3
import Derived.Deep.LoopGhost
import Derived.Deep.QuietTactic
import Derived.BigQuiet
import Derived.WideLaws
import Derived.Deep.DeepCutAuto
import Derived.Deep.CutBlock
import Derived.Deep.RegionHeld3
import Derived.Laws.Rows
import Derived.Lib.AppendStr
import Derived.ArgAppend
import Derived.Laws.IdiomCopy
import Derived.OrdersHeld
import Derived.Laws.BitsLemmas
import Derived.RowKit
import Derived.Test.YtmjmoeehcblnkaaWWords
import Derived.Test.YtmjmoeehcblnkaaWLast
import Derived.Test.YtmjmoeehcblnkaaWTab
import Derived.Test.YtmjmoeehcblnkaaWFour
import Derived.Test.YtmjmoeehcblnkaaWQPut
import Derived.Test.YtmjmoeehcblnkaaWApart
import Derived.Test.YtmjmoeehcblnkaaWArr
import Derived.Test.YtmjmoeehcblnkaaWZeros
import Derived.Test.YtmjmoeehcblnkaaWFoot
import Derived.Test.YtmjmoeehcblnkaaWKept
import Derived.Test.YtmjmoeehcblnkaaWShare
import Derived.Test.YtmjmoeehcblnkaaWN
import Derived.Test.YtmjmoeehcblnkaaWFootNe
import Derived.Test.YtmjmoeehcblnkaaWAt
import Derived.Test.YtmjmoeehcblnkaaWEqStruct
import Derived.Test.YtmjmoeehcblnkaaWRepsOne
import Derived.Test.YtmjmoeehcblnkaaWInv
import Derived.Test.YtmjmoeehcblnkaaWInvWords
import Derived.Test.YtmjmoeehcblnkaaWGuard
import Derived.Test.YtmjmoeehcblnkaaWNEv
import Derived.Test.YtmjmoeehcblnkaaWMore
namespace Go.Proofs.Ytmjmoeehcblnkaa.PFnSettled
open Go.RowKit Go.Proofs.YtmjmoeehcblnkaaW.PrintWords Go.Proofs.YtmjmoeehcblnkaaW.PrintLast Go.Proofs.YtmjmoeehcblnkaaW.PrintMore
attribute [local go_sem] max2_int min2_int max_two min_two max_three min_three max_four min_four   -- for this text's walks alone
set_option linter.unusedVariables false
set_option linter.unusedSimpArgs false



def errW : Option Int → Value
  | none => .nilIface
  | some c => .iface 0 (.int .i64 c)
theorem errW_none : errW none = .nilIface := rfl
theorem errW_some (c : Int) : errW (some c) = .iface 0 (.int .i64 c) := rfl

-- the values' own types

end Go.Proofs.Ytmjmoeehcblnkaa.PFnSettled
