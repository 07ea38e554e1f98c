-- Written for this claim by a program of this session (wip/mkprint.py: the print, turned at a few places). Not trusted: Lean checks it.
import Derived.Test.YtoelghcldfjdmaaProg
import Derived.Below
import Derived.Deep.Draws
import Derived.Deep.AppendLies
import Derived.Maps.AppendAt
import Derived.OwnWalk
import Derived.Laws.BytesArg
import Derived.Laws.MakeOwn
import Derived.Laws.OwnMore
import Derived.Deep.OwnRows
import Derived.Tactics
import Derived.Lib.ConvBytes
import Derived.Laws.Slices
import Derived.WalkKit
import Derived.KernelRfl
import Derived.RowKit3
import Derived.Deep.LoopGhost
import Derived.Deep.QuietTactic
import Derived.BigQuiet
import Derived.WideLaws
import Derived.Deep.DeepCutAuto
import Derived.Deep.CutBlock
import Derived.Deep.RegionHeld3
import Derived.Laws.Rows
import Derived.Lib.AppendStr
import Derived.ArgAppend
import Derived.Laws.IdiomCopy
import Derived.OrdersHeld
import Derived.Laws.BitsLemmas
import Derived.RowKit
import Derived.Test.YtoelghcldfjdmaaWWords
import Derived.Test.YtoelghcldfjdmaaWLast
import Derived.Test.YtoelghcldfjdmaaWTab
import Derived.Test.YtoelghcldfjdmaaWFour
import Derived.Test.YtoelghcldfjdmaaWQPut
import Derived.Test.YtoelghcldfjdmaaWApart
import Derived.Test.YtoelghcldfjdmaaWArr
import Derived.Test.YtoelghcldfjdmaaWZeros
import Derived.Test.YtoelghcldfjdmaaWFoot
import Derived.Test.YtoelghcldfjdmaaWKept
import Derived.Test.YtoelghcldfjdmaaWShare
import Derived.Test.YtoelghcldfjdmaaWN
import Derived.Test.YtoelghcldfjdmaaWFootNe
import Derived.Test.YtoelghcldfjdmaaWAt
import Derived.Test.YtoelghcldfjdmaaWEqStruct
import Derived.Test.YtoelghcldfjdmaaWRepsOne
import Derived.Test.YtoelghcldfjdmaaWInv
import Derived.Test.YtoelghcldfjdmaaWInvWords
import Derived.Test.YtoelghcldfjdmaaWGuard
import Derived.Test.YtoelghcldfjdmaaWNEv
import Derived.Test.YtoelghcldfjdmaaWMore
namespace Go.Proofs.Ytoelghcldfjdmaa.PFnExactChecksumPatch
open Go.RowKit Go.Proofs.YtoelghcldfjdmaaW.PrintWords Go.Proofs.YtoelghcldfjdmaaW.PrintLast Go.Proofs.YtoelghcldfjdmaaW.PrintMore
attribute [local go_sem] max2_int min2_int max_two min_two max_three min_three max_four min_four   -- for this text's walks alone
set_option linter.unusedVariables false
set_option linter.unusedSimpArgs false



def errW : Option Int → Value
  | none => .nilIface
  | some c => .iface 0 (.int .i64 c)
theorem errW_none : errW none = .nilIface := rfl
theorem errW_some (c : Int) : errW (some c) = .iface 0 (.int .i64 c) := rfl

-- the values' own types

end Go.Proofs.Ytoelghcldfjdmaa.PFnExactChecksumPatch
