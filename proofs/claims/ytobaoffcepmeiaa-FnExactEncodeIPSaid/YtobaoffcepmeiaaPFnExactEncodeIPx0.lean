-- Written for this claim by a program of this session (wip/mkprint.py: the print, turned at a few places). Not trusted: Lean checks it.
import Derived.Test.YtobaoffcepmeiaaProg
import Derived.Below
import Derived.Deep.Draws
import Derived.Deep.AppendLies
import Derived.Maps.AppendAt
import Derived.OwnWalk
import Derived.Laws.BytesArg
import Derived.Laws.MakeOwn
import Derived.Laws.OwnMore
import Derived.Deep.OwnRows
import Derived.Tactics
import Derived.Lib.ConvBytes
import Derived.Laws.Slices
import Derived.WalkKit
import Derived.KernelRfl
import Derived.RowKit3
import Derived.Deep.LoopGhost
import Derived.Deep.QuietTactic
import Derived.BigQuiet
import Derived.WideLaws
import Derived.Deep.DeepCutAuto
import Derived.Deep.CutBlock
import Derived.Deep.RegionHeld3
import Derived.Laws.Rows
import Derived.Lib.AppendStr
import Derived.ArgAppend
import Derived.Laws.IdiomCopy
import Derived.OrdersHeld
import Derived.Laws.BitsLemmas
import Derived.RowKit
import Derived.Test.YtobaoffcepmeiaaWWords
import Derived.Test.YtobaoffcepmeiaaWLast
import Derived.Test.YtobaoffcepmeiaaWTab
import Derived.Test.YtobaoffcepmeiaaWFour
import Derived.Test.YtobaoffcepmeiaaWQPut
import Derived.Test.YtobaoffcepmeiaaWApart
import Derived.Test.YtobaoffcepmeiaaWArr
import Derived.Test.YtobaoffcepmeiaaWZeros
import Derived.Test.YtobaoffcepmeiaaWFoot
import Derived.Test.YtobaoffcepmeiaaWKept
import Derived.Test.YtobaoffcepmeiaaWShare
import Derived.Test.YtobaoffcepmeiaaWN
import Derived.Test.YtobaoffcepmeiaaWFootNe
import Derived.Test.YtobaoffcepmeiaaWAt
import Derived.Test.YtobaoffcepmeiaaWEqStruct
import Derived.Test.YtobaoffcepmeiaaWRepsOne
import Derived.Test.YtobaoffcepmeiaaWInv
import Derived.Test.YtobaoffcepmeiaaWInvWords
import Derived.Test.YtobaoffcepmeiaaWGuard
import Derived.Test.YtobaoffcepmeiaaWNEv
import Derived.Test.YtobaoffcepmeiaaWMore
namespace Go.Proofs.Ytobaoffcepmeiaa.PFnExactEncodeIP
open Go.RowKit Go.Proofs.YtobaoffcepmeiaaW.PrintWords Go.Proofs.YtobaoffcepmeiaaW.PrintLast Go.Proofs.YtobaoffcepmeiaaW.PrintMore
attribute [local go_sem] max2_int min2_int max_two min_two max_three min_three max_four min_four   -- for this text's walks alone
set_option linter.unusedVariables false
set_option linter.unusedSimpArgs false



def errW : Option Int → Value
  | none => .nilIface
  | some c => .iface 0 (.int .i64 c)
theorem errW_none : errW none = .nilIface := rfl
theorem errW_some (c : Int) : errW (some c) = .iface 0 (.int .i64 c) := rfl

theorem info5 : (Try.prog.info? 5).map (fun i => (i.zero, i.size, i.bytes)) = some (some (.int .u8 0), 1, 1) := by kernel_rfl
-- the values' own types

end Go.Proofs.Ytobaoffcepmeiaa.PFnExactEncodeIP
