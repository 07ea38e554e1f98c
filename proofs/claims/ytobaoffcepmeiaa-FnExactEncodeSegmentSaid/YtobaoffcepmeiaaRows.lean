/-
  No cell of these rows narrows 'for every input' (looked for: loops, veiled, ifaces, maps, wideKeys, modest, calm, conditions, laid).
  DERIVED. THE GIVEN ROWS OF THIS SEAT. 12 by the template 'for every input the law returns true; each argument reads behind the call as it read before'; 0 by the template 'total and deterministic' (their statements: YtobaoffcepmeiaaTotals.lean).
  GIVEN WITH THE SEED: the statements are not yours to turn. If you find one false, say at which input.
  Laid BY PROGRAM, IN A SANDBOX (cutbox-rows.mjs): the forced cells as the released guide's own fill.sh prints them over the translation fe66eefddc2f0586… (all of the seat's roots in one cut). By AI agents, Wed Nov 11 2026. No macro, syntax, notation, axiom, sorry.
-/
import Derived.Test.YtobaoffcepmeiaaChecked
import GoSem.Claim
import GoSem.ClaimJoined
import GoSem.ClaimMapViews
import Derived.JoinedTies
import Derived.KernelRfl
namespace Go.Proofs.Ytobaoffcepmeiaa
/- THE CELL 'sum', in the pinned program and in every row, IS THE sha256 OF THE DUMP (.gsa) THAT YtobaoffcepmeiaaProg.lean LOADS. Nothing in Lean hashes anything: it is a label: what it is worth is what the hold of that sum in a sandbox is worth. -/
noncomputable def Try.pinned : Pinned := { name := "ytobaoffcepmeiaa", sum := "fe66eefddc2f05866488a310baaf417c0013ce40dbe68a62aec4430afc2d563c", checked := Try.checked }
namespace Rows
def none {H : Type} : Left H := { results := [], args := [] }

/-- 'laws.FnSeq': WHATEVER THE INPUT: true; the input reads as it did. -/
def fnSeqSpec : ChangeSpec := { name := "fnSeq", fn := fun _ => fun
  | [d] => { results := [.lit (.bool true)], args := [d] }
  | _ => none }
def fnSeqRow : OpenClaim := { program := "ytobaoffcepmeiaa", sum := "fe66eefddc2f05866488a310baaf417c0013ce40dbe68a62aec4430afc2d563c", func := "loop.example/g00003/laws.FnSeq", spec := "fnSeq", apart := false }
def FnSeqSaid : Prop := fnSeqRow.holds Try.pinned (OpenSpec.ofChange fnSeqSpec)

/-- ITS FALSE NEIGHBOUR: 'it returns false'. Refute it at one input. -/
def fnSeqWrong : ChangeSpec := { name := "fnSeq", fn := fun _ => fun
  | [d] => { results := [.lit (.bool false)], args := [d] }
  | _ => none }
def FnSeqWrongFalsely : Prop := fnSeqRow.holds Try.pinned (OpenSpec.ofChange fnSeqWrong)

/-- 'laws.FnNest': WHATEVER THE INPUT: true; the input reads as it did. -/
def fnNestSpec : ChangeSpec := { name := "fnNest", fn := fun _ => fun
  | [d] => { results := [.lit (.bool true)], args := [d] }
  | _ => none }
def fnNestRow : OpenClaim := { program := "ytobaoffcepmeiaa", sum := "fe66eefddc2f05866488a310baaf417c0013ce40dbe68a62aec4430afc2d563c", func := "loop.example/g00003/laws.FnNest", spec := "fnNest", recurses := true, apart := false }
def FnNestSaid : Prop := fnNestRow.holds Try.pinned (OpenSpec.ofChange fnNestSpec)

/-- ITS FALSE NEIGHBOUR: 'it returns false'. Refute it at one input. -/
def fnNestWrong : ChangeSpec := { name := "fnNest", fn := fun _ => fun
  | [d] => { results := [.lit (.bool false)], args := [d] }
  | _ => none }
def FnNestWrongFalsely : Prop := fnNestRow.holds Try.pinned (OpenSpec.ofChange fnNestWrong)

/-- 'laws.FnExactSegmentLength': WHATEVER THE INPUT: true; the input reads as it did. -/
def fnExactSegmentLengthSpec : ChangeSpec := { name := "fnExactSegmentLength", fn := fun _ => fun
  | [d] => { results := [.lit (.bool true)], args := [d] }
  | _ => none }
def fnExactSegmentLengthRow : OpenClaim := { program := "ytobaoffcepmeiaa", sum := "fe66eefddc2f05866488a310baaf417c0013ce40dbe68a62aec4430afc2d563c", func := "loop.example/g00003/laws.FnExactSegmentLength", spec := "fnExactSegmentLength", apart := false }
def FnExactSegmentLengthSaid : Prop := fnExactSegmentLengthRow.holds Try.pinned (OpenSpec.ofChange fnExactSegmentLengthSpec)

/-- ITS FALSE NEIGHBOUR: 'it returns false'. Refute it at one input. -/
def fnExactSegmentLengthWrong : ChangeSpec := { name := "fnExactSegmentLength", fn := fun _ => fun
  | [d] => { results := [.lit (.bool false)], args := [d] }
  | _ => none }
def FnExactSegmentLengthWrongFalsely : Prop := fnExactSegmentLengthRow.holds Try.pinned (OpenSpec.ofChange fnExactSegmentLengthWrong)

/-- 'laws.FnExactFindRoute': WHATEVER THE INPUT: true; the input reads as it did. -/
def fnExactFindRouteSpec : ChangeSpec := { name := "fnExactFindRoute", fn := fun _ => fun
  | [d1, d2] => { results := [.lit (.bool true)], args := [d1, d2] }
  | _ => none }
def fnExactFindRouteRow : OpenClaim := { program := "ytobaoffcepmeiaa", sum := "fe66eefddc2f05866488a310baaf417c0013ce40dbe68a62aec4430afc2d563c", func := "loop.example/g00003/laws.FnExactFindRoute", spec := "fnExactFindRoute", apart := false }
def FnExactFindRouteSaid : Prop := fnExactFindRouteRow.holds Try.pinned (OpenSpec.ofChange fnExactFindRouteSpec)

/-- ITS FALSE NEIGHBOUR: 'it returns false'. Refute it at one input. -/
def fnExactFindRouteWrong : ChangeSpec := { name := "fnExactFindRoute", fn := fun _ => fun
  | [d1, d2] => { results := [.lit (.bool false)], args := [d1, d2] }
  | _ => none }
def FnExactFindRouteWrongFalsely : Prop := fnExactFindRouteRow.holds Try.pinned (OpenSpec.ofChange fnExactFindRouteWrong)

/-- 'laws.FnExactBoardTimeout': WHATEVER THE INPUT: true; the input reads as it did. -/
def fnExactBoardTimeoutSpec : ChangeSpec := { name := "fnExactBoardTimeout", fn := fun _ => fun
  | [d] => { results := [.lit (.bool true)], args := [d] }
  | _ => none }
def fnExactBoardTimeoutRow : OpenClaim := { program := "ytobaoffcepmeiaa", sum := "fe66eefddc2f05866488a310baaf417c0013ce40dbe68a62aec4430afc2d563c", func := "loop.example/g00003/laws.FnExactBoardTimeout", spec := "fnExactBoardTimeout", apart := false }
def FnExactBoardTimeoutSaid : Prop := fnExactBoardTimeoutRow.holds Try.pinned (OpenSpec.ofChange fnExactBoardTimeoutSpec)

/-- ITS FALSE NEIGHBOUR: 'it returns false'. Refute it at one input. -/
def fnExactBoardTimeoutWrong : ChangeSpec := { name := "fnExactBoardTimeout", fn := fun _ => fun
  | [d] => { results := [.lit (.bool false)], args := [d] }
  | _ => none }
def FnExactBoardTimeoutWrongFalsely : Prop := fnExactBoardTimeoutRow.holds Try.pinned (OpenSpec.ofChange fnExactBoardTimeoutWrong)

/-- 'laws.FnLongest': WHATEVER THE INPUT: true; the input reads as it did. -/
def fnLongestSpec : ChangeSpec := { name := "fnLongest", fn := fun _ => fun
  | [d] => { results := [.lit (.bool true)], args := [d] }
  | _ => none }
def fnLongestRow : OpenClaim := { program := "ytobaoffcepmeiaa", sum := "fe66eefddc2f05866488a310baaf417c0013ce40dbe68a62aec4430afc2d563c", func := "loop.example/g00003/laws.FnLongest", spec := "fnLongest", recurses := true, apart := false }
def FnLongestSaid : Prop := fnLongestRow.holds Try.pinned (OpenSpec.ofChange fnLongestSpec)

/-- ITS FALSE NEIGHBOUR: 'it returns false'. Refute it at one input. -/
def fnLongestWrong : ChangeSpec := { name := "fnLongest", fn := fun _ => fun
  | [d] => { results := [.lit (.bool false)], args := [d] }
  | _ => none }
def FnLongestWrongFalsely : Prop := fnLongestRow.holds Try.pinned (OpenSpec.ofChange fnLongestWrong)

/-- 'laws.FnExactMayComplain': WHATEVER THE INPUT: true; the input reads as it did. -/
def fnExactMayComplainSpec : ChangeSpec := { name := "fnExactMayComplain", fn := fun _ => fun
  | [d] => { results := [.lit (.bool true)], args := [d] }
  | _ => none }
def fnExactMayComplainRow : OpenClaim := { program := "ytobaoffcepmeiaa", sum := "fe66eefddc2f05866488a310baaf417c0013ce40dbe68a62aec4430afc2d563c", func := "loop.example/g00003/laws.FnExactMayComplain", spec := "fnExactMayComplain", apart := false }
def FnExactMayComplainSaid : Prop := fnExactMayComplainRow.holds Try.pinned (OpenSpec.ofChange fnExactMayComplainSpec)

/-- ITS FALSE NEIGHBOUR: 'it returns false'. Refute it at one input. -/
def fnExactMayComplainWrong : ChangeSpec := { name := "fnExactMayComplain", fn := fun _ => fun
  | [d] => { results := [.lit (.bool false)], args := [d] }
  | _ => none }
def FnExactMayComplainWrongFalsely : Prop := fnExactMayComplainRow.holds Try.pinned (OpenSpec.ofChange fnExactMayComplainWrong)

/-- 'laws.FnExactBoardLose': WHATEVER THE INPUT: true; the input reads as it did. -/
def fnExactBoardLoseSpec : ChangeSpec := { name := "fnExactBoardLose", fn := fun _ => fun
  | [d] => { results := [.lit (.bool true)], args := [d] }
  | _ => none }
def fnExactBoardLoseRow : OpenClaim := { program := "ytobaoffcepmeiaa", sum := "fe66eefddc2f05866488a310baaf417c0013ce40dbe68a62aec4430afc2d563c", func := "loop.example/g00003/laws.FnExactBoardLose", spec := "fnExactBoardLose", apart := false }
def FnExactBoardLoseSaid : Prop := fnExactBoardLoseRow.holds Try.pinned (OpenSpec.ofChange fnExactBoardLoseSpec)

/-- ITS FALSE NEIGHBOUR: 'it returns false'. Refute it at one input. -/
def fnExactBoardLoseWrong : ChangeSpec := { name := "fnExactBoardLose", fn := fun _ => fun
  | [d] => { results := [.lit (.bool false)], args := [d] }
  | _ => none }
def FnExactBoardLoseWrongFalsely : Prop := fnExactBoardLoseRow.holds Try.pinned (OpenSpec.ofChange fnExactBoardLoseWrong)

/-- 'laws.FnExactBoardAgain': WHATEVER THE INPUT: true; the input reads as it did. -/
def fnExactBoardAgainSpec : ChangeSpec := { name := "fnExactBoardAgain", fn := fun _ => fun
  | [d1, d2] => { results := [.lit (.bool true)], args := [d1, d2] }
  | _ => none }
def fnExactBoardAgainRow : OpenClaim := { program := "ytobaoffcepmeiaa", sum := "fe66eefddc2f05866488a310baaf417c0013ce40dbe68a62aec4430afc2d563c", func := "loop.example/g00003/laws.FnExactBoardAgain", spec := "fnExactBoardAgain", apart := false }
def FnExactBoardAgainSaid : Prop := fnExactBoardAgainRow.holds Try.pinned (OpenSpec.ofChange fnExactBoardAgainSpec)

/-- ITS FALSE NEIGHBOUR: 'it returns false'. Refute it at one input. -/
def fnExactBoardAgainWrong : ChangeSpec := { name := "fnExactBoardAgain", fn := fun _ => fun
  | [d1, d2] => { results := [.lit (.bool false)], args := [d1, d2] }
  | _ => none }
def FnExactBoardAgainWrongFalsely : Prop := fnExactBoardAgainRow.holds Try.pinned (OpenSpec.ofChange fnExactBoardAgainWrong)

/-- 'laws.FnExactEncodeIP': WHATEVER THE INPUT: true; the input reads as it did. -/
def fnExactEncodeIPSpec : ChangeSpec := { name := "fnExactEncodeIP", fn := fun _ => fun
  | [d] => { results := [.lit (.bool true)], args := [d] }
  | _ => none }
def fnExactEncodeIPRow : OpenClaim := { program := "ytobaoffcepmeiaa", sum := "fe66eefddc2f05866488a310baaf417c0013ce40dbe68a62aec4430afc2d563c", func := "loop.example/g00003/laws.FnExactEncodeIP", spec := "fnExactEncodeIP", apart := false }
def FnExactEncodeIPSaid : Prop := fnExactEncodeIPRow.holds Try.pinned (OpenSpec.ofChange fnExactEncodeIPSpec)

/-- ITS FALSE NEIGHBOUR: 'it returns false'. Refute it at one input. -/
def fnExactEncodeIPWrong : ChangeSpec := { name := "fnExactEncodeIP", fn := fun _ => fun
  | [d] => { results := [.lit (.bool false)], args := [d] }
  | _ => none }
def FnExactEncodeIPWrongFalsely : Prop := fnExactEncodeIPRow.holds Try.pinned (OpenSpec.ofChange fnExactEncodeIPWrong)

/-- 'laws.FnExactEncodeSegment': WHATEVER THE INPUT: true; the input reads as it did. -/
def fnExactEncodeSegmentSpec : ChangeSpec := { name := "fnExactEncodeSegment", fn := fun _ => fun
  | [d1, d2, d3] => { results := [.lit (.bool true)], args := [d1, d2, d3] }
  | _ => none }
def fnExactEncodeSegmentRow : OpenClaim := { program := "ytobaoffcepmeiaa", sum := "fe66eefddc2f05866488a310baaf417c0013ce40dbe68a62aec4430afc2d563c", func := "loop.example/g00003/laws.FnExactEncodeSegment", spec := "fnExactEncodeSegment", apart := false }
def FnExactEncodeSegmentSaid : Prop := fnExactEncodeSegmentRow.holds Try.pinned (OpenSpec.ofChange fnExactEncodeSegmentSpec)

/-- ITS FALSE NEIGHBOUR: 'it returns false'. Refute it at one input. -/
def fnExactEncodeSegmentWrong : ChangeSpec := { name := "fnExactEncodeSegment", fn := fun _ => fun
  | [d1, d2, d3] => { results := [.lit (.bool false)], args := [d1, d2, d3] }
  | _ => none }
def FnExactEncodeSegmentWrongFalsely : Prop := fnExactEncodeSegmentRow.holds Try.pinned (OpenSpec.ofChange fnExactEncodeSegmentWrong)

/-- 'laws.FnExactDecodeSegment': WHATEVER THE INPUT: true; the input reads as it did. -/
def fnExactDecodeSegmentSpec : ChangeSpec := { name := "fnExactDecodeSegment", fn := fun _ => fun
  | [d1, d2, d3] => { results := [.lit (.bool true)], args := [d1, d2, d3] }
  | _ => none }
def fnExactDecodeSegmentRow : OpenClaim := { program := "ytobaoffcepmeiaa", sum := "fe66eefddc2f05866488a310baaf417c0013ce40dbe68a62aec4430afc2d563c", func := "loop.example/g00003/laws.FnExactDecodeSegment", spec := "fnExactDecodeSegment", apart := false }
def FnExactDecodeSegmentSaid : Prop := fnExactDecodeSegmentRow.holds Try.pinned (OpenSpec.ofChange fnExactDecodeSegmentSpec)

/-- ITS FALSE NEIGHBOUR: 'it returns false'. Refute it at one input. -/
def fnExactDecodeSegmentWrong : ChangeSpec := { name := "fnExactDecodeSegment", fn := fun _ => fun
  | [d1, d2, d3] => { results := [.lit (.bool false)], args := [d1, d2, d3] }
  | _ => none }
def FnExactDecodeSegmentWrongFalsely : Prop := fnExactDecodeSegmentRow.holds Try.pinned (OpenSpec.ofChange fnExactDecodeSegmentWrong)

/- THE SECOND FORM. 'bulk': how many values and letters a reading holds, each counted each time it is reached (what is shared counts as often as it is met; a slice's spare places count too). A statement '..UptoSaid' is the law's where the arguments, and the package variables that the reading takes, are together of bulk at most 1048576: NARROWER than '..Said'. Prove '..Said' where nothing that the law and all that it calls make is longer than what came in: it says more and counts as full. Else prove '..UptoSaid'. A law counts once. -/
mutual
def uptoBulk {H : Type} : DataW H → Nat
  | .lit (.string bytes) => bytes.length + 1
  | .lit _ => 1
  | .nil => 1
  | .ptr d => uptoBulk d + 1
  | .slice elems spare => uptoBulkAll elems + uptoBulkAll spare + 1
  | .agg parts => uptoBulkAll parts + 1
  | .iface _ d => uptoBulk d + 1
  | .map entries => uptoBulkEntries entries + 1
  | .held _ => 1
def uptoBulkAll {H : Type} : List (DataW H) → Nat
  | [] => 0
  | d :: r => uptoBulk d + uptoBulkAll r
def uptoBulkEntries {H : Type} : List (Lit × DataW H) → Nat
  | [] => 0
  | x :: r => uptoBulkEntry x + uptoBulkEntries r
def uptoBulkEntry {H : Type} : Lit × DataW H → Nat
  | (.string bytes, d) => bytes.length + uptoBulk d + 1
  | (_, d) => uptoBulk d + 1
 end
def uptoSmall : (H : Type) → List (DataW H) → Bool := fun _ ds => decide (uptoBulkAll ds ≤ 1048576)
def OpenSpec.upto (s : _root_.Go.ChangeSpec) : _root_.Go.OpenSpec := { _root_.Go.OpenSpec.ofChange s with cond := some uptoSmall }

/-- 'laws.FnSeq', WHERE WHAT IT READS IS OF BULK AT MOST 1048576: true; the input reads as it did. -/
def fnSeqUptoRow : OpenClaim := { program := "ytobaoffcepmeiaa", sum := "fe66eefddc2f05866488a310baaf417c0013ce40dbe68a62aec4430afc2d563c", func := "loop.example/g00003/laws.FnSeq", spec := "fnSeq", apart := false, narrowed := true }
def FnSeqUptoSaid : Prop := fnSeqUptoRow.holds Try.pinned (OpenSpec.upto fnSeqSpec)

/-- 'laws.FnNest', WHERE WHAT IT READS IS OF BULK AT MOST 1048576: true; the input reads as it did. -/
def fnNestUptoRow : OpenClaim := { program := "ytobaoffcepmeiaa", sum := "fe66eefddc2f05866488a310baaf417c0013ce40dbe68a62aec4430afc2d563c", func := "loop.example/g00003/laws.FnNest", spec := "fnNest", recurses := true, apart := false, narrowed := true }
def FnNestUptoSaid : Prop := fnNestUptoRow.holds Try.pinned (OpenSpec.upto fnNestSpec)

/-- 'laws.FnExactSegmentLength', WHERE WHAT IT READS IS OF BULK AT MOST 1048576: true; the input reads as it did. -/
def fnExactSegmentLengthUptoRow : OpenClaim := { program := "ytobaoffcepmeiaa", sum := "fe66eefddc2f05866488a310baaf417c0013ce40dbe68a62aec4430afc2d563c", func := "loop.example/g00003/laws.FnExactSegmentLength", spec := "fnExactSegmentLength", apart := false, narrowed := true }
def FnExactSegmentLengthUptoSaid : Prop := fnExactSegmentLengthUptoRow.holds Try.pinned (OpenSpec.upto fnExactSegmentLengthSpec)

/-- 'laws.FnExactFindRoute', WHERE WHAT IT READS IS OF BULK AT MOST 1048576: true; the input reads as it did. -/
def fnExactFindRouteUptoRow : OpenClaim := { program := "ytobaoffcepmeiaa", sum := "fe66eefddc2f05866488a310baaf417c0013ce40dbe68a62aec4430afc2d563c", func := "loop.example/g00003/laws.FnExactFindRoute", spec := "fnExactFindRoute", apart := false, narrowed := true }
def FnExactFindRouteUptoSaid : Prop := fnExactFindRouteUptoRow.holds Try.pinned (OpenSpec.upto fnExactFindRouteSpec)

/-- 'laws.FnExactBoardTimeout', WHERE WHAT IT READS IS OF BULK AT MOST 1048576: true; the input reads as it did. -/
def fnExactBoardTimeoutUptoRow : OpenClaim := { program := "ytobaoffcepmeiaa", sum := "fe66eefddc2f05866488a310baaf417c0013ce40dbe68a62aec4430afc2d563c", func := "loop.example/g00003/laws.FnExactBoardTimeout", spec := "fnExactBoardTimeout", apart := false, narrowed := true }
def FnExactBoardTimeoutUptoSaid : Prop := fnExactBoardTimeoutUptoRow.holds Try.pinned (OpenSpec.upto fnExactBoardTimeoutSpec)

/-- 'laws.FnLongest', WHERE WHAT IT READS IS OF BULK AT MOST 1048576: true; the input reads as it did. -/
def fnLongestUptoRow : OpenClaim := { program := "ytobaoffcepmeiaa", sum := "fe66eefddc2f05866488a310baaf417c0013ce40dbe68a62aec4430afc2d563c", func := "loop.example/g00003/laws.FnLongest", spec := "fnLongest", recurses := true, apart := false, narrowed := true }
def FnLongestUptoSaid : Prop := fnLongestUptoRow.holds Try.pinned (OpenSpec.upto fnLongestSpec)

/-- 'laws.FnExactMayComplain', WHERE WHAT IT READS IS OF BULK AT MOST 1048576: true; the input reads as it did. -/
def fnExactMayComplainUptoRow : OpenClaim := { program := "ytobaoffcepmeiaa", sum := "fe66eefddc2f05866488a310baaf417c0013ce40dbe68a62aec4430afc2d563c", func := "loop.example/g00003/laws.FnExactMayComplain", spec := "fnExactMayComplain", apart := false, narrowed := true }
def FnExactMayComplainUptoSaid : Prop := fnExactMayComplainUptoRow.holds Try.pinned (OpenSpec.upto fnExactMayComplainSpec)

/-- 'laws.FnExactBoardLose', WHERE WHAT IT READS IS OF BULK AT MOST 1048576: true; the input reads as it did. -/
def fnExactBoardLoseUptoRow : OpenClaim := { program := "ytobaoffcepmeiaa", sum := "fe66eefddc2f05866488a310baaf417c0013ce40dbe68a62aec4430afc2d563c", func := "loop.example/g00003/laws.FnExactBoardLose", spec := "fnExactBoardLose", apart := false, narrowed := true }
def FnExactBoardLoseUptoSaid : Prop := fnExactBoardLoseUptoRow.holds Try.pinned (OpenSpec.upto fnExactBoardLoseSpec)

/-- 'laws.FnExactBoardAgain', WHERE WHAT IT READS IS OF BULK AT MOST 1048576: true; the input reads as it did. -/
def fnExactBoardAgainUptoRow : OpenClaim := { program := "ytobaoffcepmeiaa", sum := "fe66eefddc2f05866488a310baaf417c0013ce40dbe68a62aec4430afc2d563c", func := "loop.example/g00003/laws.FnExactBoardAgain", spec := "fnExactBoardAgain", apart := false, narrowed := true }
def FnExactBoardAgainUptoSaid : Prop := fnExactBoardAgainUptoRow.holds Try.pinned (OpenSpec.upto fnExactBoardAgainSpec)

/-- 'laws.FnExactEncodeIP', WHERE WHAT IT READS IS OF BULK AT MOST 1048576: true; the input reads as it did. -/
def fnExactEncodeIPUptoRow : OpenClaim := { program := "ytobaoffcepmeiaa", sum := "fe66eefddc2f05866488a310baaf417c0013ce40dbe68a62aec4430afc2d563c", func := "loop.example/g00003/laws.FnExactEncodeIP", spec := "fnExactEncodeIP", apart := false, narrowed := true }
def FnExactEncodeIPUptoSaid : Prop := fnExactEncodeIPUptoRow.holds Try.pinned (OpenSpec.upto fnExactEncodeIPSpec)

/-- 'laws.FnExactEncodeSegment', WHERE WHAT IT READS IS OF BULK AT MOST 1048576: true; the input reads as it did. -/
def fnExactEncodeSegmentUptoRow : OpenClaim := { program := "ytobaoffcepmeiaa", sum := "fe66eefddc2f05866488a310baaf417c0013ce40dbe68a62aec4430afc2d563c", func := "loop.example/g00003/laws.FnExactEncodeSegment", spec := "fnExactEncodeSegment", apart := false, narrowed := true }
def FnExactEncodeSegmentUptoSaid : Prop := fnExactEncodeSegmentUptoRow.holds Try.pinned (OpenSpec.upto fnExactEncodeSegmentSpec)

/-- 'laws.FnExactDecodeSegment', WHERE WHAT IT READS IS OF BULK AT MOST 1048576: true; the input reads as it did. -/
def fnExactDecodeSegmentUptoRow : OpenClaim := { program := "ytobaoffcepmeiaa", sum := "fe66eefddc2f05866488a310baaf417c0013ce40dbe68a62aec4430afc2d563c", func := "loop.example/g00003/laws.FnExactDecodeSegment", spec := "fnExactDecodeSegment", apart := false, narrowed := true }
def FnExactDecodeSegmentUptoSaid : Prop := fnExactDecodeSegmentUptoRow.holds Try.pinned (OpenSpec.upto fnExactDecodeSegmentSpec)

end Rows
end Go.Proofs.Ytobaoffcepmeiaa
