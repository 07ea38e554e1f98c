/-
  No cell of these rows narrows 'for every input' (looked for: loops, veiled, ifaces, maps, wideKeys, modest, calm, conditions, laid).
  DERIVED. THE GIVEN ROWS OF THIS SEAT. 11 by the template 'for every input the law returns true; each argument reads behind the call as it read before'; 0 by the template 'total and deterministic' (their statements: YtkfbcmbemihbnaaTotals.lean).
  GIVEN WITH THE SEED: the statements are not yours to turn. If you find one false, say at which input.
  Laid BY PROGRAM, IN A SANDBOX (cutbox-rows.mjs): the forced cells as the released guide's own fill.sh prints them over the translation 5314a02281275829… (all of the seat's roots in one cut). By AI agents, Wed Nov 11 2026. No macro, syntax, notation, axiom, sorry.
-/
import Derived.Test.YtkfbcmbemihbnaaChecked
import GoSem.Claim
import GoSem.ClaimJoined
import GoSem.ClaimMapViews
import Derived.JoinedTies
import Derived.KernelRfl
namespace Go.Proofs.Ytkfbcmbemihbnaa
/- THE CELL 'sum', in the pinned program and in every row, IS THE sha256 OF THE DUMP (.gsa) THAT YtkfbcmbemihbnaaProg.lean LOADS. Nothing in Lean hashes anything: it is a label: what it is worth is what the hold of that sum in a sandbox is worth. -/
noncomputable def Try.pinned : Pinned := { name := "ytkfbcmbemihbnaa", sum := "5314a02281275829c3138260ca67ba80c5d649dc9d7b2b5b759e511c921dd4b7", checked := Try.checked }
namespace Rows
def none {H : Type} : Left H := { results := [], args := [] }

/-- 'laws.FnFair': WHATEVER THE INPUT: true; the input reads as it did. -/
def fnFairSpec : ChangeSpec := { name := "fnFair", fn := fun _ => fun
  | [d] => { results := [.lit (.bool true)], args := [d] }
  | _ => none }
def fnFairRow : OpenClaim := { program := "ytkfbcmbemihbnaa", sum := "5314a02281275829c3138260ca67ba80c5d649dc9d7b2b5b759e511c921dd4b7", func := "loop.example/g00003/laws.FnFair", spec := "fnFair", apart := false }
def FnFairSaid : Prop := fnFairRow.holds Try.pinned (OpenSpec.ofChange fnFairSpec)

/-- ITS FALSE NEIGHBOUR: 'it returns false'. Refute it at one input. -/
def fnFairWrong : ChangeSpec := { name := "fnFair", fn := fun _ => fun
  | [d] => { results := [.lit (.bool false)], args := [d] }
  | _ => none }
def FnFairWrongFalsely : Prop := fnFairRow.holds Try.pinned (OpenSpec.ofChange fnFairWrong)

/-- 'laws.FnExactReadQuote': WHATEVER THE INPUT: true; the input reads as it did. -/
def fnExactReadQuoteSpec : ChangeSpec := { name := "fnExactReadQuote", fn := fun _ => fun
  | [d] => { results := [.lit (.bool true)], args := [d] }
  | _ => none }
def fnExactReadQuoteRow : OpenClaim := { program := "ytkfbcmbemihbnaa", sum := "5314a02281275829c3138260ca67ba80c5d649dc9d7b2b5b759e511c921dd4b7", func := "loop.example/g00003/laws.FnExactReadQuote", spec := "fnExactReadQuote", apart := false }
def FnExactReadQuoteSaid : Prop := fnExactReadQuoteRow.holds Try.pinned (OpenSpec.ofChange fnExactReadQuoteSpec)

/-- ITS FALSE NEIGHBOUR: 'it returns false'. Refute it at one input. -/
def fnExactReadQuoteWrong : ChangeSpec := { name := "fnExactReadQuote", fn := fun _ => fun
  | [d] => { results := [.lit (.bool false)], args := [d] }
  | _ => none }
def FnExactReadQuoteWrongFalsely : Prop := fnExactReadQuoteRow.holds Try.pinned (OpenSpec.ofChange fnExactReadQuoteWrong)

/-- 'laws.FnExactShare': WHATEVER THE INPUT: true; the input reads as it did. -/
def fnExactShareSpec : ChangeSpec := { name := "fnExactShare", fn := fun _ => fun
  | [d1, d2, d3, d4] => { results := [.lit (.bool true)], args := [d1, d2, d3, d4] }
  | _ => none }
def fnExactShareRow : OpenClaim := { program := "ytkfbcmbemihbnaa", sum := "5314a02281275829c3138260ca67ba80c5d649dc9d7b2b5b759e511c921dd4b7", func := "loop.example/g00003/laws.FnExactShare", spec := "fnExactShare", apart := false }
def FnExactShareSaid : Prop := fnExactShareRow.holds Try.pinned (OpenSpec.ofChange fnExactShareSpec)

/-- ITS FALSE NEIGHBOUR: 'it returns false'. Refute it at one input. -/
def fnExactShareWrong : ChangeSpec := { name := "fnExactShare", fn := fun _ => fun
  | [d1, d2, d3, d4] => { results := [.lit (.bool false)], args := [d1, d2, d3, d4] }
  | _ => none }
def FnExactShareWrongFalsely : Prop := fnExactShareRow.holds Try.pinned (OpenSpec.ofChange fnExactShareWrong)

/-- 'laws.FnExactDecodeIP': WHATEVER THE INPUT: true; the input reads as it did. -/
def fnExactDecodeIPSpec : ChangeSpec := { name := "fnExactDecodeIP", fn := fun _ => fun
  | [d] => { results := [.lit (.bool true)], args := [d] }
  | _ => none }
def fnExactDecodeIPRow : OpenClaim := { program := "ytkfbcmbemihbnaa", sum := "5314a02281275829c3138260ca67ba80c5d649dc9d7b2b5b759e511c921dd4b7", func := "loop.example/g00003/laws.FnExactDecodeIP", spec := "fnExactDecodeIP", apart := false }
def FnExactDecodeIPSaid : Prop := fnExactDecodeIPRow.holds Try.pinned (OpenSpec.ofChange fnExactDecodeIPSpec)

/-- ITS FALSE NEIGHBOUR: 'it returns false'. Refute it at one input. -/
def fnExactDecodeIPWrong : ChangeSpec := { name := "fnExactDecodeIP", fn := fun _ => fun
  | [d] => { results := [.lit (.bool false)], args := [d] }
  | _ => none }
def FnExactDecodeIPWrongFalsely : Prop := fnExactDecodeIPRow.holds Try.pinned (OpenSpec.ofChange fnExactDecodeIPWrong)

/-- 'laws.FnExactBoardTimeout': WHATEVER THE INPUT: true; the input reads as it did. -/
def fnExactBoardTimeoutSpec : ChangeSpec := { name := "fnExactBoardTimeout", fn := fun _ => fun
  | [d] => { results := [.lit (.bool true)], args := [d] }
  | _ => none }
def fnExactBoardTimeoutRow : OpenClaim := { program := "ytkfbcmbemihbnaa", sum := "5314a02281275829c3138260ca67ba80c5d649dc9d7b2b5b759e511c921dd4b7", func := "loop.example/g00003/laws.FnExactBoardTimeout", spec := "fnExactBoardTimeout", apart := false }
def FnExactBoardTimeoutSaid : Prop := fnExactBoardTimeoutRow.holds Try.pinned (OpenSpec.ofChange fnExactBoardTimeoutSpec)

/-- ITS FALSE NEIGHBOUR: 'it returns false'. Refute it at one input. -/
def fnExactBoardTimeoutWrong : ChangeSpec := { name := "fnExactBoardTimeout", fn := fun _ => fun
  | [d] => { results := [.lit (.bool false)], args := [d] }
  | _ => none }
def FnExactBoardTimeoutWrongFalsely : Prop := fnExactBoardTimeoutRow.holds Try.pinned (OpenSpec.ofChange fnExactBoardTimeoutWrong)

/-- 'laws.FnLongest': WHATEVER THE INPUT: true; the input reads as it did. -/
def fnLongestSpec : ChangeSpec := { name := "fnLongest", fn := fun _ => fun
  | [d] => { results := [.lit (.bool true)], args := [d] }
  | _ => none }
def fnLongestRow : OpenClaim := { program := "ytkfbcmbemihbnaa", sum := "5314a02281275829c3138260ca67ba80c5d649dc9d7b2b5b759e511c921dd4b7", func := "loop.example/g00003/laws.FnLongest", spec := "fnLongest", recurses := true, apart := false }
def FnLongestSaid : Prop := fnLongestRow.holds Try.pinned (OpenSpec.ofChange fnLongestSpec)

/-- ITS FALSE NEIGHBOUR: 'it returns false'. Refute it at one input. -/
def fnLongestWrong : ChangeSpec := { name := "fnLongest", fn := fun _ => fun
  | [d] => { results := [.lit (.bool false)], args := [d] }
  | _ => none }
def FnLongestWrongFalsely : Prop := fnLongestRow.holds Try.pinned (OpenSpec.ofChange fnLongestWrong)

/-- 'laws.FnExactBoardLose': WHATEVER THE INPUT: true; the input reads as it did. -/
def fnExactBoardLoseSpec : ChangeSpec := { name := "fnExactBoardLose", fn := fun _ => fun
  | [d] => { results := [.lit (.bool true)], args := [d] }
  | _ => none }
def fnExactBoardLoseRow : OpenClaim := { program := "ytkfbcmbemihbnaa", sum := "5314a02281275829c3138260ca67ba80c5d649dc9d7b2b5b759e511c921dd4b7", func := "loop.example/g00003/laws.FnExactBoardLose", spec := "fnExactBoardLose", apart := false }
def FnExactBoardLoseSaid : Prop := fnExactBoardLoseRow.holds Try.pinned (OpenSpec.ofChange fnExactBoardLoseSpec)

/-- ITS FALSE NEIGHBOUR: 'it returns false'. Refute it at one input. -/
def fnExactBoardLoseWrong : ChangeSpec := { name := "fnExactBoardLose", fn := fun _ => fun
  | [d] => { results := [.lit (.bool false)], args := [d] }
  | _ => none }
def FnExactBoardLoseWrongFalsely : Prop := fnExactBoardLoseRow.holds Try.pinned (OpenSpec.ofChange fnExactBoardLoseWrong)

/-- 'laws.FnExactBoardAgain': WHATEVER THE INPUT: true; the input reads as it did. -/
def fnExactBoardAgainSpec : ChangeSpec := { name := "fnExactBoardAgain", fn := fun _ => fun
  | [d1, d2] => { results := [.lit (.bool true)], args := [d1, d2] }
  | _ => none }
def fnExactBoardAgainRow : OpenClaim := { program := "ytkfbcmbemihbnaa", sum := "5314a02281275829c3138260ca67ba80c5d649dc9d7b2b5b759e511c921dd4b7", func := "loop.example/g00003/laws.FnExactBoardAgain", spec := "fnExactBoardAgain", apart := false }
def FnExactBoardAgainSaid : Prop := fnExactBoardAgainRow.holds Try.pinned (OpenSpec.ofChange fnExactBoardAgainSpec)

/-- ITS FALSE NEIGHBOUR: 'it returns false'. Refute it at one input. -/
def fnExactBoardAgainWrong : ChangeSpec := { name := "fnExactBoardAgain", fn := fun _ => fun
  | [d1, d2] => { results := [.lit (.bool false)], args := [d1, d2] }
  | _ => none }
def FnExactBoardAgainWrongFalsely : Prop := fnExactBoardAgainRow.holds Try.pinned (OpenSpec.ofChange fnExactBoardAgainWrong)

/-- 'laws.FnExactComplain': WHATEVER THE INPUT: true; the input reads as it did. -/
def fnExactComplainSpec : ChangeSpec := { name := "fnExactComplain", fn := fun _ => fun
  | [d1, d2, d3, d4, d5] => { results := [.lit (.bool true)], args := [d1, d2, d3, d4, d5] }
  | _ => none }
def fnExactComplainRow : OpenClaim := { program := "ytkfbcmbemihbnaa", sum := "5314a02281275829c3138260ca67ba80c5d649dc9d7b2b5b759e511c921dd4b7", func := "loop.example/g00003/laws.FnExactComplain", spec := "fnExactComplain", apart := false }
def FnExactComplainSaid : Prop := fnExactComplainRow.holds Try.pinned (OpenSpec.ofChange fnExactComplainSpec)

/-- ITS FALSE NEIGHBOUR: 'it returns false'. Refute it at one input. -/
def fnExactComplainWrong : ChangeSpec := { name := "fnExactComplain", fn := fun _ => fun
  | [d1, d2, d3, d4, d5] => { results := [.lit (.bool false)], args := [d1, d2, d3, d4, d5] }
  | _ => none }
def FnExactComplainWrongFalsely : Prop := fnExactComplainRow.holds Try.pinned (OpenSpec.ofChange fnExactComplainWrong)

/-- 'laws.FnExactDecodeSegment': WHATEVER THE INPUT: true; the input reads as it did. -/
def fnExactDecodeSegmentSpec : ChangeSpec := { name := "fnExactDecodeSegment", fn := fun _ => fun
  | [d1, d2, d3] => { results := [.lit (.bool true)], args := [d1, d2, d3] }
  | _ => none }
def fnExactDecodeSegmentRow : OpenClaim := { program := "ytkfbcmbemihbnaa", sum := "5314a02281275829c3138260ca67ba80c5d649dc9d7b2b5b759e511c921dd4b7", func := "loop.example/g00003/laws.FnExactDecodeSegment", spec := "fnExactDecodeSegment", apart := false }
def FnExactDecodeSegmentSaid : Prop := fnExactDecodeSegmentRow.holds Try.pinned (OpenSpec.ofChange fnExactDecodeSegmentSpec)

/-- ITS FALSE NEIGHBOUR: 'it returns false'. Refute it at one input. -/
def fnExactDecodeSegmentWrong : ChangeSpec := { name := "fnExactDecodeSegment", fn := fun _ => fun
  | [d1, d2, d3] => { results := [.lit (.bool false)], args := [d1, d2, d3] }
  | _ => none }
def FnExactDecodeSegmentWrongFalsely : Prop := fnExactDecodeSegmentRow.holds Try.pinned (OpenSpec.ofChange fnExactDecodeSegmentWrong)

/-- 'laws.FnExactFragment': WHATEVER THE INPUT: true; the input reads as it did. -/
def fnExactFragmentSpec : ChangeSpec := { name := "fnExactFragment", fn := fun _ => fun
  | [d1, d2] => { results := [.lit (.bool true)], args := [d1, d2] }
  | _ => none }
def fnExactFragmentRow : OpenClaim := { program := "ytkfbcmbemihbnaa", sum := "5314a02281275829c3138260ca67ba80c5d649dc9d7b2b5b759e511c921dd4b7", func := "loop.example/g00003/laws.FnExactFragment", spec := "fnExactFragment", apart := false }
def FnExactFragmentSaid : Prop := fnExactFragmentRow.holds Try.pinned (OpenSpec.ofChange fnExactFragmentSpec)

/-- ITS FALSE NEIGHBOUR: 'it returns false'. Refute it at one input. -/
def fnExactFragmentWrong : ChangeSpec := { name := "fnExactFragment", fn := fun _ => fun
  | [d1, d2] => { results := [.lit (.bool false)], args := [d1, d2] }
  | _ => none }
def FnExactFragmentWrongFalsely : Prop := fnExactFragmentRow.holds Try.pinned (OpenSpec.ofChange fnExactFragmentWrong)

/- THE SECOND FORM. 'bulk': how many values and letters a reading holds, each counted each time it is reached (what is shared counts as often as it is met; a slice's spare places count too). A statement '..UptoSaid' is the law's where the arguments, and the package variables that the reading takes, are together of bulk at most 1048576: NARROWER than '..Said'. Prove '..Said' where nothing that the law and all that it calls make is longer than what came in: it says more and counts as full. Else prove '..UptoSaid'. A law counts once. -/
mutual
def uptoBulk {H : Type} : DataW H → Nat
  | .lit (.string bytes) => bytes.length + 1
  | .lit _ => 1
  | .nil => 1
  | .ptr d => uptoBulk d + 1
  | .slice elems spare => uptoBulkAll elems + uptoBulkAll spare + 1
  | .agg parts => uptoBulkAll parts + 1
  | .iface _ d => uptoBulk d + 1
  | .map entries => uptoBulkEntries entries + 1
  | .held _ => 1
def uptoBulkAll {H : Type} : List (DataW H) → Nat
  | [] => 0
  | d :: r => uptoBulk d + uptoBulkAll r
def uptoBulkEntries {H : Type} : List (Lit × DataW H) → Nat
  | [] => 0
  | x :: r => uptoBulkEntry x + uptoBulkEntries r
def uptoBulkEntry {H : Type} : Lit × DataW H → Nat
  | (.string bytes, d) => bytes.length + uptoBulk d + 1
  | (_, d) => uptoBulk d + 1
 end
def uptoSmall : (H : Type) → List (DataW H) → Bool := fun _ ds => decide (uptoBulkAll ds ≤ 1048576)
def OpenSpec.upto (s : _root_.Go.ChangeSpec) : _root_.Go.OpenSpec := { _root_.Go.OpenSpec.ofChange s with cond := some uptoSmall }

/-- 'laws.FnFair', WHERE WHAT IT READS IS OF BULK AT MOST 1048576: true; the input reads as it did. -/
def fnFairUptoRow : OpenClaim := { program := "ytkfbcmbemihbnaa", sum := "5314a02281275829c3138260ca67ba80c5d649dc9d7b2b5b759e511c921dd4b7", func := "loop.example/g00003/laws.FnFair", spec := "fnFair", apart := false, narrowed := true }
def FnFairUptoSaid : Prop := fnFairUptoRow.holds Try.pinned (OpenSpec.upto fnFairSpec)

/-- 'laws.FnExactReadQuote', WHERE WHAT IT READS IS OF BULK AT MOST 1048576: true; the input reads as it did. -/
def fnExactReadQuoteUptoRow : OpenClaim := { program := "ytkfbcmbemihbnaa", sum := "5314a02281275829c3138260ca67ba80c5d649dc9d7b2b5b759e511c921dd4b7", func := "loop.example/g00003/laws.FnExactReadQuote", spec := "fnExactReadQuote", apart := false, narrowed := true }
def FnExactReadQuoteUptoSaid : Prop := fnExactReadQuoteUptoRow.holds Try.pinned (OpenSpec.upto fnExactReadQuoteSpec)

/-- 'laws.FnExactShare', WHERE WHAT IT READS IS OF BULK AT MOST 1048576: true; the input reads as it did. -/
def fnExactShareUptoRow : OpenClaim := { program := "ytkfbcmbemihbnaa", sum := "5314a02281275829c3138260ca67ba80c5d649dc9d7b2b5b759e511c921dd4b7", func := "loop.example/g00003/laws.FnExactShare", spec := "fnExactShare", apart := false, narrowed := true }
def FnExactShareUptoSaid : Prop := fnExactShareUptoRow.holds Try.pinned (OpenSpec.upto fnExactShareSpec)

/-- 'laws.FnExactDecodeIP', WHERE WHAT IT READS IS OF BULK AT MOST 1048576: true; the input reads as it did. -/
def fnExactDecodeIPUptoRow : OpenClaim := { program := "ytkfbcmbemihbnaa", sum := "5314a02281275829c3138260ca67ba80c5d649dc9d7b2b5b759e511c921dd4b7", func := "loop.example/g00003/laws.FnExactDecodeIP", spec := "fnExactDecodeIP", apart := false, narrowed := true }
def FnExactDecodeIPUptoSaid : Prop := fnExactDecodeIPUptoRow.holds Try.pinned (OpenSpec.upto fnExactDecodeIPSpec)

/-- 'laws.FnExactBoardTimeout', WHERE WHAT IT READS IS OF BULK AT MOST 1048576: true; the input reads as it did. -/
def fnExactBoardTimeoutUptoRow : OpenClaim := { program := "ytkfbcmbemihbnaa", sum := "5314a02281275829c3138260ca67ba80c5d649dc9d7b2b5b759e511c921dd4b7", func := "loop.example/g00003/laws.FnExactBoardTimeout", spec := "fnExactBoardTimeout", apart := false, narrowed := true }
def FnExactBoardTimeoutUptoSaid : Prop := fnExactBoardTimeoutUptoRow.holds Try.pinned (OpenSpec.upto fnExactBoardTimeoutSpec)

/-- 'laws.FnLongest', WHERE WHAT IT READS IS OF BULK AT MOST 1048576: true; the input reads as it did. -/
def fnLongestUptoRow : OpenClaim := { program := "ytkfbcmbemihbnaa", sum := "5314a02281275829c3138260ca67ba80c5d649dc9d7b2b5b759e511c921dd4b7", func := "loop.example/g00003/laws.FnLongest", spec := "fnLongest", recurses := true, apart := false, narrowed := true }
def FnLongestUptoSaid : Prop := fnLongestUptoRow.holds Try.pinned (OpenSpec.upto fnLongestSpec)

/-- 'laws.FnExactBoardLose', WHERE WHAT IT READS IS OF BULK AT MOST 1048576: true; the input reads as it did. -/
def fnExactBoardLoseUptoRow : OpenClaim := { program := "ytkfbcmbemihbnaa", sum := "5314a02281275829c3138260ca67ba80c5d649dc9d7b2b5b759e511c921dd4b7", func := "loop.example/g00003/laws.FnExactBoardLose", spec := "fnExactBoardLose", apart := false, narrowed := true }
def FnExactBoardLoseUptoSaid : Prop := fnExactBoardLoseUptoRow.holds Try.pinned (OpenSpec.upto fnExactBoardLoseSpec)

/-- 'laws.FnExactBoardAgain', WHERE WHAT IT READS IS OF BULK AT MOST 1048576: true; the input reads as it did. -/
def fnExactBoardAgainUptoRow : OpenClaim := { program := "ytkfbcmbemihbnaa", sum := "5314a02281275829c3138260ca67ba80c5d649dc9d7b2b5b759e511c921dd4b7", func := "loop.example/g00003/laws.FnExactBoardAgain", spec := "fnExactBoardAgain", apart := false, narrowed := true }
def FnExactBoardAgainUptoSaid : Prop := fnExactBoardAgainUptoRow.holds Try.pinned (OpenSpec.upto fnExactBoardAgainSpec)

/-- 'laws.FnExactComplain', WHERE WHAT IT READS IS OF BULK AT MOST 1048576: true; the input reads as it did. -/
def fnExactComplainUptoRow : OpenClaim := { program := "ytkfbcmbemihbnaa", sum := "5314a02281275829c3138260ca67ba80c5d649dc9d7b2b5b759e511c921dd4b7", func := "loop.example/g00003/laws.FnExactComplain", spec := "fnExactComplain", apart := false, narrowed := true }
def FnExactComplainUptoSaid : Prop := fnExactComplainUptoRow.holds Try.pinned (OpenSpec.upto fnExactComplainSpec)

/-- 'laws.FnExactDecodeSegment', WHERE WHAT IT READS IS OF BULK AT MOST 1048576: true; the input reads as it did. -/
def fnExactDecodeSegmentUptoRow : OpenClaim := { program := "ytkfbcmbemihbnaa", sum := "5314a02281275829c3138260ca67ba80c5d649dc9d7b2b5b759e511c921dd4b7", func := "loop.example/g00003/laws.FnExactDecodeSegment", spec := "fnExactDecodeSegment", apart := false, narrowed := true }
def FnExactDecodeSegmentUptoSaid : Prop := fnExactDecodeSegmentUptoRow.holds Try.pinned (OpenSpec.upto fnExactDecodeSegmentSpec)

/-- 'laws.FnExactFragment', WHERE WHAT IT READS IS OF BULK AT MOST 1048576: true; the input reads as it did. -/
def fnExactFragmentUptoRow : OpenClaim := { program := "ytkfbcmbemihbnaa", sum := "5314a02281275829c3138260ca67ba80c5d649dc9d7b2b5b759e511c921dd4b7", func := "loop.example/g00003/laws.FnExactFragment", spec := "fnExactFragment", apart := false, narrowed := true }
def FnExactFragmentUptoSaid : Prop := fnExactFragmentUptoRow.holds Try.pinned (OpenSpec.upto fnExactFragmentSpec)

end Rows
end Go.Proofs.Ytkfbcmbemihbnaa
