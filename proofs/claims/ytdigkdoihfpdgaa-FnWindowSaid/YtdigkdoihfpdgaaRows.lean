/-
  No cell of these rows narrows 'for every input' (looked for: loops, veiled, ifaces, maps, wideKeys, modest, calm, conditions, laid).
  DERIVED. THE GIVEN ROWS OF THIS SEAT. 11 by the template 'for every input the law returns true; each argument reads behind the call as it read before'; 0 by the template 'total and deterministic' (their statements: YtdigkdoihfpdgaaTotals.lean).
  GIVEN WITH THE SEED: the statements are not yours to turn. If you find one false, say at which input.
  Laid BY PROGRAM, IN A SANDBOX (cutbox-rows.mjs): the forced cells as the released guide's own fill.sh prints them over the translation c432e96e2a55aa46… (all of the seat's roots in one cut). By AI agents, Wed Nov 11 2026. No macro, syntax, notation, axiom, sorry.
-/
import Derived.Test.YtdigkdoihfpdgaaChecked
import GoSem.Claim
import GoSem.ClaimJoined
import GoSem.ClaimMapViews
import Derived.JoinedTies
import Derived.KernelRfl
namespace Go.Proofs.Ytdigkdoihfpdgaa
/- THE CELL 'sum', in the pinned program and in every row, IS THE sha256 OF THE DUMP (.gsa) THAT YtdigkdoihfpdgaaProg.lean LOADS. Nothing in Lean hashes anything: it is a label: what it is worth is what the hold of that sum in a sandbox is worth. -/
noncomputable def Try.pinned : Pinned := { name := "ytdigkdoihfpdgaa", sum := "c432e96e2a55aa46dd10d2827d50abf056efe801d15344b2a5048fa83d31f789", checked := Try.checked }
namespace Rows
def none {H : Type} : Left H := { results := [], args := [] }

/-- 'laws.FnPatch': WHATEVER THE INPUT: true; the input reads as it did. -/
def fnPatchSpec : ChangeSpec := { name := "fnPatch", fn := fun _ => fun
  | [d] => { results := [.lit (.bool true)], args := [d] }
  | _ => none }
def fnPatchRow : OpenClaim := { program := "ytdigkdoihfpdgaa", sum := "c432e96e2a55aa46dd10d2827d50abf056efe801d15344b2a5048fa83d31f789", func := "loop.example/g00003/laws.FnPatch", spec := "fnPatch", apart := false }
def FnPatchSaid : Prop := fnPatchRow.holds Try.pinned (OpenSpec.ofChange fnPatchSpec)

/-- ITS FALSE NEIGHBOUR: 'it returns false'. Refute it at one input. -/
def fnPatchWrong : ChangeSpec := { name := "fnPatch", fn := fun _ => fun
  | [d] => { results := [.lit (.bool false)], args := [d] }
  | _ => none }
def FnPatchWrongFalsely : Prop := fnPatchRow.holds Try.pinned (OpenSpec.ofChange fnPatchWrong)

/-- 'laws.FnWindow': WHATEVER THE INPUT: true; the input reads as it did. -/
def fnWindowSpec : ChangeSpec := { name := "fnWindow", fn := fun _ => fun
  | [d] => { results := [.lit (.bool true)], args := [d] }
  | _ => none }
def fnWindowRow : OpenClaim := { program := "ytdigkdoihfpdgaa", sum := "c432e96e2a55aa46dd10d2827d50abf056efe801d15344b2a5048fa83d31f789", func := "loop.example/g00003/laws.FnWindow", spec := "fnWindow", apart := false }
def FnWindowSaid : Prop := fnWindowRow.holds Try.pinned (OpenSpec.ofChange fnWindowSpec)

/-- ITS FALSE NEIGHBOUR: 'it returns false'. Refute it at one input. -/
def fnWindowWrong : ChangeSpec := { name := "fnWindow", fn := fun _ => fun
  | [d] => { results := [.lit (.bool false)], args := [d] }
  | _ => none }
def FnWindowWrongFalsely : Prop := fnWindowRow.holds Try.pinned (OpenSpec.ofChange fnWindowWrong)

/-- 'laws.FnExactDecodeArp': WHATEVER THE INPUT: true; the input reads as it did. -/
def fnExactDecodeArpSpec : ChangeSpec := { name := "fnExactDecodeArp", fn := fun _ => fun
  | [d] => { results := [.lit (.bool true)], args := [d] }
  | _ => none }
def fnExactDecodeArpRow : OpenClaim := { program := "ytdigkdoihfpdgaa", sum := "c432e96e2a55aa46dd10d2827d50abf056efe801d15344b2a5048fa83d31f789", func := "loop.example/g00003/laws.FnExactDecodeArp", spec := "fnExactDecodeArp", apart := false }
def FnExactDecodeArpSaid : Prop := fnExactDecodeArpRow.holds Try.pinned (OpenSpec.ofChange fnExactDecodeArpSpec)

/-- ITS FALSE NEIGHBOUR: 'it returns false'. Refute it at one input. -/
def fnExactDecodeArpWrong : ChangeSpec := { name := "fnExactDecodeArp", fn := fun _ => fun
  | [d] => { results := [.lit (.bool false)], args := [d] }
  | _ => none }
def FnExactDecodeArpWrongFalsely : Prop := fnExactDecodeArpRow.holds Try.pinned (OpenSpec.ofChange fnExactDecodeArpWrong)

/-- 'laws.FnFair': WHATEVER THE INPUT: true; the input reads as it did. -/
def fnFairSpec : ChangeSpec := { name := "fnFair", fn := fun _ => fun
  | [d] => { results := [.lit (.bool true)], args := [d] }
  | _ => none }
def fnFairRow : OpenClaim := { program := "ytdigkdoihfpdgaa", sum := "c432e96e2a55aa46dd10d2827d50abf056efe801d15344b2a5048fa83d31f789", func := "loop.example/g00003/laws.FnFair", spec := "fnFair", apart := false }
def FnFairSaid : Prop := fnFairRow.holds Try.pinned (OpenSpec.ofChange fnFairSpec)

/-- ITS FALSE NEIGHBOUR: 'it returns false'. Refute it at one input. -/
def fnFairWrong : ChangeSpec := { name := "fnFair", fn := fun _ => fun
  | [d] => { results := [.lit (.bool false)], args := [d] }
  | _ => none }
def FnFairWrongFalsely : Prop := fnFairRow.holds Try.pinned (OpenSpec.ofChange fnFairWrong)

/-- 'laws.FnExactReadQuote': WHATEVER THE INPUT: true; the input reads as it did. -/
def fnExactReadQuoteSpec : ChangeSpec := { name := "fnExactReadQuote", fn := fun _ => fun
  | [d] => { results := [.lit (.bool true)], args := [d] }
  | _ => none }
def fnExactReadQuoteRow : OpenClaim := { program := "ytdigkdoihfpdgaa", sum := "c432e96e2a55aa46dd10d2827d50abf056efe801d15344b2a5048fa83d31f789", func := "loop.example/g00003/laws.FnExactReadQuote", spec := "fnExactReadQuote", apart := false }
def FnExactReadQuoteSaid : Prop := fnExactReadQuoteRow.holds Try.pinned (OpenSpec.ofChange fnExactReadQuoteSpec)

/-- ITS FALSE NEIGHBOUR: 'it returns false'. Refute it at one input. -/
def fnExactReadQuoteWrong : ChangeSpec := { name := "fnExactReadQuote", fn := fun _ => fun
  | [d] => { results := [.lit (.bool false)], args := [d] }
  | _ => none }
def FnExactReadQuoteWrongFalsely : Prop := fnExactReadQuoteRow.holds Try.pinned (OpenSpec.ofChange fnExactReadQuoteWrong)

/-- 'laws.FnExactEncodeIcmp': WHATEVER THE INPUT: true; the input reads as it did. -/
def fnExactEncodeIcmpSpec : ChangeSpec := { name := "fnExactEncodeIcmp", fn := fun _ => fun
  | [d] => { results := [.lit (.bool true)], args := [d] }
  | _ => none }
def fnExactEncodeIcmpRow : OpenClaim := { program := "ytdigkdoihfpdgaa", sum := "c432e96e2a55aa46dd10d2827d50abf056efe801d15344b2a5048fa83d31f789", func := "loop.example/g00003/laws.FnExactEncodeIcmp", spec := "fnExactEncodeIcmp", apart := false }
def FnExactEncodeIcmpSaid : Prop := fnExactEncodeIcmpRow.holds Try.pinned (OpenSpec.ofChange fnExactEncodeIcmpSpec)

/-- ITS FALSE NEIGHBOUR: 'it returns false'. Refute it at one input. -/
def fnExactEncodeIcmpWrong : ChangeSpec := { name := "fnExactEncodeIcmp", fn := fun _ => fun
  | [d] => { results := [.lit (.bool false)], args := [d] }
  | _ => none }
def FnExactEncodeIcmpWrongFalsely : Prop := fnExactEncodeIcmpRow.holds Try.pinned (OpenSpec.ofChange fnExactEncodeIcmpWrong)

/-- 'laws.FnExactShare': WHATEVER THE INPUT: true; the input reads as it did. -/
def fnExactShareSpec : ChangeSpec := { name := "fnExactShare", fn := fun _ => fun
  | [d1, d2, d3, d4] => { results := [.lit (.bool true)], args := [d1, d2, d3, d4] }
  | _ => none }
def fnExactShareRow : OpenClaim := { program := "ytdigkdoihfpdgaa", sum := "c432e96e2a55aa46dd10d2827d50abf056efe801d15344b2a5048fa83d31f789", func := "loop.example/g00003/laws.FnExactShare", spec := "fnExactShare", apart := false }
def FnExactShareSaid : Prop := fnExactShareRow.holds Try.pinned (OpenSpec.ofChange fnExactShareSpec)

/-- ITS FALSE NEIGHBOUR: 'it returns false'. Refute it at one input. -/
def fnExactShareWrong : ChangeSpec := { name := "fnExactShare", fn := fun _ => fun
  | [d1, d2, d3, d4] => { results := [.lit (.bool false)], args := [d1, d2, d3, d4] }
  | _ => none }
def FnExactShareWrongFalsely : Prop := fnExactShareRow.holds Try.pinned (OpenSpec.ofChange fnExactShareWrong)

/-- 'laws.FnExactDecodeIP': WHATEVER THE INPUT: true; the input reads as it did. -/
def fnExactDecodeIPSpec : ChangeSpec := { name := "fnExactDecodeIP", fn := fun _ => fun
  | [d] => { results := [.lit (.bool true)], args := [d] }
  | _ => none }
def fnExactDecodeIPRow : OpenClaim := { program := "ytdigkdoihfpdgaa", sum := "c432e96e2a55aa46dd10d2827d50abf056efe801d15344b2a5048fa83d31f789", func := "loop.example/g00003/laws.FnExactDecodeIP", spec := "fnExactDecodeIP", apart := false }
def FnExactDecodeIPSaid : Prop := fnExactDecodeIPRow.holds Try.pinned (OpenSpec.ofChange fnExactDecodeIPSpec)

/-- ITS FALSE NEIGHBOUR: 'it returns false'. Refute it at one input. -/
def fnExactDecodeIPWrong : ChangeSpec := { name := "fnExactDecodeIP", fn := fun _ => fun
  | [d] => { results := [.lit (.bool false)], args := [d] }
  | _ => none }
def FnExactDecodeIPWrongFalsely : Prop := fnExactDecodeIPRow.holds Try.pinned (OpenSpec.ofChange fnExactDecodeIPWrong)

/-- 'laws.FnLongest': WHATEVER THE INPUT: true; the input reads as it did. -/
def fnLongestSpec : ChangeSpec := { name := "fnLongest", fn := fun _ => fun
  | [d] => { results := [.lit (.bool true)], args := [d] }
  | _ => none }
def fnLongestRow : OpenClaim := { program := "ytdigkdoihfpdgaa", sum := "c432e96e2a55aa46dd10d2827d50abf056efe801d15344b2a5048fa83d31f789", func := "loop.example/g00003/laws.FnLongest", spec := "fnLongest", recurses := true, apart := false }
def FnLongestSaid : Prop := fnLongestRow.holds Try.pinned (OpenSpec.ofChange fnLongestSpec)

/-- ITS FALSE NEIGHBOUR: 'it returns false'. Refute it at one input. -/
def fnLongestWrong : ChangeSpec := { name := "fnLongest", fn := fun _ => fun
  | [d] => { results := [.lit (.bool false)], args := [d] }
  | _ => none }
def FnLongestWrongFalsely : Prop := fnLongestRow.holds Try.pinned (OpenSpec.ofChange fnLongestWrong)

/-- 'laws.FnExactComplain': WHATEVER THE INPUT: true; the input reads as it did. -/
def fnExactComplainSpec : ChangeSpec := { name := "fnExactComplain", fn := fun _ => fun
  | [d1, d2, d3, d4, d5] => { results := [.lit (.bool true)], args := [d1, d2, d3, d4, d5] }
  | _ => none }
def fnExactComplainRow : OpenClaim := { program := "ytdigkdoihfpdgaa", sum := "c432e96e2a55aa46dd10d2827d50abf056efe801d15344b2a5048fa83d31f789", func := "loop.example/g00003/laws.FnExactComplain", spec := "fnExactComplain", apart := false }
def FnExactComplainSaid : Prop := fnExactComplainRow.holds Try.pinned (OpenSpec.ofChange fnExactComplainSpec)

/-- ITS FALSE NEIGHBOUR: 'it returns false'. Refute it at one input. -/
def fnExactComplainWrong : ChangeSpec := { name := "fnExactComplain", fn := fun _ => fun
  | [d1, d2, d3, d4, d5] => { results := [.lit (.bool false)], args := [d1, d2, d3, d4, d5] }
  | _ => none }
def FnExactComplainWrongFalsely : Prop := fnExactComplainRow.holds Try.pinned (OpenSpec.ofChange fnExactComplainWrong)

/-- 'laws.FnExactFragment': WHATEVER THE INPUT: true; the input reads as it did. -/
def fnExactFragmentSpec : ChangeSpec := { name := "fnExactFragment", fn := fun _ => fun
  | [d1, d2] => { results := [.lit (.bool true)], args := [d1, d2] }
  | _ => none }
def fnExactFragmentRow : OpenClaim := { program := "ytdigkdoihfpdgaa", sum := "c432e96e2a55aa46dd10d2827d50abf056efe801d15344b2a5048fa83d31f789", func := "loop.example/g00003/laws.FnExactFragment", spec := "fnExactFragment", apart := false }
def FnExactFragmentSaid : Prop := fnExactFragmentRow.holds Try.pinned (OpenSpec.ofChange fnExactFragmentSpec)

/-- ITS FALSE NEIGHBOUR: 'it returns false'. Refute it at one input. -/
def fnExactFragmentWrong : ChangeSpec := { name := "fnExactFragment", fn := fun _ => fun
  | [d1, d2] => { results := [.lit (.bool false)], args := [d1, d2] }
  | _ => none }
def FnExactFragmentWrongFalsely : Prop := fnExactFragmentRow.holds Try.pinned (OpenSpec.ofChange fnExactFragmentWrong)

/- THE SECOND FORM. 'bulk': how many values and letters a reading holds, each counted each time it is reached (what is shared counts as often as it is met; a slice's spare places count too). A statement '..UptoSaid' is the law's where the arguments, and the package variables that the reading takes, are together of bulk at most 1048576: NARROWER than '..Said'. Prove '..Said' where nothing that the law and all that it calls make is longer than what came in: it says more and counts as full. Else prove '..UptoSaid'. A law counts once. -/
mutual
def uptoBulk {H : Type} : DataW H → Nat
  | .lit (.string bytes) => bytes.length + 1
  | .lit _ => 1
  | .nil => 1
  | .ptr d => uptoBulk d + 1
  | .slice elems spare => uptoBulkAll elems + uptoBulkAll spare + 1
  | .agg parts => uptoBulkAll parts + 1
  | .iface _ d => uptoBulk d + 1
  | .map entries => uptoBulkEntries entries + 1
  | .held _ => 1
def uptoBulkAll {H : Type} : List (DataW H) → Nat
  | [] => 0
  | d :: r => uptoBulk d + uptoBulkAll r
def uptoBulkEntries {H : Type} : List (Lit × DataW H) → Nat
  | [] => 0
  | x :: r => uptoBulkEntry x + uptoBulkEntries r
def uptoBulkEntry {H : Type} : Lit × DataW H → Nat
  | (.string bytes, d) => bytes.length + uptoBulk d + 1
  | (_, d) => uptoBulk d + 1
 end
def uptoSmall : (H : Type) → List (DataW H) → Bool := fun _ ds => decide (uptoBulkAll ds ≤ 1048576)
def OpenSpec.upto (s : _root_.Go.ChangeSpec) : _root_.Go.OpenSpec := { _root_.Go.OpenSpec.ofChange s with cond := some uptoSmall }

/-- 'laws.FnPatch', WHERE WHAT IT READS IS OF BULK AT MOST 1048576: true; the input reads as it did. -/
def fnPatchUptoRow : OpenClaim := { program := "ytdigkdoihfpdgaa", sum := "c432e96e2a55aa46dd10d2827d50abf056efe801d15344b2a5048fa83d31f789", func := "loop.example/g00003/laws.FnPatch", spec := "fnPatch", apart := false, narrowed := true }
def FnPatchUptoSaid : Prop := fnPatchUptoRow.holds Try.pinned (OpenSpec.upto fnPatchSpec)

/-- 'laws.FnWindow', WHERE WHAT IT READS IS OF BULK AT MOST 1048576: true; the input reads as it did. -/
def fnWindowUptoRow : OpenClaim := { program := "ytdigkdoihfpdgaa", sum := "c432e96e2a55aa46dd10d2827d50abf056efe801d15344b2a5048fa83d31f789", func := "loop.example/g00003/laws.FnWindow", spec := "fnWindow", apart := false, narrowed := true }
def FnWindowUptoSaid : Prop := fnWindowUptoRow.holds Try.pinned (OpenSpec.upto fnWindowSpec)

/-- 'laws.FnExactDecodeArp', WHERE WHAT IT READS IS OF BULK AT MOST 1048576: true; the input reads as it did. -/
def fnExactDecodeArpUptoRow : OpenClaim := { program := "ytdigkdoihfpdgaa", sum := "c432e96e2a55aa46dd10d2827d50abf056efe801d15344b2a5048fa83d31f789", func := "loop.example/g00003/laws.FnExactDecodeArp", spec := "fnExactDecodeArp", apart := false, narrowed := true }
def FnExactDecodeArpUptoSaid : Prop := fnExactDecodeArpUptoRow.holds Try.pinned (OpenSpec.upto fnExactDecodeArpSpec)

/-- 'laws.FnFair', WHERE WHAT IT READS IS OF BULK AT MOST 1048576: true; the input reads as it did. -/
def fnFairUptoRow : OpenClaim := { program := "ytdigkdoihfpdgaa", sum := "c432e96e2a55aa46dd10d2827d50abf056efe801d15344b2a5048fa83d31f789", func := "loop.example/g00003/laws.FnFair", spec := "fnFair", apart := false, narrowed := true }
def FnFairUptoSaid : Prop := fnFairUptoRow.holds Try.pinned (OpenSpec.upto fnFairSpec)

/-- 'laws.FnExactReadQuote', WHERE WHAT IT READS IS OF BULK AT MOST 1048576: true; the input reads as it did. -/
def fnExactReadQuoteUptoRow : OpenClaim := { program := "ytdigkdoihfpdgaa", sum := "c432e96e2a55aa46dd10d2827d50abf056efe801d15344b2a5048fa83d31f789", func := "loop.example/g00003/laws.FnExactReadQuote", spec := "fnExactReadQuote", apart := false, narrowed := true }
def FnExactReadQuoteUptoSaid : Prop := fnExactReadQuoteUptoRow.holds Try.pinned (OpenSpec.upto fnExactReadQuoteSpec)

/-- 'laws.FnExactEncodeIcmp', WHERE WHAT IT READS IS OF BULK AT MOST 1048576: true; the input reads as it did. -/
def fnExactEncodeIcmpUptoRow : OpenClaim := { program := "ytdigkdoihfpdgaa", sum := "c432e96e2a55aa46dd10d2827d50abf056efe801d15344b2a5048fa83d31f789", func := "loop.example/g00003/laws.FnExactEncodeIcmp", spec := "fnExactEncodeIcmp", apart := false, narrowed := true }
def FnExactEncodeIcmpUptoSaid : Prop := fnExactEncodeIcmpUptoRow.holds Try.pinned (OpenSpec.upto fnExactEncodeIcmpSpec)

/-- 'laws.FnExactShare', WHERE WHAT IT READS IS OF BULK AT MOST 1048576: true; the input reads as it did. -/
def fnExactShareUptoRow : OpenClaim := { program := "ytdigkdoihfpdgaa", sum := "c432e96e2a55aa46dd10d2827d50abf056efe801d15344b2a5048fa83d31f789", func := "loop.example/g00003/laws.FnExactShare", spec := "fnExactShare", apart := false, narrowed := true }
def FnExactShareUptoSaid : Prop := fnExactShareUptoRow.holds Try.pinned (OpenSpec.upto fnExactShareSpec)

/-- 'laws.FnExactDecodeIP', WHERE WHAT IT READS IS OF BULK AT MOST 1048576: true; the input reads as it did. -/
def fnExactDecodeIPUptoRow : OpenClaim := { program := "ytdigkdoihfpdgaa", sum := "c432e96e2a55aa46dd10d2827d50abf056efe801d15344b2a5048fa83d31f789", func := "loop.example/g00003/laws.FnExactDecodeIP", spec := "fnExactDecodeIP", apart := false, narrowed := true }
def FnExactDecodeIPUptoSaid : Prop := fnExactDecodeIPUptoRow.holds Try.pinned (OpenSpec.upto fnExactDecodeIPSpec)

/-- 'laws.FnLongest', WHERE WHAT IT READS IS OF BULK AT MOST 1048576: true; the input reads as it did. -/
def fnLongestUptoRow : OpenClaim := { program := "ytdigkdoihfpdgaa", sum := "c432e96e2a55aa46dd10d2827d50abf056efe801d15344b2a5048fa83d31f789", func := "loop.example/g00003/laws.FnLongest", spec := "fnLongest", recurses := true, apart := false, narrowed := true }
def FnLongestUptoSaid : Prop := fnLongestUptoRow.holds Try.pinned (OpenSpec.upto fnLongestSpec)

/-- 'laws.FnExactComplain', WHERE WHAT IT READS IS OF BULK AT MOST 1048576: true; the input reads as it did. -/
def fnExactComplainUptoRow : OpenClaim := { program := "ytdigkdoihfpdgaa", sum := "c432e96e2a55aa46dd10d2827d50abf056efe801d15344b2a5048fa83d31f789", func := "loop.example/g00003/laws.FnExactComplain", spec := "fnExactComplain", apart := false, narrowed := true }
def FnExactComplainUptoSaid : Prop := fnExactComplainUptoRow.holds Try.pinned (OpenSpec.upto fnExactComplainSpec)

/-- 'laws.FnExactFragment', WHERE WHAT IT READS IS OF BULK AT MOST 1048576: true; the input reads as it did. -/
def fnExactFragmentUptoRow : OpenClaim := { program := "ytdigkdoihfpdgaa", sum := "c432e96e2a55aa46dd10d2827d50abf056efe801d15344b2a5048fa83d31f789", func := "loop.example/g00003/laws.FnExactFragment", spec := "fnExactFragment", apart := false, narrowed := true }
def FnExactFragmentUptoSaid : Prop := fnExactFragmentUptoRow.holds Try.pinned (OpenSpec.upto fnExactFragmentSpec)

end Rows
end Go.Proofs.Ytdigkdoihfpdgaa
