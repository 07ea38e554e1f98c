/-
  No cell of these rows narrows 'for every input' (looked for: loops, veiled, ifaces, maps, wideKeys, modest, calm, conditions, laid).
  DERIVED. THE GIVEN ROWS OF THIS SEAT. 11 by the template 'for every input the law returns true; each argument reads behind the call as it read before'; 0 by the template 'total and deterministic' (their statements: YtoelghcldfjdmaaTotals.lean).
  GIVEN WITH THE SEED: the statements are not yours to turn. If you find one false, say at which input.
  Laid BY PROGRAM, IN A SANDBOX (cutbox-rows.mjs): the forced cells as the released guide's own fill.sh prints them over the translation f74cbe78368463e7… (all of the seat's roots in one cut). By AI agents, Wed Nov 11 2026. No macro, syntax, notation, axiom, sorry.
-/
import Derived.Test.YtoelghcldfjdmaaChecked
import GoSem.Claim
import GoSem.ClaimJoined
import GoSem.ClaimMapViews
import Derived.JoinedTies
import Derived.KernelRfl
namespace Go.Proofs.Ytoelghcldfjdmaa
/- THE CELL 'sum', in the pinned program and in every row, IS THE sha256 OF THE DUMP (.gsa) THAT YtoelghcldfjdmaaProg.lean LOADS. Nothing in Lean hashes anything: it is a label: what it is worth is what the hold of that sum in a sandbox is worth. -/
noncomputable def Try.pinned : Pinned := { name := "ytoelghcldfjdmaa", sum := "f74cbe78368463e7e546e77d438493d73e9419d8b526d52ec0714417167ed28a", checked := Try.checked }
namespace Rows
def none {H : Type} : Left H := { results := [], args := [] }

/-- 'laws.FnExactConstants': WHATEVER THE INPUT: true; the input reads as it did. -/
def fnExactConstantsSpec : ChangeSpec := { name := "fnExactConstants", fn := fun _ => fun
  | [] => { results := [.lit (.bool true)], args := [] }
  | _ => none }
def fnExactConstantsRow : OpenClaim := { program := "ytoelghcldfjdmaa", sum := "f74cbe78368463e7e546e77d438493d73e9419d8b526d52ec0714417167ed28a", func := "loop.example/g00003/laws.FnExactConstants", spec := "fnExactConstants", apart := false }
def FnExactConstantsSaid : Prop := fnExactConstantsRow.holds Try.pinned (OpenSpec.ofChange fnExactConstantsSpec)

/-- ITS FALSE NEIGHBOUR: 'it returns false'. Refute it at one input. -/
def fnExactConstantsWrong : ChangeSpec := { name := "fnExactConstants", fn := fun _ => fun
  | [] => { results := [.lit (.bool false)], args := [] }
  | _ => none }
def FnExactConstantsWrongFalsely : Prop := fnExactConstantsRow.holds Try.pinned (OpenSpec.ofChange fnExactConstantsWrong)

/-- 'laws.FnExactSeqAdd': WHATEVER THE INPUT: true; the input reads as it did. -/
def fnExactSeqAddSpec : ChangeSpec := { name := "fnExactSeqAdd", fn := fun _ => fun
  | [d1, d2] => { results := [.lit (.bool true)], args := [d1, d2] }
  | _ => none }
def fnExactSeqAddRow : OpenClaim := { program := "ytoelghcldfjdmaa", sum := "f74cbe78368463e7e546e77d438493d73e9419d8b526d52ec0714417167ed28a", func := "loop.example/g00003/laws.FnExactSeqAdd", spec := "fnExactSeqAdd", apart := false }
def FnExactSeqAddSaid : Prop := fnExactSeqAddRow.holds Try.pinned (OpenSpec.ofChange fnExactSeqAddSpec)

/-- ITS FALSE NEIGHBOUR: 'it returns false'. Refute it at one input. -/
def fnExactSeqAddWrong : ChangeSpec := { name := "fnExactSeqAdd", fn := fun _ => fun
  | [d1, d2] => { results := [.lit (.bool false)], args := [d1, d2] }
  | _ => none }
def FnExactSeqAddWrongFalsely : Prop := fnExactSeqAddRow.holds Try.pinned (OpenSpec.ofChange fnExactSeqAddWrong)

/-- 'laws.FnExactInWindow': WHATEVER THE INPUT: true; the input reads as it did. -/
def fnExactInWindowSpec : ChangeSpec := { name := "fnExactInWindow", fn := fun _ => fun
  | [d1, d2, d3] => { results := [.lit (.bool true)], args := [d1, d2, d3] }
  | _ => none }
def fnExactInWindowRow : OpenClaim := { program := "ytoelghcldfjdmaa", sum := "f74cbe78368463e7e546e77d438493d73e9419d8b526d52ec0714417167ed28a", func := "loop.example/g00003/laws.FnExactInWindow", spec := "fnExactInWindow", apart := false }
def FnExactInWindowSaid : Prop := fnExactInWindowRow.holds Try.pinned (OpenSpec.ofChange fnExactInWindowSpec)

/-- ITS FALSE NEIGHBOUR: 'it returns false'. Refute it at one input. -/
def fnExactInWindowWrong : ChangeSpec := { name := "fnExactInWindow", fn := fun _ => fun
  | [d1, d2, d3] => { results := [.lit (.bool false)], args := [d1, d2, d3] }
  | _ => none }
def FnExactInWindowWrongFalsely : Prop := fnExactInWindowRow.holds Try.pinned (OpenSpec.ofChange fnExactInWindowWrong)

/-- 'laws.FnExactSeqDiff': WHATEVER THE INPUT: true; the input reads as it did. -/
def fnExactSeqDiffSpec : ChangeSpec := { name := "fnExactSeqDiff", fn := fun _ => fun
  | [d1, d2] => { results := [.lit (.bool true)], args := [d1, d2] }
  | _ => none }
def fnExactSeqDiffRow : OpenClaim := { program := "ytoelghcldfjdmaa", sum := "f74cbe78368463e7e546e77d438493d73e9419d8b526d52ec0714417167ed28a", func := "loop.example/g00003/laws.FnExactSeqDiff", spec := "fnExactSeqDiff", apart := false }
def FnExactSeqDiffSaid : Prop := fnExactSeqDiffRow.holds Try.pinned (OpenSpec.ofChange fnExactSeqDiffSpec)

/-- ITS FALSE NEIGHBOUR: 'it returns false'. Refute it at one input. -/
def fnExactSeqDiffWrong : ChangeSpec := { name := "fnExactSeqDiff", fn := fun _ => fun
  | [d1, d2] => { results := [.lit (.bool false)], args := [d1, d2] }
  | _ => none }
def FnExactSeqDiffWrongFalsely : Prop := fnExactSeqDiffRow.holds Try.pinned (OpenSpec.ofChange fnExactSeqDiffWrong)

/-- 'laws.FnExactSeqLeq': WHATEVER THE INPUT: true; the input reads as it did. -/
def fnExactSeqLeqSpec : ChangeSpec := { name := "fnExactSeqLeq", fn := fun _ => fun
  | [d1, d2] => { results := [.lit (.bool true)], args := [d1, d2] }
  | _ => none }
def fnExactSeqLeqRow : OpenClaim := { program := "ytoelghcldfjdmaa", sum := "f74cbe78368463e7e546e77d438493d73e9419d8b526d52ec0714417167ed28a", func := "loop.example/g00003/laws.FnExactSeqLeq", spec := "fnExactSeqLeq", apart := false }
def FnExactSeqLeqSaid : Prop := fnExactSeqLeqRow.holds Try.pinned (OpenSpec.ofChange fnExactSeqLeqSpec)

/-- ITS FALSE NEIGHBOUR: 'it returns false'. Refute it at one input. -/
def fnExactSeqLeqWrong : ChangeSpec := { name := "fnExactSeqLeq", fn := fun _ => fun
  | [d1, d2] => { results := [.lit (.bool false)], args := [d1, d2] }
  | _ => none }
def FnExactSeqLeqWrongFalsely : Prop := fnExactSeqLeqRow.holds Try.pinned (OpenSpec.ofChange fnExactSeqLeqWrong)

/-- 'laws.FnExactSeqLess': WHATEVER THE INPUT: true; the input reads as it did. -/
def fnExactSeqLessSpec : ChangeSpec := { name := "fnExactSeqLess", fn := fun _ => fun
  | [d1, d2] => { results := [.lit (.bool true)], args := [d1, d2] }
  | _ => none }
def fnExactSeqLessRow : OpenClaim := { program := "ytoelghcldfjdmaa", sum := "f74cbe78368463e7e546e77d438493d73e9419d8b526d52ec0714417167ed28a", func := "loop.example/g00003/laws.FnExactSeqLess", spec := "fnExactSeqLess", apart := false }
def FnExactSeqLessSaid : Prop := fnExactSeqLessRow.holds Try.pinned (OpenSpec.ofChange fnExactSeqLessSpec)

/-- ITS FALSE NEIGHBOUR: 'it returns false'. Refute it at one input. -/
def fnExactSeqLessWrong : ChangeSpec := { name := "fnExactSeqLess", fn := fun _ => fun
  | [d1, d2] => { results := [.lit (.bool false)], args := [d1, d2] }
  | _ => none }
def FnExactSeqLessWrongFalsely : Prop := fnExactSeqLessRow.holds Try.pinned (OpenSpec.ofChange fnExactSeqLessWrong)

/-- 'laws.FnExactChecksumPatch': WHATEVER THE INPUT: true; the input reads as it did. -/
def fnExactChecksumPatchSpec : ChangeSpec := { name := "fnExactChecksumPatch", fn := fun _ => fun
  | [d1, d2, d3] => { results := [.lit (.bool true)], args := [d1, d2, d3] }
  | _ => none }
def fnExactChecksumPatchRow : OpenClaim := { program := "ytoelghcldfjdmaa", sum := "f74cbe78368463e7e546e77d438493d73e9419d8b526d52ec0714417167ed28a", func := "loop.example/g00003/laws.FnExactChecksumPatch", spec := "fnExactChecksumPatch", apart := false }
def FnExactChecksumPatchSaid : Prop := fnExactChecksumPatchRow.holds Try.pinned (OpenSpec.ofChange fnExactChecksumPatchSpec)

/-- ITS FALSE NEIGHBOUR: 'it returns false'. Refute it at one input. -/
def fnExactChecksumPatchWrong : ChangeSpec := { name := "fnExactChecksumPatch", fn := fun _ => fun
  | [d1, d2, d3] => { results := [.lit (.bool false)], args := [d1, d2, d3] }
  | _ => none }
def FnExactChecksumPatchWrongFalsely : Prop := fnExactChecksumPatchRow.holds Try.pinned (OpenSpec.ofChange fnExactChecksumPatchWrong)

/-- 'laws.FnExactNewRto': WHATEVER THE INPUT: true; the input reads as it did. -/
def fnExactNewRtoSpec : ChangeSpec := { name := "fnExactNewRto", fn := fun _ => fun
  | [] => { results := [.lit (.bool true)], args := [] }
  | _ => none }
def fnExactNewRtoRow : OpenClaim := { program := "ytoelghcldfjdmaa", sum := "f74cbe78368463e7e546e77d438493d73e9419d8b526d52ec0714417167ed28a", func := "loop.example/g00003/laws.FnExactNewRto", spec := "fnExactNewRto", apart := false }
def FnExactNewRtoSaid : Prop := fnExactNewRtoRow.holds Try.pinned (OpenSpec.ofChange fnExactNewRtoSpec)

/-- ITS FALSE NEIGHBOUR: 'it returns false'. Refute it at one input. -/
def fnExactNewRtoWrong : ChangeSpec := { name := "fnExactNewRto", fn := fun _ => fun
  | [] => { results := [.lit (.bool false)], args := [] }
  | _ => none }
def FnExactNewRtoWrongFalsely : Prop := fnExactNewRtoRow.holds Try.pinned (OpenSpec.ofChange fnExactNewRtoWrong)

/-- 'laws.FnExactPrefixHas': WHATEVER THE INPUT: true; the input reads as it did. -/
def fnExactPrefixHasSpec : ChangeSpec := { name := "fnExactPrefixHas", fn := fun _ => fun
  | [d1, d2] => { results := [.lit (.bool true)], args := [d1, d2] }
  | _ => none }
def fnExactPrefixHasRow : OpenClaim := { program := "ytoelghcldfjdmaa", sum := "f74cbe78368463e7e546e77d438493d73e9419d8b526d52ec0714417167ed28a", func := "loop.example/g00003/laws.FnExactPrefixHas", spec := "fnExactPrefixHas", apart := false }
def FnExactPrefixHasSaid : Prop := fnExactPrefixHasRow.holds Try.pinned (OpenSpec.ofChange fnExactPrefixHasSpec)

/-- ITS FALSE NEIGHBOUR: 'it returns false'. Refute it at one input. -/
def fnExactPrefixHasWrong : ChangeSpec := { name := "fnExactPrefixHas", fn := fun _ => fun
  | [d1, d2] => { results := [.lit (.bool false)], args := [d1, d2] }
  | _ => none }
def FnExactPrefixHasWrongFalsely : Prop := fnExactPrefixHasRow.holds Try.pinned (OpenSpec.ofChange fnExactPrefixHasWrong)

/-- 'laws.FnExactBroadcast': WHATEVER THE INPUT: true; the input reads as it did. -/
def fnExactBroadcastSpec : ChangeSpec := { name := "fnExactBroadcast", fn := fun _ => fun
  | [d] => { results := [.lit (.bool true)], args := [d] }
  | _ => none }
def fnExactBroadcastRow : OpenClaim := { program := "ytoelghcldfjdmaa", sum := "f74cbe78368463e7e546e77d438493d73e9419d8b526d52ec0714417167ed28a", func := "loop.example/g00003/laws.FnExactBroadcast", spec := "fnExactBroadcast", apart := false }
def FnExactBroadcastSaid : Prop := fnExactBroadcastRow.holds Try.pinned (OpenSpec.ofChange fnExactBroadcastSpec)

/-- ITS FALSE NEIGHBOUR: 'it returns false'. Refute it at one input. -/
def fnExactBroadcastWrong : ChangeSpec := { name := "fnExactBroadcast", fn := fun _ => fun
  | [d] => { results := [.lit (.bool false)], args := [d] }
  | _ => none }
def FnExactBroadcastWrongFalsely : Prop := fnExactBroadcastRow.holds Try.pinned (OpenSpec.ofChange fnExactBroadcastWrong)

/-- 'laws.FnExactAddrKind': WHATEVER THE INPUT: true; the input reads as it did. -/
def fnExactAddrKindSpec : ChangeSpec := { name := "fnExactAddrKind", fn := fun _ => fun
  | [d] => { results := [.lit (.bool true)], args := [d] }
  | _ => none }
def fnExactAddrKindRow : OpenClaim := { program := "ytoelghcldfjdmaa", sum := "f74cbe78368463e7e546e77d438493d73e9419d8b526d52ec0714417167ed28a", func := "loop.example/g00003/laws.FnExactAddrKind", spec := "fnExactAddrKind", apart := false }
def FnExactAddrKindSaid : Prop := fnExactAddrKindRow.holds Try.pinned (OpenSpec.ofChange fnExactAddrKindSpec)

/-- ITS FALSE NEIGHBOUR: 'it returns false'. Refute it at one input. -/
def fnExactAddrKindWrong : ChangeSpec := { name := "fnExactAddrKind", fn := fun _ => fun
  | [d] => { results := [.lit (.bool false)], args := [d] }
  | _ => none }
def FnExactAddrKindWrongFalsely : Prop := fnExactAddrKindRow.holds Try.pinned (OpenSpec.ofChange fnExactAddrKindWrong)

/- THE SECOND FORM. 'bulk': how many values and letters a reading holds, each counted each time it is reached (what is shared counts as often as it is met; a slice's spare places count too). A statement '..UptoSaid' is the law's where the arguments, and the package variables that the reading takes, are together of bulk at most 1048576: NARROWER than '..Said'. Prove '..Said' where nothing that the law and all that it calls make is longer than what came in: it says more and counts as full. Else prove '..UptoSaid'. A law counts once. -/
mutual
def uptoBulk {H : Type} : DataW H → Nat
  | .lit (.string bytes) => bytes.length + 1
  | .lit _ => 1
  | .nil => 1
  | .ptr d => uptoBulk d + 1
  | .slice elems spare => uptoBulkAll elems + uptoBulkAll spare + 1
  | .agg parts => uptoBulkAll parts + 1
  | .iface _ d => uptoBulk d + 1
  | .map entries => uptoBulkEntries entries + 1
  | .held _ => 1
def uptoBulkAll {H : Type} : List (DataW H) → Nat
  | [] => 0
  | d :: r => uptoBulk d + uptoBulkAll r
def uptoBulkEntries {H : Type} : List (Lit × DataW H) → Nat
  | [] => 0
  | x :: r => uptoBulkEntry x + uptoBulkEntries r
def uptoBulkEntry {H : Type} : Lit × DataW H → Nat
  | (.string bytes, d) => bytes.length + uptoBulk d + 1
  | (_, d) => uptoBulk d + 1
 end
def uptoSmall : (H : Type) → List (DataW H) → Bool := fun _ ds => decide (uptoBulkAll ds ≤ 1048576)
def OpenSpec.upto (s : _root_.Go.ChangeSpec) : _root_.Go.OpenSpec := { _root_.Go.OpenSpec.ofChange s with cond := some uptoSmall }

/-- 'laws.FnExactConstants', WHERE WHAT IT READS IS OF BULK AT MOST 1048576: true; the input reads as it did. -/
def fnExactConstantsUptoRow : OpenClaim := { program := "ytoelghcldfjdmaa", sum := "f74cbe78368463e7e546e77d438493d73e9419d8b526d52ec0714417167ed28a", func := "loop.example/g00003/laws.FnExactConstants", spec := "fnExactConstants", apart := false, narrowed := true }
def FnExactConstantsUptoSaid : Prop := fnExactConstantsUptoRow.holds Try.pinned (OpenSpec.upto fnExactConstantsSpec)

/-- 'laws.FnExactSeqAdd', WHERE WHAT IT READS IS OF BULK AT MOST 1048576: true; the input reads as it did. -/
def fnExactSeqAddUptoRow : OpenClaim := { program := "ytoelghcldfjdmaa", sum := "f74cbe78368463e7e546e77d438493d73e9419d8b526d52ec0714417167ed28a", func := "loop.example/g00003/laws.FnExactSeqAdd", spec := "fnExactSeqAdd", apart := false, narrowed := true }
def FnExactSeqAddUptoSaid : Prop := fnExactSeqAddUptoRow.holds Try.pinned (OpenSpec.upto fnExactSeqAddSpec)

/-- 'laws.FnExactInWindow', WHERE WHAT IT READS IS OF BULK AT MOST 1048576: true; the input reads as it did. -/
def fnExactInWindowUptoRow : OpenClaim := { program := "ytoelghcldfjdmaa", sum := "f74cbe78368463e7e546e77d438493d73e9419d8b526d52ec0714417167ed28a", func := "loop.example/g00003/laws.FnExactInWindow", spec := "fnExactInWindow", apart := false, narrowed := true }
def FnExactInWindowUptoSaid : Prop := fnExactInWindowUptoRow.holds Try.pinned (OpenSpec.upto fnExactInWindowSpec)

/-- 'laws.FnExactSeqDiff', WHERE WHAT IT READS IS OF BULK AT MOST 1048576: true; the input reads as it did. -/
def fnExactSeqDiffUptoRow : OpenClaim := { program := "ytoelghcldfjdmaa", sum := "f74cbe78368463e7e546e77d438493d73e9419d8b526d52ec0714417167ed28a", func := "loop.example/g00003/laws.FnExactSeqDiff", spec := "fnExactSeqDiff", apart := false, narrowed := true }
def FnExactSeqDiffUptoSaid : Prop := fnExactSeqDiffUptoRow.holds Try.pinned (OpenSpec.upto fnExactSeqDiffSpec)

/-- 'laws.FnExactSeqLeq', WHERE WHAT IT READS IS OF BULK AT MOST 1048576: true; the input reads as it did. -/
def fnExactSeqLeqUptoRow : OpenClaim := { program := "ytoelghcldfjdmaa", sum := "f74cbe78368463e7e546e77d438493d73e9419d8b526d52ec0714417167ed28a", func := "loop.example/g00003/laws.FnExactSeqLeq", spec := "fnExactSeqLeq", apart := false, narrowed := true }
def FnExactSeqLeqUptoSaid : Prop := fnExactSeqLeqUptoRow.holds Try.pinned (OpenSpec.upto fnExactSeqLeqSpec)

/-- 'laws.FnExactSeqLess', WHERE WHAT IT READS IS OF BULK AT MOST 1048576: true; the input reads as it did. -/
def fnExactSeqLessUptoRow : OpenClaim := { program := "ytoelghcldfjdmaa", sum := "f74cbe78368463e7e546e77d438493d73e9419d8b526d52ec0714417167ed28a", func := "loop.example/g00003/laws.FnExactSeqLess", spec := "fnExactSeqLess", apart := false, narrowed := true }
def FnExactSeqLessUptoSaid : Prop := fnExactSeqLessUptoRow.holds Try.pinned (OpenSpec.upto fnExactSeqLessSpec)

/-- 'laws.FnExactChecksumPatch', WHERE WHAT IT READS IS OF BULK AT MOST 1048576: true; the input reads as it did. -/
def fnExactChecksumPatchUptoRow : OpenClaim := { program := "ytoelghcldfjdmaa", sum := "f74cbe78368463e7e546e77d438493d73e9419d8b526d52ec0714417167ed28a", func := "loop.example/g00003/laws.FnExactChecksumPatch", spec := "fnExactChecksumPatch", apart := false, narrowed := true }
def FnExactChecksumPatchUptoSaid : Prop := fnExactChecksumPatchUptoRow.holds Try.pinned (OpenSpec.upto fnExactChecksumPatchSpec)

/-- 'laws.FnExactNewRto', WHERE WHAT IT READS IS OF BULK AT MOST 1048576: true; the input reads as it did. -/
def fnExactNewRtoUptoRow : OpenClaim := { program := "ytoelghcldfjdmaa", sum := "f74cbe78368463e7e546e77d438493d73e9419d8b526d52ec0714417167ed28a", func := "loop.example/g00003/laws.FnExactNewRto", spec := "fnExactNewRto", apart := false, narrowed := true }
def FnExactNewRtoUptoSaid : Prop := fnExactNewRtoUptoRow.holds Try.pinned (OpenSpec.upto fnExactNewRtoSpec)

/-- 'laws.FnExactPrefixHas', WHERE WHAT IT READS IS OF BULK AT MOST 1048576: true; the input reads as it did. -/
def fnExactPrefixHasUptoRow : OpenClaim := { program := "ytoelghcldfjdmaa", sum := "f74cbe78368463e7e546e77d438493d73e9419d8b526d52ec0714417167ed28a", func := "loop.example/g00003/laws.FnExactPrefixHas", spec := "fnExactPrefixHas", apart := false, narrowed := true }
def FnExactPrefixHasUptoSaid : Prop := fnExactPrefixHasUptoRow.holds Try.pinned (OpenSpec.upto fnExactPrefixHasSpec)

/-- 'laws.FnExactBroadcast', WHERE WHAT IT READS IS OF BULK AT MOST 1048576: true; the input reads as it did. -/
def fnExactBroadcastUptoRow : OpenClaim := { program := "ytoelghcldfjdmaa", sum := "f74cbe78368463e7e546e77d438493d73e9419d8b526d52ec0714417167ed28a", func := "loop.example/g00003/laws.FnExactBroadcast", spec := "fnExactBroadcast", apart := false, narrowed := true }
def FnExactBroadcastUptoSaid : Prop := fnExactBroadcastUptoRow.holds Try.pinned (OpenSpec.upto fnExactBroadcastSpec)

/-- 'laws.FnExactAddrKind', WHERE WHAT IT READS IS OF BULK AT MOST 1048576: true; the input reads as it did. -/
def fnExactAddrKindUptoRow : OpenClaim := { program := "ytoelghcldfjdmaa", sum := "f74cbe78368463e7e546e77d438493d73e9419d8b526d52ec0714417167ed28a", func := "loop.example/g00003/laws.FnExactAddrKind", spec := "fnExactAddrKind", apart := false, narrowed := true }
def FnExactAddrKindUptoSaid : Prop := fnExactAddrKindUptoRow.holds Try.pinned (OpenSpec.upto fnExactAddrKindSpec)

end Rows
end Go.Proofs.Ytoelghcldfjdmaa
