/-
  No cell of these rows narrows 'for every input' (looked for: loops, veiled, ifaces, maps, wideKeys, modest, calm, conditions, laid).
  DERIVED. THE GIVEN ROWS OF THIS SEAT. 12 by the template 'for every input the law returns true; each argument reads behind the call as it read before'; 0 by the template 'total and deterministic' (their statements: YtmjmoeehcblnkaaTotals.lean).
  GIVEN WITH THE SEED: the statements are not yours to turn. If you find one false, say at which input.
  Laid BY PROGRAM, IN A SANDBOX (cutbox-rows.mjs): the forced cells as the released guide's own fill.sh prints them over the translation 7f4c3ef3969f87ea… (all of the seat's roots in one cut). By AI agents, Wed Nov 11 2026. No macro, syntax, notation, axiom, sorry.
-/
import Derived.Test.YtmjmoeehcblnkaaChecked
import GoSem.Claim
import GoSem.ClaimJoined
import GoSem.ClaimMapViews
import Derived.JoinedTies
import Derived.KernelRfl
namespace Go.Proofs.Ytmjmoeehcblnkaa
/- THE CELL 'sum', in the pinned program and in every row, IS THE sha256 OF THE DUMP (.gsa) THAT YtmjmoeehcblnkaaProg.lean LOADS. Nothing in Lean hashes anything: it is a label: what it is worth is what the hold of that sum in a sandbox is worth. -/
noncomputable def Try.pinned : Pinned := { name := "ytmjmoeehcblnkaa", sum := "7f4c3ef3969f87eaffbbd973cef30c610379230a007247301ed6c69d1d8215f1", checked := Try.checked }
namespace Rows
def none {H : Type} : Left H := { results := [], args := [] }

/-- 'laws.FnExactNewCong': WHATEVER THE INPUT: true; the input reads as it did. -/
def fnExactNewCongSpec : ChangeSpec := { name := "fnExactNewCong", fn := fun _ => fun
  | [d] => { results := [.lit (.bool true)], args := [d] }
  | _ => none }
def fnExactNewCongRow : OpenClaim := { program := "ytmjmoeehcblnkaa", sum := "7f4c3ef3969f87eaffbbd973cef30c610379230a007247301ed6c69d1d8215f1", func := "loop.example/g00003/laws.FnExactNewCong", spec := "fnExactNewCong", apart := false }
def FnExactNewCongSaid : Prop := fnExactNewCongRow.holds Try.pinned (OpenSpec.ofChange fnExactNewCongSpec)

/-- ITS FALSE NEIGHBOUR: 'it returns false'. Refute it at one input. -/
def fnExactNewCongWrong : ChangeSpec := { name := "fnExactNewCong", fn := fun _ => fun
  | [d] => { results := [.lit (.bool false)], args := [d] }
  | _ => none }
def FnExactNewCongWrongFalsely : Prop := fnExactNewCongRow.holds Try.pinned (OpenSpec.ofChange fnExactNewCongWrong)

/-- 'laws.FnExactCongMss': WHATEVER THE INPUT: true; the input reads as it did. -/
def fnExactCongMssSpec : ChangeSpec := { name := "fnExactCongMss", fn := fun _ => fun
  | [d1, d2] => { results := [.lit (.bool true)], args := [d1, d2] }
  | _ => none }
def fnExactCongMssRow : OpenClaim := { program := "ytmjmoeehcblnkaa", sum := "7f4c3ef3969f87eaffbbd973cef30c610379230a007247301ed6c69d1d8215f1", func := "loop.example/g00003/laws.FnExactCongMss", spec := "fnExactCongMss", apart := false }
def FnExactCongMssSaid : Prop := fnExactCongMssRow.holds Try.pinned (OpenSpec.ofChange fnExactCongMssSpec)

/-- ITS FALSE NEIGHBOUR: 'it returns false'. Refute it at one input. -/
def fnExactCongMssWrong : ChangeSpec := { name := "fnExactCongMss", fn := fun _ => fun
  | [d1, d2] => { results := [.lit (.bool false)], args := [d1, d2] }
  | _ => none }
def FnExactCongMssWrongFalsely : Prop := fnExactCongMssRow.holds Try.pinned (OpenSpec.ofChange fnExactCongMssWrong)

/-- 'laws.FnExactCongLoss': WHATEVER THE INPUT: true; the input reads as it did. -/
def fnExactCongLossSpec : ChangeSpec := { name := "fnExactCongLoss", fn := fun _ => fun
  | [d1, d2] => { results := [.lit (.bool true)], args := [d1, d2] }
  | _ => none }
def fnExactCongLossRow : OpenClaim := { program := "ytmjmoeehcblnkaa", sum := "7f4c3ef3969f87eaffbbd973cef30c610379230a007247301ed6c69d1d8215f1", func := "loop.example/g00003/laws.FnExactCongLoss", spec := "fnExactCongLoss", apart := false }
def FnExactCongLossSaid : Prop := fnExactCongLossRow.holds Try.pinned (OpenSpec.ofChange fnExactCongLossSpec)

/-- ITS FALSE NEIGHBOUR: 'it returns false'. Refute it at one input. -/
def fnExactCongLossWrong : ChangeSpec := { name := "fnExactCongLoss", fn := fun _ => fun
  | [d1, d2] => { results := [.lit (.bool false)], args := [d1, d2] }
  | _ => none }
def FnExactCongLossWrongFalsely : Prop := fnExactCongLossRow.holds Try.pinned (OpenSpec.ofChange fnExactCongLossWrong)

/-- 'laws.FnExactRtoBackoff': WHATEVER THE INPUT: true; the input reads as it did. -/
def fnExactRtoBackoffSpec : ChangeSpec := { name := "fnExactRtoBackoff", fn := fun _ => fun
  | [d] => { results := [.lit (.bool true)], args := [d] }
  | _ => none }
def fnExactRtoBackoffRow : OpenClaim := { program := "ytmjmoeehcblnkaa", sum := "7f4c3ef3969f87eaffbbd973cef30c610379230a007247301ed6c69d1d8215f1", func := "loop.example/g00003/laws.FnExactRtoBackoff", spec := "fnExactRtoBackoff", apart := false }
def FnExactRtoBackoffSaid : Prop := fnExactRtoBackoffRow.holds Try.pinned (OpenSpec.ofChange fnExactRtoBackoffSpec)

/-- ITS FALSE NEIGHBOUR: 'it returns false'. Refute it at one input. -/
def fnExactRtoBackoffWrong : ChangeSpec := { name := "fnExactRtoBackoff", fn := fun _ => fun
  | [d] => { results := [.lit (.bool false)], args := [d] }
  | _ => none }
def FnExactRtoBackoffWrongFalsely : Prop := fnExactRtoBackoffRow.holds Try.pinned (OpenSpec.ofChange fnExactRtoBackoffWrong)

/-- 'laws.FnExactCongTimeout': WHATEVER THE INPUT: true; the input reads as it did. -/
def fnExactCongTimeoutSpec : ChangeSpec := { name := "fnExactCongTimeout", fn := fun _ => fun
  | [d1, d2] => { results := [.lit (.bool true)], args := [d1, d2] }
  | _ => none }
def fnExactCongTimeoutRow : OpenClaim := { program := "ytmjmoeehcblnkaa", sum := "7f4c3ef3969f87eaffbbd973cef30c610379230a007247301ed6c69d1d8215f1", func := "loop.example/g00003/laws.FnExactCongTimeout", spec := "fnExactCongTimeout", apart := false }
def FnExactCongTimeoutSaid : Prop := fnExactCongTimeoutRow.holds Try.pinned (OpenSpec.ofChange fnExactCongTimeoutSpec)

/-- ITS FALSE NEIGHBOUR: 'it returns false'. Refute it at one input. -/
def fnExactCongTimeoutWrong : ChangeSpec := { name := "fnExactCongTimeout", fn := fun _ => fun
  | [d1, d2] => { results := [.lit (.bool false)], args := [d1, d2] }
  | _ => none }
def FnExactCongTimeoutWrongFalsely : Prop := fnExactCongTimeoutRow.holds Try.pinned (OpenSpec.ofChange fnExactCongTimeoutWrong)

/-- 'laws.FnSettled': WHATEVER THE INPUT: true; the input reads as it did. -/
def fnSettledSpec : ChangeSpec := { name := "fnSettled", fn := fun _ => fun
  | [d] => { results := [.lit (.bool true)], args := [d] }
  | _ => none }
def fnSettledRow : OpenClaim := { program := "ytmjmoeehcblnkaa", sum := "7f4c3ef3969f87eaffbbd973cef30c610379230a007247301ed6c69d1d8215f1", func := "loop.example/g00003/laws.FnSettled", spec := "fnSettled", apart := false }
def FnSettledSaid : Prop := fnSettledRow.holds Try.pinned (OpenSpec.ofChange fnSettledSpec)

/-- ITS FALSE NEIGHBOUR: 'it returns false'. Refute it at one input. -/
def fnSettledWrong : ChangeSpec := { name := "fnSettled", fn := fun _ => fun
  | [d] => { results := [.lit (.bool false)], args := [d] }
  | _ => none }
def FnSettledWrongFalsely : Prop := fnSettledRow.holds Try.pinned (OpenSpec.ofChange fnSettledWrong)

/-- 'laws.FnExactCongAck': WHATEVER THE INPUT: true; the input reads as it did. -/
def fnExactCongAckSpec : ChangeSpec := { name := "fnExactCongAck", fn := fun _ => fun
  | [d1, d2] => { results := [.lit (.bool true)], args := [d1, d2] }
  | _ => none }
def fnExactCongAckRow : OpenClaim := { program := "ytmjmoeehcblnkaa", sum := "7f4c3ef3969f87eaffbbd973cef30c610379230a007247301ed6c69d1d8215f1", func := "loop.example/g00003/laws.FnExactCongAck", spec := "fnExactCongAck", apart := false }
def FnExactCongAckSaid : Prop := fnExactCongAckRow.holds Try.pinned (OpenSpec.ofChange fnExactCongAckSpec)

/-- ITS FALSE NEIGHBOUR: 'it returns false'. Refute it at one input. -/
def fnExactCongAckWrong : ChangeSpec := { name := "fnExactCongAck", fn := fun _ => fun
  | [d1, d2] => { results := [.lit (.bool false)], args := [d1, d2] }
  | _ => none }
def FnExactCongAckWrongFalsely : Prop := fnExactCongAckRow.holds Try.pinned (OpenSpec.ofChange fnExactCongAckWrong)

/-- 'laws.FnExactCongIdle': WHATEVER THE INPUT: true; the input reads as it did. -/
def fnExactCongIdleSpec : ChangeSpec := { name := "fnExactCongIdle", fn := fun _ => fun
  | [d] => { results := [.lit (.bool true)], args := [d] }
  | _ => none }
def fnExactCongIdleRow : OpenClaim := { program := "ytmjmoeehcblnkaa", sum := "7f4c3ef3969f87eaffbbd973cef30c610379230a007247301ed6c69d1d8215f1", func := "loop.example/g00003/laws.FnExactCongIdle", spec := "fnExactCongIdle", apart := false }
def FnExactCongIdleSaid : Prop := fnExactCongIdleRow.holds Try.pinned (OpenSpec.ofChange fnExactCongIdleSpec)

/-- ITS FALSE NEIGHBOUR: 'it returns false'. Refute it at one input. -/
def fnExactCongIdleWrong : ChangeSpec := { name := "fnExactCongIdle", fn := fun _ => fun
  | [d] => { results := [.lit (.bool false)], args := [d] }
  | _ => none }
def FnExactCongIdleWrongFalsely : Prop := fnExactCongIdleRow.holds Try.pinned (OpenSpec.ofChange fnExactCongIdleWrong)

/-- 'laws.FnExactRtoSample': WHATEVER THE INPUT: true; the input reads as it did. -/
def fnExactRtoSampleSpec : ChangeSpec := { name := "fnExactRtoSample", fn := fun _ => fun
  | [d1, d2] => { results := [.lit (.bool true)], args := [d1, d2] }
  | _ => none }
def fnExactRtoSampleRow : OpenClaim := { program := "ytmjmoeehcblnkaa", sum := "7f4c3ef3969f87eaffbbd973cef30c610379230a007247301ed6c69d1d8215f1", func := "loop.example/g00003/laws.FnExactRtoSample", spec := "fnExactRtoSample", apart := false }
def FnExactRtoSampleSaid : Prop := fnExactRtoSampleRow.holds Try.pinned (OpenSpec.ofChange fnExactRtoSampleSpec)

/-- ITS FALSE NEIGHBOUR: 'it returns false'. Refute it at one input. -/
def fnExactRtoSampleWrong : ChangeSpec := { name := "fnExactRtoSample", fn := fun _ => fun
  | [d1, d2] => { results := [.lit (.bool false)], args := [d1, d2] }
  | _ => none }
def FnExactRtoSampleWrongFalsely : Prop := fnExactRtoSampleRow.holds Try.pinned (OpenSpec.ofChange fnExactRtoSampleWrong)

/-- 'laws.FnWindow': WHATEVER THE INPUT: true; the input reads as it did. -/
def fnWindowSpec : ChangeSpec := { name := "fnWindow", fn := fun _ => fun
  | [d] => { results := [.lit (.bool true)], args := [d] }
  | _ => none }
def fnWindowRow : OpenClaim := { program := "ytmjmoeehcblnkaa", sum := "7f4c3ef3969f87eaffbbd973cef30c610379230a007247301ed6c69d1d8215f1", func := "loop.example/g00003/laws.FnWindow", spec := "fnWindow", apart := false }
def FnWindowSaid : Prop := fnWindowRow.holds Try.pinned (OpenSpec.ofChange fnWindowSpec)

/-- ITS FALSE NEIGHBOUR: 'it returns false'. Refute it at one input. -/
def fnWindowWrong : ChangeSpec := { name := "fnWindow", fn := fun _ => fun
  | [d] => { results := [.lit (.bool false)], args := [d] }
  | _ => none }
def FnWindowWrongFalsely : Prop := fnWindowRow.holds Try.pinned (OpenSpec.ofChange fnWindowWrong)

/-- 'laws.FnFair': WHATEVER THE INPUT: true; the input reads as it did. -/
def fnFairSpec : ChangeSpec := { name := "fnFair", fn := fun _ => fun
  | [d] => { results := [.lit (.bool true)], args := [d] }
  | _ => none }
def fnFairRow : OpenClaim := { program := "ytmjmoeehcblnkaa", sum := "7f4c3ef3969f87eaffbbd973cef30c610379230a007247301ed6c69d1d8215f1", func := "loop.example/g00003/laws.FnFair", spec := "fnFair", apart := false }
def FnFairSaid : Prop := fnFairRow.holds Try.pinned (OpenSpec.ofChange fnFairSpec)

/-- ITS FALSE NEIGHBOUR: 'it returns false'. Refute it at one input. -/
def fnFairWrong : ChangeSpec := { name := "fnFair", fn := fun _ => fun
  | [d] => { results := [.lit (.bool false)], args := [d] }
  | _ => none }
def FnFairWrongFalsely : Prop := fnFairRow.holds Try.pinned (OpenSpec.ofChange fnFairWrong)

/-- 'laws.FnExactShare': WHATEVER THE INPUT: true; the input reads as it did. -/
def fnExactShareSpec : ChangeSpec := { name := "fnExactShare", fn := fun _ => fun
  | [d1, d2, d3, d4] => { results := [.lit (.bool true)], args := [d1, d2, d3, d4] }
  | _ => none }
def fnExactShareRow : OpenClaim := { program := "ytmjmoeehcblnkaa", sum := "7f4c3ef3969f87eaffbbd973cef30c610379230a007247301ed6c69d1d8215f1", func := "loop.example/g00003/laws.FnExactShare", spec := "fnExactShare", apart := false }
def FnExactShareSaid : Prop := fnExactShareRow.holds Try.pinned (OpenSpec.ofChange fnExactShareSpec)

/-- ITS FALSE NEIGHBOUR: 'it returns false'. Refute it at one input. -/
def fnExactShareWrong : ChangeSpec := { name := "fnExactShare", fn := fun _ => fun
  | [d1, d2, d3, d4] => { results := [.lit (.bool false)], args := [d1, d2, d3, d4] }
  | _ => none }
def FnExactShareWrongFalsely : Prop := fnExactShareRow.holds Try.pinned (OpenSpec.ofChange fnExactShareWrong)

/- THE SECOND FORM. 'bulk': how many values and letters a reading holds, each counted each time it is reached (what is shared counts as often as it is met; a slice's spare places count too). A statement '..UptoSaid' is the law's where the arguments, and the package variables that the reading takes, are together of bulk at most 1048576: NARROWER than '..Said'. Prove '..Said' where nothing that the law and all that it calls make is longer than what came in: it says more and counts as full. Else prove '..UptoSaid'. A law counts once. -/
mutual
def uptoBulk {H : Type} : DataW H → Nat
  | .lit (.string bytes) => bytes.length + 1
  | .lit _ => 1
  | .nil => 1
  | .ptr d => uptoBulk d + 1
  | .slice elems spare => uptoBulkAll elems + uptoBulkAll spare + 1
  | .agg parts => uptoBulkAll parts + 1
  | .iface _ d => uptoBulk d + 1
  | .map entries => uptoBulkEntries entries + 1
  | .held _ => 1
def uptoBulkAll {H : Type} : List (DataW H) → Nat
  | [] => 0
  | d :: r => uptoBulk d + uptoBulkAll r
def uptoBulkEntries {H : Type} : List (Lit × DataW H) → Nat
  | [] => 0
  | x :: r => uptoBulkEntry x + uptoBulkEntries r
def uptoBulkEntry {H : Type} : Lit × DataW H → Nat
  | (.string bytes, d) => bytes.length + uptoBulk d + 1
  | (_, d) => uptoBulk d + 1
 end
def uptoSmall : (H : Type) → List (DataW H) → Bool := fun _ ds => decide (uptoBulkAll ds ≤ 1048576)
def OpenSpec.upto (s : _root_.Go.ChangeSpec) : _root_.Go.OpenSpec := { _root_.Go.OpenSpec.ofChange s with cond := some uptoSmall }

/-- 'laws.FnExactNewCong', WHERE WHAT IT READS IS OF BULK AT MOST 1048576: true; the input reads as it did. -/
def fnExactNewCongUptoRow : OpenClaim := { program := "ytmjmoeehcblnkaa", sum := "7f4c3ef3969f87eaffbbd973cef30c610379230a007247301ed6c69d1d8215f1", func := "loop.example/g00003/laws.FnExactNewCong", spec := "fnExactNewCong", apart := false, narrowed := true }
def FnExactNewCongUptoSaid : Prop := fnExactNewCongUptoRow.holds Try.pinned (OpenSpec.upto fnExactNewCongSpec)

/-- 'laws.FnExactCongMss', WHERE WHAT IT READS IS OF BULK AT MOST 1048576: true; the input reads as it did. -/
def fnExactCongMssUptoRow : OpenClaim := { program := "ytmjmoeehcblnkaa", sum := "7f4c3ef3969f87eaffbbd973cef30c610379230a007247301ed6c69d1d8215f1", func := "loop.example/g00003/laws.FnExactCongMss", spec := "fnExactCongMss", apart := false, narrowed := true }
def FnExactCongMssUptoSaid : Prop := fnExactCongMssUptoRow.holds Try.pinned (OpenSpec.upto fnExactCongMssSpec)

/-- 'laws.FnExactCongLoss', WHERE WHAT IT READS IS OF BULK AT MOST 1048576: true; the input reads as it did. -/
def fnExactCongLossUptoRow : OpenClaim := { program := "ytmjmoeehcblnkaa", sum := "7f4c3ef3969f87eaffbbd973cef30c610379230a007247301ed6c69d1d8215f1", func := "loop.example/g00003/laws.FnExactCongLoss", spec := "fnExactCongLoss", apart := false, narrowed := true }
def FnExactCongLossUptoSaid : Prop := fnExactCongLossUptoRow.holds Try.pinned (OpenSpec.upto fnExactCongLossSpec)

/-- 'laws.FnExactRtoBackoff', WHERE WHAT IT READS IS OF BULK AT MOST 1048576: true; the input reads as it did. -/
def fnExactRtoBackoffUptoRow : OpenClaim := { program := "ytmjmoeehcblnkaa", sum := "7f4c3ef3969f87eaffbbd973cef30c610379230a007247301ed6c69d1d8215f1", func := "loop.example/g00003/laws.FnExactRtoBackoff", spec := "fnExactRtoBackoff", apart := false, narrowed := true }
def FnExactRtoBackoffUptoSaid : Prop := fnExactRtoBackoffUptoRow.holds Try.pinned (OpenSpec.upto fnExactRtoBackoffSpec)

/-- 'laws.FnExactCongTimeout', WHERE WHAT IT READS IS OF BULK AT MOST 1048576: true; the input reads as it did. -/
def fnExactCongTimeoutUptoRow : OpenClaim := { program := "ytmjmoeehcblnkaa", sum := "7f4c3ef3969f87eaffbbd973cef30c610379230a007247301ed6c69d1d8215f1", func := "loop.example/g00003/laws.FnExactCongTimeout", spec := "fnExactCongTimeout", apart := false, narrowed := true }
def FnExactCongTimeoutUptoSaid : Prop := fnExactCongTimeoutUptoRow.holds Try.pinned (OpenSpec.upto fnExactCongTimeoutSpec)

/-- 'laws.FnSettled', WHERE WHAT IT READS IS OF BULK AT MOST 1048576: true; the input reads as it did. -/
def fnSettledUptoRow : OpenClaim := { program := "ytmjmoeehcblnkaa", sum := "7f4c3ef3969f87eaffbbd973cef30c610379230a007247301ed6c69d1d8215f1", func := "loop.example/g00003/laws.FnSettled", spec := "fnSettled", apart := false, narrowed := true }
def FnSettledUptoSaid : Prop := fnSettledUptoRow.holds Try.pinned (OpenSpec.upto fnSettledSpec)

/-- 'laws.FnExactCongAck', WHERE WHAT IT READS IS OF BULK AT MOST 1048576: true; the input reads as it did. -/
def fnExactCongAckUptoRow : OpenClaim := { program := "ytmjmoeehcblnkaa", sum := "7f4c3ef3969f87eaffbbd973cef30c610379230a007247301ed6c69d1d8215f1", func := "loop.example/g00003/laws.FnExactCongAck", spec := "fnExactCongAck", apart := false, narrowed := true }
def FnExactCongAckUptoSaid : Prop := fnExactCongAckUptoRow.holds Try.pinned (OpenSpec.upto fnExactCongAckSpec)

/-- 'laws.FnExactCongIdle', WHERE WHAT IT READS IS OF BULK AT MOST 1048576: true; the input reads as it did. -/
def fnExactCongIdleUptoRow : OpenClaim := { program := "ytmjmoeehcblnkaa", sum := "7f4c3ef3969f87eaffbbd973cef30c610379230a007247301ed6c69d1d8215f1", func := "loop.example/g00003/laws.FnExactCongIdle", spec := "fnExactCongIdle", apart := false, narrowed := true }
def FnExactCongIdleUptoSaid : Prop := fnExactCongIdleUptoRow.holds Try.pinned (OpenSpec.upto fnExactCongIdleSpec)

/-- 'laws.FnExactRtoSample', WHERE WHAT IT READS IS OF BULK AT MOST 1048576: true; the input reads as it did. -/
def fnExactRtoSampleUptoRow : OpenClaim := { program := "ytmjmoeehcblnkaa", sum := "7f4c3ef3969f87eaffbbd973cef30c610379230a007247301ed6c69d1d8215f1", func := "loop.example/g00003/laws.FnExactRtoSample", spec := "fnExactRtoSample", apart := false, narrowed := true }
def FnExactRtoSampleUptoSaid : Prop := fnExactRtoSampleUptoRow.holds Try.pinned (OpenSpec.upto fnExactRtoSampleSpec)

/-- 'laws.FnWindow', WHERE WHAT IT READS IS OF BULK AT MOST 1048576: true; the input reads as it did. -/
def fnWindowUptoRow : OpenClaim := { program := "ytmjmoeehcblnkaa", sum := "7f4c3ef3969f87eaffbbd973cef30c610379230a007247301ed6c69d1d8215f1", func := "loop.example/g00003/laws.FnWindow", spec := "fnWindow", apart := false, narrowed := true }
def FnWindowUptoSaid : Prop := fnWindowUptoRow.holds Try.pinned (OpenSpec.upto fnWindowSpec)

/-- 'laws.FnFair', WHERE WHAT IT READS IS OF BULK AT MOST 1048576: true; the input reads as it did. -/
def fnFairUptoRow : OpenClaim := { program := "ytmjmoeehcblnkaa", sum := "7f4c3ef3969f87eaffbbd973cef30c610379230a007247301ed6c69d1d8215f1", func := "loop.example/g00003/laws.FnFair", spec := "fnFair", apart := false, narrowed := true }
def FnFairUptoSaid : Prop := fnFairUptoRow.holds Try.pinned (OpenSpec.upto fnFairSpec)

/-- 'laws.FnExactShare', WHERE WHAT IT READS IS OF BULK AT MOST 1048576: true; the input reads as it did. -/
def fnExactShareUptoRow : OpenClaim := { program := "ytmjmoeehcblnkaa", sum := "7f4c3ef3969f87eaffbbd973cef30c610379230a007247301ed6c69d1d8215f1", func := "loop.example/g00003/laws.FnExactShare", spec := "fnExactShare", apart := false, narrowed := true }
def FnExactShareUptoSaid : Prop := fnExactShareUptoRow.holds Try.pinned (OpenSpec.upto fnExactShareSpec)

end Rows
end Go.Proofs.Ytmjmoeehcblnkaa
