/-
  No cell of these rows narrows 'for every input' (looked for: loops, veiled, ifaces, maps, wideKeys, modest, calm, conditions, laid).
  DERIVED. THE GIVEN ROWS OF THIS SEAT. 12 by the template 'for every input the law returns true; each argument reads behind the call as it read before'; 0 by the template 'total and deterministic' (their statements: YtbccgfnlmnkgmaaTotals.lean).
  GIVEN WITH THE SEED: the statements are not yours to turn. If you find one false, say at which input.
  Laid BY PROGRAM, IN A SANDBOX (cutbox-rows.mjs): the forced cells as the released guide's own fill.sh prints them over the translation 2c77e639f17d519c… (all of the seat's roots in one cut). By AI agents, Wed Nov 11 2026. No macro, syntax, notation, axiom, sorry.
-/
import Derived.Test.YtbccgfnlmnkgmaaChecked
import GoSem.Claim
import GoSem.ClaimJoined
import GoSem.ClaimMapViews
import Derived.JoinedTies
import Derived.KernelRfl
namespace Go.Proofs.Ytbccgfnlmnkgmaa
/- THE CELL 'sum', in the pinned program and in every row, IS THE sha256 OF THE DUMP (.gsa) THAT YtbccgfnlmnkgmaaProg.lean LOADS. Nothing in Lean hashes anything: it is a label: what it is worth is what the hold of that sum in a sandbox is worth. -/
noncomputable def Try.pinned : Pinned := { name := "ytbccgfnlmnkgmaa", sum := "2c77e639f17d519cd279921ee688d7bcd6b842ced1455f36552fe8a58e3321aa", checked := Try.checked }
namespace Rows
def none {H : Type} : Left H := { results := [], args := [] }

/-- 'laws.FnExactChecksum': WHATEVER THE INPUT: true; the input reads as it did. -/
def fnExactChecksumSpec : ChangeSpec := { name := "fnExactChecksum", fn := fun _ => fun
  | [d] => { results := [.lit (.bool true)], args := [d] }
  | _ => none }
def fnExactChecksumRow : OpenClaim := { program := "ytbccgfnlmnkgmaa", sum := "2c77e639f17d519cd279921ee688d7bcd6b842ced1455f36552fe8a58e3321aa", func := "loop.example/g00003/laws.FnExactChecksum", spec := "fnExactChecksum", apart := false }
def FnExactChecksumSaid : Prop := fnExactChecksumRow.holds Try.pinned (OpenSpec.ofChange fnExactChecksumSpec)

/-- ITS FALSE NEIGHBOUR: 'it returns false'. Refute it at one input. -/
def fnExactChecksumWrong : ChangeSpec := { name := "fnExactChecksum", fn := fun _ => fun
  | [d] => { results := [.lit (.bool false)], args := [d] }
  | _ => none }
def FnExactChecksumWrongFalsely : Prop := fnExactChecksumRow.holds Try.pinned (OpenSpec.ofChange fnExactChecksumWrong)

/-- 'laws.FnExactFalseHead': WHATEVER THE INPUT: true; the input reads as it did. -/
def fnExactFalseHeadSpec : ChangeSpec := { name := "fnExactFalseHead", fn := fun _ => fun
  | [d1, d2, d3, d4] => { results := [.lit (.bool true)], args := [d1, d2, d3, d4] }
  | _ => none }
def fnExactFalseHeadRow : OpenClaim := { program := "ytbccgfnlmnkgmaa", sum := "2c77e639f17d519cd279921ee688d7bcd6b842ced1455f36552fe8a58e3321aa", func := "loop.example/g00003/laws.FnExactFalseHead", spec := "fnExactFalseHead", apart := false }
def FnExactFalseHeadSaid : Prop := fnExactFalseHeadRow.holds Try.pinned (OpenSpec.ofChange fnExactFalseHeadSpec)

/-- ITS FALSE NEIGHBOUR: 'it returns false'. Refute it at one input. -/
def fnExactFalseHeadWrong : ChangeSpec := { name := "fnExactFalseHead", fn := fun _ => fun
  | [d1, d2, d3, d4] => { results := [.lit (.bool false)], args := [d1, d2, d3, d4] }
  | _ => none }
def FnExactFalseHeadWrongFalsely : Prop := fnExactFalseHeadRow.holds Try.pinned (OpenSpec.ofChange fnExactFalseHeadWrong)

/-- 'laws.FnPatch': WHATEVER THE INPUT: true; the input reads as it did. -/
def fnPatchSpec : ChangeSpec := { name := "fnPatch", fn := fun _ => fun
  | [d] => { results := [.lit (.bool true)], args := [d] }
  | _ => none }
def fnPatchRow : OpenClaim := { program := "ytbccgfnlmnkgmaa", sum := "2c77e639f17d519cd279921ee688d7bcd6b842ced1455f36552fe8a58e3321aa", func := "loop.example/g00003/laws.FnPatch", spec := "fnPatch", apart := false }
def FnPatchSaid : Prop := fnPatchRow.holds Try.pinned (OpenSpec.ofChange fnPatchSpec)

/-- ITS FALSE NEIGHBOUR: 'it returns false'. Refute it at one input. -/
def fnPatchWrong : ChangeSpec := { name := "fnPatch", fn := fun _ => fun
  | [d] => { results := [.lit (.bool false)], args := [d] }
  | _ => none }
def FnPatchWrongFalsely : Prop := fnPatchRow.holds Try.pinned (OpenSpec.ofChange fnPatchWrong)

/-- 'laws.FnExactDecodeArp': WHATEVER THE INPUT: true; the input reads as it did. -/
def fnExactDecodeArpSpec : ChangeSpec := { name := "fnExactDecodeArp", fn := fun _ => fun
  | [d] => { results := [.lit (.bool true)], args := [d] }
  | _ => none }
def fnExactDecodeArpRow : OpenClaim := { program := "ytbccgfnlmnkgmaa", sum := "2c77e639f17d519cd279921ee688d7bcd6b842ced1455f36552fe8a58e3321aa", func := "loop.example/g00003/laws.FnExactDecodeArp", spec := "fnExactDecodeArp", apart := false }
def FnExactDecodeArpSaid : Prop := fnExactDecodeArpRow.holds Try.pinned (OpenSpec.ofChange fnExactDecodeArpSpec)

/-- ITS FALSE NEIGHBOUR: 'it returns false'. Refute it at one input. -/
def fnExactDecodeArpWrong : ChangeSpec := { name := "fnExactDecodeArp", fn := fun _ => fun
  | [d] => { results := [.lit (.bool false)], args := [d] }
  | _ => none }
def FnExactDecodeArpWrongFalsely : Prop := fnExactDecodeArpRow.holds Try.pinned (OpenSpec.ofChange fnExactDecodeArpWrong)

/-- 'laws.FnExactEncodeArp': WHATEVER THE INPUT: true; the input reads as it did. -/
def fnExactEncodeArpSpec : ChangeSpec := { name := "fnExactEncodeArp", fn := fun _ => fun
  | [d] => { results := [.lit (.bool true)], args := [d] }
  | _ => none }
def fnExactEncodeArpRow : OpenClaim := { program := "ytbccgfnlmnkgmaa", sum := "2c77e639f17d519cd279921ee688d7bcd6b842ced1455f36552fe8a58e3321aa", func := "loop.example/g00003/laws.FnExactEncodeArp", spec := "fnExactEncodeArp", apart := false }
def FnExactEncodeArpSaid : Prop := fnExactEncodeArpRow.holds Try.pinned (OpenSpec.ofChange fnExactEncodeArpSpec)

/-- ITS FALSE NEIGHBOUR: 'it returns false'. Refute it at one input. -/
def fnExactEncodeArpWrong : ChangeSpec := { name := "fnExactEncodeArp", fn := fun _ => fun
  | [d] => { results := [.lit (.bool false)], args := [d] }
  | _ => none }
def FnExactEncodeArpWrongFalsely : Prop := fnExactEncodeArpRow.holds Try.pinned (OpenSpec.ofChange fnExactEncodeArpWrong)

/-- 'laws.FnExactPacketSize': WHATEVER THE INPUT: true; the input reads as it did. -/
def fnExactPacketSizeSpec : ChangeSpec := { name := "fnExactPacketSize", fn := fun _ => fun
  | [d] => { results := [.lit (.bool true)], args := [d] }
  | _ => none }
def fnExactPacketSizeRow : OpenClaim := { program := "ytbccgfnlmnkgmaa", sum := "2c77e639f17d519cd279921ee688d7bcd6b842ced1455f36552fe8a58e3321aa", func := "loop.example/g00003/laws.FnExactPacketSize", spec := "fnExactPacketSize", apart := false }
def FnExactPacketSizeSaid : Prop := fnExactPacketSizeRow.holds Try.pinned (OpenSpec.ofChange fnExactPacketSizeSpec)

/-- ITS FALSE NEIGHBOUR: 'it returns false'. Refute it at one input. -/
def fnExactPacketSizeWrong : ChangeSpec := { name := "fnExactPacketSize", fn := fun _ => fun
  | [d] => { results := [.lit (.bool false)], args := [d] }
  | _ => none }
def FnExactPacketSizeWrongFalsely : Prop := fnExactPacketSizeRow.holds Try.pinned (OpenSpec.ofChange fnExactPacketSizeWrong)

/-- 'laws.FnExactReadQuote': WHATEVER THE INPUT: true; the input reads as it did. -/
def fnExactReadQuoteSpec : ChangeSpec := { name := "fnExactReadQuote", fn := fun _ => fun
  | [d] => { results := [.lit (.bool true)], args := [d] }
  | _ => none }
def fnExactReadQuoteRow : OpenClaim := { program := "ytbccgfnlmnkgmaa", sum := "2c77e639f17d519cd279921ee688d7bcd6b842ced1455f36552fe8a58e3321aa", func := "loop.example/g00003/laws.FnExactReadQuote", spec := "fnExactReadQuote", apart := false }
def FnExactReadQuoteSaid : Prop := fnExactReadQuoteRow.holds Try.pinned (OpenSpec.ofChange fnExactReadQuoteSpec)

/-- ITS FALSE NEIGHBOUR: 'it returns false'. Refute it at one input. -/
def fnExactReadQuoteWrong : ChangeSpec := { name := "fnExactReadQuote", fn := fun _ => fun
  | [d] => { results := [.lit (.bool false)], args := [d] }
  | _ => none }
def FnExactReadQuoteWrongFalsely : Prop := fnExactReadQuoteRow.holds Try.pinned (OpenSpec.ofChange fnExactReadQuoteWrong)

/-- 'laws.FnExactDecodeIcmp': WHATEVER THE INPUT: true; the input reads as it did. -/
def fnExactDecodeIcmpSpec : ChangeSpec := { name := "fnExactDecodeIcmp", fn := fun _ => fun
  | [d] => { results := [.lit (.bool true)], args := [d] }
  | _ => none }
def fnExactDecodeIcmpRow : OpenClaim := { program := "ytbccgfnlmnkgmaa", sum := "2c77e639f17d519cd279921ee688d7bcd6b842ced1455f36552fe8a58e3321aa", func := "loop.example/g00003/laws.FnExactDecodeIcmp", spec := "fnExactDecodeIcmp", apart := false }
def FnExactDecodeIcmpSaid : Prop := fnExactDecodeIcmpRow.holds Try.pinned (OpenSpec.ofChange fnExactDecodeIcmpSpec)

/-- ITS FALSE NEIGHBOUR: 'it returns false'. Refute it at one input. -/
def fnExactDecodeIcmpWrong : ChangeSpec := { name := "fnExactDecodeIcmp", fn := fun _ => fun
  | [d] => { results := [.lit (.bool false)], args := [d] }
  | _ => none }
def FnExactDecodeIcmpWrongFalsely : Prop := fnExactDecodeIcmpRow.holds Try.pinned (OpenSpec.ofChange fnExactDecodeIcmpWrong)

/-- 'laws.FnExactEncodeIcmp': WHATEVER THE INPUT: true; the input reads as it did. -/
def fnExactEncodeIcmpSpec : ChangeSpec := { name := "fnExactEncodeIcmp", fn := fun _ => fun
  | [d] => { results := [.lit (.bool true)], args := [d] }
  | _ => none }
def fnExactEncodeIcmpRow : OpenClaim := { program := "ytbccgfnlmnkgmaa", sum := "2c77e639f17d519cd279921ee688d7bcd6b842ced1455f36552fe8a58e3321aa", func := "loop.example/g00003/laws.FnExactEncodeIcmp", spec := "fnExactEncodeIcmp", apart := false }
def FnExactEncodeIcmpSaid : Prop := fnExactEncodeIcmpRow.holds Try.pinned (OpenSpec.ofChange fnExactEncodeIcmpSpec)

/-- ITS FALSE NEIGHBOUR: 'it returns false'. Refute it at one input. -/
def fnExactEncodeIcmpWrong : ChangeSpec := { name := "fnExactEncodeIcmp", fn := fun _ => fun
  | [d] => { results := [.lit (.bool false)], args := [d] }
  | _ => none }
def FnExactEncodeIcmpWrongFalsely : Prop := fnExactEncodeIcmpRow.holds Try.pinned (OpenSpec.ofChange fnExactEncodeIcmpWrong)

/-- 'laws.FnExactDecodeUdp': WHATEVER THE INPUT: true; the input reads as it did. -/
def fnExactDecodeUdpSpec : ChangeSpec := { name := "fnExactDecodeUdp", fn := fun _ => fun
  | [d1, d2, d3] => { results := [.lit (.bool true)], args := [d1, d2, d3] }
  | _ => none }
def fnExactDecodeUdpRow : OpenClaim := { program := "ytbccgfnlmnkgmaa", sum := "2c77e639f17d519cd279921ee688d7bcd6b842ced1455f36552fe8a58e3321aa", func := "loop.example/g00003/laws.FnExactDecodeUdp", spec := "fnExactDecodeUdp", apart := false }
def FnExactDecodeUdpSaid : Prop := fnExactDecodeUdpRow.holds Try.pinned (OpenSpec.ofChange fnExactDecodeUdpSpec)

/-- ITS FALSE NEIGHBOUR: 'it returns false'. Refute it at one input. -/
def fnExactDecodeUdpWrong : ChangeSpec := { name := "fnExactDecodeUdp", fn := fun _ => fun
  | [d1, d2, d3] => { results := [.lit (.bool false)], args := [d1, d2, d3] }
  | _ => none }
def FnExactDecodeUdpWrongFalsely : Prop := fnExactDecodeUdpRow.holds Try.pinned (OpenSpec.ofChange fnExactDecodeUdpWrong)

/-- 'laws.FnExactEncodeUdp': WHATEVER THE INPUT: true; the input reads as it did. -/
def fnExactEncodeUdpSpec : ChangeSpec := { name := "fnExactEncodeUdp", fn := fun _ => fun
  | [d1, d2, d3] => { results := [.lit (.bool true)], args := [d1, d2, d3] }
  | _ => none }
def fnExactEncodeUdpRow : OpenClaim := { program := "ytbccgfnlmnkgmaa", sum := "2c77e639f17d519cd279921ee688d7bcd6b842ced1455f36552fe8a58e3321aa", func := "loop.example/g00003/laws.FnExactEncodeUdp", spec := "fnExactEncodeUdp", apart := false }
def FnExactEncodeUdpSaid : Prop := fnExactEncodeUdpRow.holds Try.pinned (OpenSpec.ofChange fnExactEncodeUdpSpec)

/-- ITS FALSE NEIGHBOUR: 'it returns false'. Refute it at one input. -/
def fnExactEncodeUdpWrong : ChangeSpec := { name := "fnExactEncodeUdp", fn := fun _ => fun
  | [d1, d2, d3] => { results := [.lit (.bool false)], args := [d1, d2, d3] }
  | _ => none }
def FnExactEncodeUdpWrongFalsely : Prop := fnExactEncodeUdpRow.holds Try.pinned (OpenSpec.ofChange fnExactEncodeUdpWrong)

/-- 'laws.FnExactDecodeIP': WHATEVER THE INPUT: true; the input reads as it did. -/
def fnExactDecodeIPSpec : ChangeSpec := { name := "fnExactDecodeIP", fn := fun _ => fun
  | [d] => { results := [.lit (.bool true)], args := [d] }
  | _ => none }
def fnExactDecodeIPRow : OpenClaim := { program := "ytbccgfnlmnkgmaa", sum := "2c77e639f17d519cd279921ee688d7bcd6b842ced1455f36552fe8a58e3321aa", func := "loop.example/g00003/laws.FnExactDecodeIP", spec := "fnExactDecodeIP", apart := false }
def FnExactDecodeIPSaid : Prop := fnExactDecodeIPRow.holds Try.pinned (OpenSpec.ofChange fnExactDecodeIPSpec)

/-- ITS FALSE NEIGHBOUR: 'it returns false'. Refute it at one input. -/
def fnExactDecodeIPWrong : ChangeSpec := { name := "fnExactDecodeIP", fn := fun _ => fun
  | [d] => { results := [.lit (.bool false)], args := [d] }
  | _ => none }
def FnExactDecodeIPWrongFalsely : Prop := fnExactDecodeIPRow.holds Try.pinned (OpenSpec.ofChange fnExactDecodeIPWrong)

/- THE SECOND FORM. 'bulk': how many values and letters a reading holds, each counted each time it is reached (what is shared counts as often as it is met; a slice's spare places count too). A statement '..UptoSaid' is the law's where the arguments, and the package variables that the reading takes, are together of bulk at most 1048576: NARROWER than '..Said'. Prove '..Said' where nothing that the law and all that it calls make is longer than what came in: it says more and counts as full. Else prove '..UptoSaid'. A law counts once. -/
mutual
def uptoBulk {H : Type} : DataW H → Nat
  | .lit (.string bytes) => bytes.length + 1
  | .lit _ => 1
  | .nil => 1
  | .ptr d => uptoBulk d + 1
  | .slice elems spare => uptoBulkAll elems + uptoBulkAll spare + 1
  | .agg parts => uptoBulkAll parts + 1
  | .iface _ d => uptoBulk d + 1
  | .map entries => uptoBulkEntries entries + 1
  | .held _ => 1
def uptoBulkAll {H : Type} : List (DataW H) → Nat
  | [] => 0
  | d :: r => uptoBulk d + uptoBulkAll r
def uptoBulkEntries {H : Type} : List (Lit × DataW H) → Nat
  | [] => 0
  | x :: r => uptoBulkEntry x + uptoBulkEntries r
def uptoBulkEntry {H : Type} : Lit × DataW H → Nat
  | (.string bytes, d) => bytes.length + uptoBulk d + 1
  | (_, d) => uptoBulk d + 1
 end
def uptoSmall : (H : Type) → List (DataW H) → Bool := fun _ ds => decide (uptoBulkAll ds ≤ 1048576)
def OpenSpec.upto (s : _root_.Go.ChangeSpec) : _root_.Go.OpenSpec := { _root_.Go.OpenSpec.ofChange s with cond := some uptoSmall }

/-- 'laws.FnExactChecksum', WHERE WHAT IT READS IS OF BULK AT MOST 1048576: true; the input reads as it did. -/
def fnExactChecksumUptoRow : OpenClaim := { program := "ytbccgfnlmnkgmaa", sum := "2c77e639f17d519cd279921ee688d7bcd6b842ced1455f36552fe8a58e3321aa", func := "loop.example/g00003/laws.FnExactChecksum", spec := "fnExactChecksum", apart := false, narrowed := true }
def FnExactChecksumUptoSaid : Prop := fnExactChecksumUptoRow.holds Try.pinned (OpenSpec.upto fnExactChecksumSpec)

/-- 'laws.FnExactFalseHead', WHERE WHAT IT READS IS OF BULK AT MOST 1048576: true; the input reads as it did. -/
def fnExactFalseHeadUptoRow : OpenClaim := { program := "ytbccgfnlmnkgmaa", sum := "2c77e639f17d519cd279921ee688d7bcd6b842ced1455f36552fe8a58e3321aa", func := "loop.example/g00003/laws.FnExactFalseHead", spec := "fnExactFalseHead", apart := false, narrowed := true }
def FnExactFalseHeadUptoSaid : Prop := fnExactFalseHeadUptoRow.holds Try.pinned (OpenSpec.upto fnExactFalseHeadSpec)

/-- 'laws.FnPatch', WHERE WHAT IT READS IS OF BULK AT MOST 1048576: true; the input reads as it did. -/
def fnPatchUptoRow : OpenClaim := { program := "ytbccgfnlmnkgmaa", sum := "2c77e639f17d519cd279921ee688d7bcd6b842ced1455f36552fe8a58e3321aa", func := "loop.example/g00003/laws.FnPatch", spec := "fnPatch", apart := false, narrowed := true }
def FnPatchUptoSaid : Prop := fnPatchUptoRow.holds Try.pinned (OpenSpec.upto fnPatchSpec)

/-- 'laws.FnExactDecodeArp', WHERE WHAT IT READS IS OF BULK AT MOST 1048576: true; the input reads as it did. -/
def fnExactDecodeArpUptoRow : OpenClaim := { program := "ytbccgfnlmnkgmaa", sum := "2c77e639f17d519cd279921ee688d7bcd6b842ced1455f36552fe8a58e3321aa", func := "loop.example/g00003/laws.FnExactDecodeArp", spec := "fnExactDecodeArp", apart := false, narrowed := true }
def FnExactDecodeArpUptoSaid : Prop := fnExactDecodeArpUptoRow.holds Try.pinned (OpenSpec.upto fnExactDecodeArpSpec)

/-- 'laws.FnExactEncodeArp', WHERE WHAT IT READS IS OF BULK AT MOST 1048576: true; the input reads as it did. -/
def fnExactEncodeArpUptoRow : OpenClaim := { program := "ytbccgfnlmnkgmaa", sum := "2c77e639f17d519cd279921ee688d7bcd6b842ced1455f36552fe8a58e3321aa", func := "loop.example/g00003/laws.FnExactEncodeArp", spec := "fnExactEncodeArp", apart := false, narrowed := true }
def FnExactEncodeArpUptoSaid : Prop := fnExactEncodeArpUptoRow.holds Try.pinned (OpenSpec.upto fnExactEncodeArpSpec)

/-- 'laws.FnExactPacketSize', WHERE WHAT IT READS IS OF BULK AT MOST 1048576: true; the input reads as it did. -/
def fnExactPacketSizeUptoRow : OpenClaim := { program := "ytbccgfnlmnkgmaa", sum := "2c77e639f17d519cd279921ee688d7bcd6b842ced1455f36552fe8a58e3321aa", func := "loop.example/g00003/laws.FnExactPacketSize", spec := "fnExactPacketSize", apart := false, narrowed := true }
def FnExactPacketSizeUptoSaid : Prop := fnExactPacketSizeUptoRow.holds Try.pinned (OpenSpec.upto fnExactPacketSizeSpec)

/-- 'laws.FnExactReadQuote', WHERE WHAT IT READS IS OF BULK AT MOST 1048576: true; the input reads as it did. -/
def fnExactReadQuoteUptoRow : OpenClaim := { program := "ytbccgfnlmnkgmaa", sum := "2c77e639f17d519cd279921ee688d7bcd6b842ced1455f36552fe8a58e3321aa", func := "loop.example/g00003/laws.FnExactReadQuote", spec := "fnExactReadQuote", apart := false, narrowed := true }
def FnExactReadQuoteUptoSaid : Prop := fnExactReadQuoteUptoRow.holds Try.pinned (OpenSpec.upto fnExactReadQuoteSpec)

/-- 'laws.FnExactDecodeIcmp', WHERE WHAT IT READS IS OF BULK AT MOST 1048576: true; the input reads as it did. -/
def fnExactDecodeIcmpUptoRow : OpenClaim := { program := "ytbccgfnlmnkgmaa", sum := "2c77e639f17d519cd279921ee688d7bcd6b842ced1455f36552fe8a58e3321aa", func := "loop.example/g00003/laws.FnExactDecodeIcmp", spec := "fnExactDecodeIcmp", apart := false, narrowed := true }
def FnExactDecodeIcmpUptoSaid : Prop := fnExactDecodeIcmpUptoRow.holds Try.pinned (OpenSpec.upto fnExactDecodeIcmpSpec)

/-- 'laws.FnExactEncodeIcmp', WHERE WHAT IT READS IS OF BULK AT MOST 1048576: true; the input reads as it did. -/
def fnExactEncodeIcmpUptoRow : OpenClaim := { program := "ytbccgfnlmnkgmaa", sum := "2c77e639f17d519cd279921ee688d7bcd6b842ced1455f36552fe8a58e3321aa", func := "loop.example/g00003/laws.FnExactEncodeIcmp", spec := "fnExactEncodeIcmp", apart := false, narrowed := true }
def FnExactEncodeIcmpUptoSaid : Prop := fnExactEncodeIcmpUptoRow.holds Try.pinned (OpenSpec.upto fnExactEncodeIcmpSpec)

/-- 'laws.FnExactDecodeUdp', WHERE WHAT IT READS IS OF BULK AT MOST 1048576: true; the input reads as it did. -/
def fnExactDecodeUdpUptoRow : OpenClaim := { program := "ytbccgfnlmnkgmaa", sum := "2c77e639f17d519cd279921ee688d7bcd6b842ced1455f36552fe8a58e3321aa", func := "loop.example/g00003/laws.FnExactDecodeUdp", spec := "fnExactDecodeUdp", apart := false, narrowed := true }
def FnExactDecodeUdpUptoSaid : Prop := fnExactDecodeUdpUptoRow.holds Try.pinned (OpenSpec.upto fnExactDecodeUdpSpec)

/-- 'laws.FnExactEncodeUdp', WHERE WHAT IT READS IS OF BULK AT MOST 1048576: true; the input reads as it did. -/
def fnExactEncodeUdpUptoRow : OpenClaim := { program := "ytbccgfnlmnkgmaa", sum := "2c77e639f17d519cd279921ee688d7bcd6b842ced1455f36552fe8a58e3321aa", func := "loop.example/g00003/laws.FnExactEncodeUdp", spec := "fnExactEncodeUdp", apart := false, narrowed := true }
def FnExactEncodeUdpUptoSaid : Prop := fnExactEncodeUdpUptoRow.holds Try.pinned (OpenSpec.upto fnExactEncodeUdpSpec)

/-- 'laws.FnExactDecodeIP', WHERE WHAT IT READS IS OF BULK AT MOST 1048576: true; the input reads as it did. -/
def fnExactDecodeIPUptoRow : OpenClaim := { program := "ytbccgfnlmnkgmaa", sum := "2c77e639f17d519cd279921ee688d7bcd6b842ced1455f36552fe8a58e3321aa", func := "loop.example/g00003/laws.FnExactDecodeIP", spec := "fnExactDecodeIP", apart := false, narrowed := true }
def FnExactDecodeIPUptoSaid : Prop := fnExactDecodeIPUptoRow.holds Try.pinned (OpenSpec.upto fnExactDecodeIPSpec)

end Rows
end Go.Proofs.Ytbccgfnlmnkgmaa
