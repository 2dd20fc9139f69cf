/-
  No cell of these rows narrows 'for every input' (looked for: loops, veiled, ifaces, maps, wideKeys, modest, calm, conditions, laid).
  DERIVED. THE GIVEN ROWS OF THIS SEAT. 12 by the template 'for every input the law returns true; each argument reads behind the call as it read before'; 0 by the template 'total and deterministic' (their statements: YtmcnldekpjjgcaaTotals.lean).
  GIVEN WITH THE SEED: the statements are not yours to turn. If you find one false, say at which input.
  Laid BY PROGRAM, IN A SANDBOX (cutbox-rows.mjs): the forced cells as the released guide's own fill.sh prints them over the translation 49a44e3073760a05… (all of the seat's roots in one cut). By AI agents, Wed Nov 11 2026. No macro, syntax, notation, axiom, sorry.
-/
import Derived.Test.YtmcnldekpjjgcaaChecked
import GoSem.Claim
import GoSem.ClaimJoined
import GoSem.ClaimMapViews
import Derived.JoinedTies
import Derived.KernelRfl
namespace Go.Proofs.Ytmcnldekpjjgcaa
/- THE CELL 'sum', in the pinned program and in every row, IS THE sha256 OF THE DUMP (.gsa) THAT YtmcnldekpjjgcaaProg.lean LOADS. Nothing in Lean hashes anything: it is a label: what it is worth is what the hold of that sum in a sandbox is worth. -/
noncomputable def Try.pinned : Pinned := { name := "ytmcnldekpjjgcaa", sum := "49a44e3073760a05d826edee8afeaa6620bfed90323b75a1b7a2077855fc4e7c", checked := Try.checked }
namespace Rows
def none {H : Type} : Left H := { results := [], args := [] }

/-- 'laws.FnExactConstants': WHATEVER THE INPUT: true; the input reads as it did. -/
def fnExactConstantsSpec : ChangeSpec := { name := "fnExactConstants", fn := fun _ => fun
  | [] => { results := [.lit (.bool true)], args := [] }
  | _ => none }
def fnExactConstantsRow : OpenClaim := { program := "ytmcnldekpjjgcaa", sum := "49a44e3073760a05d826edee8afeaa6620bfed90323b75a1b7a2077855fc4e7c", func := "loop.example/g00447/laws.FnExactConstants", spec := "fnExactConstants", apart := false }
def FnExactConstantsSaid : Prop := fnExactConstantsRow.holds Try.pinned (OpenSpec.ofChange fnExactConstantsSpec)

/-- ITS FALSE NEIGHBOUR: 'it returns false'. Refute it at one input. -/
def fnExactConstantsWrong : ChangeSpec := { name := "fnExactConstants", fn := fun _ => fun
  | [] => { results := [.lit (.bool false)], args := [] }
  | _ => none }
def FnExactConstantsWrongFalsely : Prop := fnExactConstantsRow.holds Try.pinned (OpenSpec.ofChange fnExactConstantsWrong)

/-- 'laws.FnExactBaseDigit': WHATEVER THE INPUT: true; the input reads as it did. -/
def fnExactBaseDigitSpec : ChangeSpec := { name := "fnExactBaseDigit", fn := fun _ => fun
  | [d] => { results := [.lit (.bool true)], args := [d] }
  | _ => none }
def fnExactBaseDigitRow : OpenClaim := { program := "ytmcnldekpjjgcaa", sum := "49a44e3073760a05d826edee8afeaa6620bfed90323b75a1b7a2077855fc4e7c", func := "loop.example/g00447/laws.FnExactBaseDigit", spec := "fnExactBaseDigit", apart := false }
def FnExactBaseDigitSaid : Prop := fnExactBaseDigitRow.holds Try.pinned (OpenSpec.ofChange fnExactBaseDigitSpec)

/-- ITS FALSE NEIGHBOUR: 'it returns false'. Refute it at one input. -/
def fnExactBaseDigitWrong : ChangeSpec := { name := "fnExactBaseDigit", fn := fun _ => fun
  | [d] => { results := [.lit (.bool false)], args := [d] }
  | _ => none }
def FnExactBaseDigitWrongFalsely : Prop := fnExactBaseDigitRow.holds Try.pinned (OpenSpec.ofChange fnExactBaseDigitWrong)

/-- 'laws.FnExactCharsetName': WHATEVER THE INPUT: true; the input reads as it did. -/
def fnExactCharsetNameSpec : ChangeSpec := { name := "fnExactCharsetName", fn := fun _ => fun
  | [d] => { results := [.lit (.bool true)], args := [d] }
  | _ => none }
def fnExactCharsetNameRow : OpenClaim := { program := "ytmcnldekpjjgcaa", sum := "49a44e3073760a05d826edee8afeaa6620bfed90323b75a1b7a2077855fc4e7c", func := "loop.example/g00447/laws.FnExactCharsetName", spec := "fnExactCharsetName", apart := false }
def FnExactCharsetNameSaid : Prop := fnExactCharsetNameRow.holds Try.pinned (OpenSpec.ofChange fnExactCharsetNameSpec)

/-- ITS FALSE NEIGHBOUR: 'it returns false'. Refute it at one input. -/
def fnExactCharsetNameWrong : ChangeSpec := { name := "fnExactCharsetName", fn := fun _ => fun
  | [d] => { results := [.lit (.bool false)], args := [d] }
  | _ => none }
def FnExactCharsetNameWrongFalsely : Prop := fnExactCharsetNameRow.holds Try.pinned (OpenSpec.ofChange fnExactCharsetNameWrong)

/-- 'laws.FnExactComparatorOf': WHATEVER THE INPUT: true; the input reads as it did. -/
def fnExactComparatorOfSpec : ChangeSpec := { name := "fnExactComparatorOf", fn := fun _ => fun
  | [d] => { results := [.lit (.bool true)], args := [d] }
  | _ => none }
def fnExactComparatorOfRow : OpenClaim := { program := "ytmcnldekpjjgcaa", sum := "49a44e3073760a05d826edee8afeaa6620bfed90323b75a1b7a2077855fc4e7c", func := "loop.example/g00447/laws.FnExactComparatorOf", spec := "fnExactComparatorOf", apart := false }
def FnExactComparatorOfSaid : Prop := fnExactComparatorOfRow.holds Try.pinned (OpenSpec.ofChange fnExactComparatorOfSpec)

/-- ITS FALSE NEIGHBOUR: 'it returns false'. Refute it at one input. -/
def fnExactComparatorOfWrong : ChangeSpec := { name := "fnExactComparatorOf", fn := fun _ => fun
  | [d] => { results := [.lit (.bool false)], args := [d] }
  | _ => none }
def FnExactComparatorOfWrongFalsely : Prop := fnExactComparatorOfRow.holds Try.pinned (OpenSpec.ofChange fnExactComparatorOfWrong)

/-- 'laws.FnExactIsPlain': WHATEVER THE INPUT: true; the input reads as it did. -/
def fnExactIsPlainSpec : ChangeSpec := { name := "fnExactIsPlain", fn := fun _ => fun
  | [d] => { results := [.lit (.bool true)], args := [d] }
  | _ => none }
def fnExactIsPlainRow : OpenClaim := { program := "ytmcnldekpjjgcaa", sum := "49a44e3073760a05d826edee8afeaa6620bfed90323b75a1b7a2077855fc4e7c", func := "loop.example/g00447/laws.FnExactIsPlain", spec := "fnExactIsPlain", unfollowed := true, recurses := true, apart := false }
def FnExactIsPlainSaid : Prop := fnExactIsPlainRow.holds Try.pinned (OpenSpec.ofChange fnExactIsPlainSpec)

/-- ITS FALSE NEIGHBOUR: 'it returns false'. Refute it at one input. -/
def fnExactIsPlainWrong : ChangeSpec := { name := "fnExactIsPlain", fn := fun _ => fun
  | [d] => { results := [.lit (.bool false)], args := [d] }
  | _ => none }
def FnExactIsPlainWrongFalsely : Prop := fnExactIsPlainRow.holds Try.pinned (OpenSpec.ofChange fnExactIsPlainWrong)

/-- 'laws.FnExactHasChar': WHATEVER THE INPUT: true; the input reads as it did. -/
def fnExactHasCharSpec : ChangeSpec := { name := "fnExactHasChar", fn := fun _ => fun
  | [d1, d2] => { results := [.lit (.bool true)], args := [d1, d2] }
  | _ => none }
def fnExactHasCharRow : OpenClaim := { program := "ytmcnldekpjjgcaa", sum := "49a44e3073760a05d826edee8afeaa6620bfed90323b75a1b7a2077855fc4e7c", func := "loop.example/g00447/laws.FnExactHasChar", spec := "fnExactHasChar", apart := false }
def FnExactHasCharSaid : Prop := fnExactHasCharRow.holds Try.pinned (OpenSpec.ofChange fnExactHasCharSpec)

/-- ITS FALSE NEIGHBOUR: 'it returns false'. Refute it at one input. -/
def fnExactHasCharWrong : ChangeSpec := { name := "fnExactHasChar", fn := fun _ => fun
  | [d1, d2] => { results := [.lit (.bool false)], args := [d1, d2] }
  | _ => none }
def FnExactHasCharWrongFalsely : Prop := fnExactHasCharRow.holds Try.pinned (OpenSpec.ofChange fnExactHasCharWrong)

/-- 'laws.FnExactCodesFault': WHATEVER THE INPUT: true; the input reads as it did. -/
def fnExactCodesFaultSpec : ChangeSpec := { name := "fnExactCodesFault", fn := fun _ => fun
  | [d] => { results := [.lit (.bool true)], args := [d] }
  | _ => none }
def fnExactCodesFaultRow : OpenClaim := { program := "ytmcnldekpjjgcaa", sum := "49a44e3073760a05d826edee8afeaa6620bfed90323b75a1b7a2077855fc4e7c", func := "loop.example/g00447/laws.FnExactCodesFault", spec := "fnExactCodesFault", unfollowed := true, recurses := true, apart := false }
def FnExactCodesFaultSaid : Prop := fnExactCodesFaultRow.holds Try.pinned (OpenSpec.ofChange fnExactCodesFaultSpec)

/-- ITS FALSE NEIGHBOUR: 'it returns false'. Refute it at one input. -/
def fnExactCodesFaultWrong : ChangeSpec := { name := "fnExactCodesFault", fn := fun _ => fun
  | [d] => { results := [.lit (.bool false)], args := [d] }
  | _ => none }
def FnExactCodesFaultWrongFalsely : Prop := fnExactCodesFaultRow.holds Try.pinned (OpenSpec.ofChange fnExactCodesFaultWrong)

/-- 'laws.FnExactCharsetOf': WHATEVER THE INPUT: true; the input reads as it did. -/
def fnExactCharsetOfSpec : ChangeSpec := { name := "fnExactCharsetOf", fn := fun _ => fun
  | [d] => { results := [.lit (.bool true)], args := [d] }
  | _ => none }
def fnExactCharsetOfRow : OpenClaim := { program := "ytmcnldekpjjgcaa", sum := "49a44e3073760a05d826edee8afeaa6620bfed90323b75a1b7a2077855fc4e7c", func := "loop.example/g00447/laws.FnExactCharsetOf", spec := "fnExactCharsetOf", apart := false }
def FnExactCharsetOfSaid : Prop := fnExactCharsetOfRow.holds Try.pinned (OpenSpec.ofChange fnExactCharsetOfSpec)

/-- ITS FALSE NEIGHBOUR: 'it returns false'. Refute it at one input. -/
def fnExactCharsetOfWrong : ChangeSpec := { name := "fnExactCharsetOf", fn := fun _ => fun
  | [d] => { results := [.lit (.bool false)], args := [d] }
  | _ => none }
def FnExactCharsetOfWrongFalsely : Prop := fnExactCharsetOfRow.holds Try.pinned (OpenSpec.ofChange fnExactCharsetOfWrong)

/-- 'laws.FnExactMapChar': WHATEVER THE INPUT: true; the input reads as it did. -/
def fnExactMapCharSpec : ChangeSpec := { name := "fnExactMapChar", fn := fun _ => fun
  | [d1, d2] => { results := [.lit (.bool true)], args := [d1, d2] }
  | _ => none }
def fnExactMapCharRow : OpenClaim := { program := "ytmcnldekpjjgcaa", sum := "49a44e3073760a05d826edee8afeaa6620bfed90323b75a1b7a2077855fc4e7c", func := "loop.example/g00447/laws.FnExactMapChar", spec := "fnExactMapChar", apart := false }
def FnExactMapCharSaid : Prop := fnExactMapCharRow.holds Try.pinned (OpenSpec.ofChange fnExactMapCharSpec)

/-- ITS FALSE NEIGHBOUR: 'it returns false'. Refute it at one input. -/
def fnExactMapCharWrong : ChangeSpec := { name := "fnExactMapChar", fn := fun _ => fun
  | [d1, d2] => { results := [.lit (.bool false)], args := [d1, d2] }
  | _ => none }
def FnExactMapCharWrongFalsely : Prop := fnExactMapCharRow.holds Try.pinned (OpenSpec.ofChange fnExactMapCharWrong)

/-- 'laws.FnExactEncodeBase': WHATEVER THE INPUT: true; the input reads as it did. -/
def fnExactEncodeBaseSpec : ChangeSpec := { name := "fnExactEncodeBase", fn := fun _ => fun
  | [d] => { results := [.lit (.bool true)], args := [d] }
  | _ => none }
def fnExactEncodeBaseRow : OpenClaim := { program := "ytmcnldekpjjgcaa", sum := "49a44e3073760a05d826edee8afeaa6620bfed90323b75a1b7a2077855fc4e7c", func := "loop.example/g00447/laws.FnExactEncodeBase", spec := "fnExactEncodeBase", apart := false }
def FnExactEncodeBaseSaid : Prop := fnExactEncodeBaseRow.holds Try.pinned (OpenSpec.ofChange fnExactEncodeBaseSpec)

/-- ITS FALSE NEIGHBOUR: 'it returns false'. Refute it at one input. -/
def fnExactEncodeBaseWrong : ChangeSpec := { name := "fnExactEncodeBase", fn := fun _ => fun
  | [d] => { results := [.lit (.bool false)], args := [d] }
  | _ => none }
def FnExactEncodeBaseWrongFalsely : Prop := fnExactEncodeBaseRow.holds Try.pinned (OpenSpec.ofChange fnExactEncodeBaseWrong)

/-- 'laws.FnExactEncodeQuoted': WHATEVER THE INPUT: true; the input reads as it did. -/
def fnExactEncodeQuotedSpec : ChangeSpec := { name := "fnExactEncodeQuoted", fn := fun _ => fun
  | [d] => { results := [.lit (.bool true)], args := [d] }
  | _ => none }
def fnExactEncodeQuotedRow : OpenClaim := { program := "ytmcnldekpjjgcaa", sum := "49a44e3073760a05d826edee8afeaa6620bfed90323b75a1b7a2077855fc4e7c", func := "loop.example/g00447/laws.FnExactEncodeQuoted", spec := "fnExactEncodeQuoted", inPlace := ["internal/abi.NoEscape"], apart := false }
def FnExactEncodeQuotedSaid : Prop := fnExactEncodeQuotedRow.holds Try.pinned (OpenSpec.ofChange fnExactEncodeQuotedSpec)

/-- ITS FALSE NEIGHBOUR: 'it returns false'. Refute it at one input. -/
def fnExactEncodeQuotedWrong : ChangeSpec := { name := "fnExactEncodeQuoted", fn := fun _ => fun
  | [d] => { results := [.lit (.bool false)], args := [d] }
  | _ => none }
def FnExactEncodeQuotedWrongFalsely : Prop := fnExactEncodeQuotedRow.holds Try.pinned (OpenSpec.ofChange fnExactEncodeQuotedWrong)

/-- 'laws.FnExactSliceOf': WHATEVER THE INPUT: true; the input reads as it did. -/
def fnExactSliceOfSpec : ChangeSpec := { name := "fnExactSliceOf", fn := fun _ => fun
  | [d1, d2, d3] => { results := [.lit (.bool true)], args := [d1, d2, d3] }
  | _ => none }
def fnExactSliceOfRow : OpenClaim := { program := "ytmcnldekpjjgcaa", sum := "49a44e3073760a05d826edee8afeaa6620bfed90323b75a1b7a2077855fc4e7c", func := "loop.example/g00447/laws.FnExactSliceOf", spec := "fnExactSliceOf", apart := false }
def FnExactSliceOfSaid : Prop := fnExactSliceOfRow.holds Try.pinned (OpenSpec.ofChange fnExactSliceOfSpec)

/-- ITS FALSE NEIGHBOUR: 'it returns false'. Refute it at one input. -/
def fnExactSliceOfWrong : ChangeSpec := { name := "fnExactSliceOf", fn := fun _ => fun
  | [d1, d2, d3] => { results := [.lit (.bool false)], args := [d1, d2, d3] }
  | _ => none }
def FnExactSliceOfWrongFalsely : Prop := fnExactSliceOfRow.holds Try.pinned (OpenSpec.ofChange fnExactSliceOfWrong)

/- THE SECOND FORM. 'bulk': how many values and letters a reading holds, each counted each time it is reached (what is shared counts as often as it is met; a slice's spare places count too). A statement '..UptoSaid' is the law's where the arguments, and the package variables that the reading takes, are together of bulk at most 1048576: NARROWER than '..Said'. Prove '..Said' where nothing that the law and all that it calls make is longer than what came in: it says more and counts as full. Else prove '..UptoSaid'. A law counts once. -/
mutual
def uptoBulk {H : Type} : DataW H → Nat
  | .lit (.string bytes) => bytes.length + 1
  | .lit _ => 1
  | .nil => 1
  | .ptr d => uptoBulk d + 1
  | .slice elems spare => uptoBulkAll elems + uptoBulkAll spare + 1
  | .agg parts => uptoBulkAll parts + 1
  | .iface _ d => uptoBulk d + 1
  | .map entries => uptoBulkEntries entries + 1
  | .held _ => 1
def uptoBulkAll {H : Type} : List (DataW H) → Nat
  | [] => 0
  | d :: r => uptoBulk d + uptoBulkAll r
def uptoBulkEntries {H : Type} : List (Lit × DataW H) → Nat
  | [] => 0
  | x :: r => uptoBulkEntry x + uptoBulkEntries r
def uptoBulkEntry {H : Type} : Lit × DataW H → Nat
  | (.string bytes, d) => bytes.length + uptoBulk d + 1
  | (_, d) => uptoBulk d + 1
 end
def uptoSmall : (H : Type) → List (DataW H) → Bool := fun _ ds => decide (uptoBulkAll ds ≤ 1048576)
def OpenSpec.upto (s : _root_.Go.ChangeSpec) : _root_.Go.OpenSpec := { _root_.Go.OpenSpec.ofChange s with cond := some uptoSmall }

/-- 'laws.FnExactConstants', WHERE WHAT IT READS IS OF BULK AT MOST 1048576: true; the input reads as it did. -/
def fnExactConstantsUptoRow : OpenClaim := { program := "ytmcnldekpjjgcaa", sum := "49a44e3073760a05d826edee8afeaa6620bfed90323b75a1b7a2077855fc4e7c", func := "loop.example/g00447/laws.FnExactConstants", spec := "fnExactConstants", apart := false, narrowed := true }
def FnExactConstantsUptoSaid : Prop := fnExactConstantsUptoRow.holds Try.pinned (OpenSpec.upto fnExactConstantsSpec)

/-- 'laws.FnExactBaseDigit', WHERE WHAT IT READS IS OF BULK AT MOST 1048576: true; the input reads as it did. -/
def fnExactBaseDigitUptoRow : OpenClaim := { program := "ytmcnldekpjjgcaa", sum := "49a44e3073760a05d826edee8afeaa6620bfed90323b75a1b7a2077855fc4e7c", func := "loop.example/g00447/laws.FnExactBaseDigit", spec := "fnExactBaseDigit", apart := false, narrowed := true }
def FnExactBaseDigitUptoSaid : Prop := fnExactBaseDigitUptoRow.holds Try.pinned (OpenSpec.upto fnExactBaseDigitSpec)

/-- 'laws.FnExactCharsetName', WHERE WHAT IT READS IS OF BULK AT MOST 1048576: true; the input reads as it did. -/
def fnExactCharsetNameUptoRow : OpenClaim := { program := "ytmcnldekpjjgcaa", sum := "49a44e3073760a05d826edee8afeaa6620bfed90323b75a1b7a2077855fc4e7c", func := "loop.example/g00447/laws.FnExactCharsetName", spec := "fnExactCharsetName", apart := false, narrowed := true }
def FnExactCharsetNameUptoSaid : Prop := fnExactCharsetNameUptoRow.holds Try.pinned (OpenSpec.upto fnExactCharsetNameSpec)

/-- 'laws.FnExactComparatorOf', WHERE WHAT IT READS IS OF BULK AT MOST 1048576: true; the input reads as it did. -/
def fnExactComparatorOfUptoRow : OpenClaim := { program := "ytmcnldekpjjgcaa", sum := "49a44e3073760a05d826edee8afeaa6620bfed90323b75a1b7a2077855fc4e7c", func := "loop.example/g00447/laws.FnExactComparatorOf", spec := "fnExactComparatorOf", apart := false, narrowed := true }
def FnExactComparatorOfUptoSaid : Prop := fnExactComparatorOfUptoRow.holds Try.pinned (OpenSpec.upto fnExactComparatorOfSpec)

/-- 'laws.FnExactIsPlain', WHERE WHAT IT READS IS OF BULK AT MOST 1048576: true; the input reads as it did. -/
def fnExactIsPlainUptoRow : OpenClaim := { program := "ytmcnldekpjjgcaa", sum := "49a44e3073760a05d826edee8afeaa6620bfed90323b75a1b7a2077855fc4e7c", func := "loop.example/g00447/laws.FnExactIsPlain", spec := "fnExactIsPlain", unfollowed := true, recurses := true, apart := false, narrowed := true }
def FnExactIsPlainUptoSaid : Prop := fnExactIsPlainUptoRow.holds Try.pinned (OpenSpec.upto fnExactIsPlainSpec)

/-- 'laws.FnExactHasChar', WHERE WHAT IT READS IS OF BULK AT MOST 1048576: true; the input reads as it did. -/
def fnExactHasCharUptoRow : OpenClaim := { program := "ytmcnldekpjjgcaa", sum := "49a44e3073760a05d826edee8afeaa6620bfed90323b75a1b7a2077855fc4e7c", func := "loop.example/g00447/laws.FnExactHasChar", spec := "fnExactHasChar", apart := false, narrowed := true }
def FnExactHasCharUptoSaid : Prop := fnExactHasCharUptoRow.holds Try.pinned (OpenSpec.upto fnExactHasCharSpec)

/-- 'laws.FnExactCodesFault', WHERE WHAT IT READS IS OF BULK AT MOST 1048576: true; the input reads as it did. -/
def fnExactCodesFaultUptoRow : OpenClaim := { program := "ytmcnldekpjjgcaa", sum := "49a44e3073760a05d826edee8afeaa6620bfed90323b75a1b7a2077855fc4e7c", func := "loop.example/g00447/laws.FnExactCodesFault", spec := "fnExactCodesFault", unfollowed := true, recurses := true, apart := false, narrowed := true }
def FnExactCodesFaultUptoSaid : Prop := fnExactCodesFaultUptoRow.holds Try.pinned (OpenSpec.upto fnExactCodesFaultSpec)

/-- 'laws.FnExactCharsetOf', WHERE WHAT IT READS IS OF BULK AT MOST 1048576: true; the input reads as it did. -/
def fnExactCharsetOfUptoRow : OpenClaim := { program := "ytmcnldekpjjgcaa", sum := "49a44e3073760a05d826edee8afeaa6620bfed90323b75a1b7a2077855fc4e7c", func := "loop.example/g00447/laws.FnExactCharsetOf", spec := "fnExactCharsetOf", apart := false, narrowed := true }
def FnExactCharsetOfUptoSaid : Prop := fnExactCharsetOfUptoRow.holds Try.pinned (OpenSpec.upto fnExactCharsetOfSpec)

/-- 'laws.FnExactMapChar', WHERE WHAT IT READS IS OF BULK AT MOST 1048576: true; the input reads as it did. -/
def fnExactMapCharUptoRow : OpenClaim := { program := "ytmcnldekpjjgcaa", sum := "49a44e3073760a05d826edee8afeaa6620bfed90323b75a1b7a2077855fc4e7c", func := "loop.example/g00447/laws.FnExactMapChar", spec := "fnExactMapChar", apart := false, narrowed := true }
def FnExactMapCharUptoSaid : Prop := fnExactMapCharUptoRow.holds Try.pinned (OpenSpec.upto fnExactMapCharSpec)

/-- 'laws.FnExactEncodeBase', WHERE WHAT IT READS IS OF BULK AT MOST 1048576: true; the input reads as it did. -/
def fnExactEncodeBaseUptoRow : OpenClaim := { program := "ytmcnldekpjjgcaa", sum := "49a44e3073760a05d826edee8afeaa6620bfed90323b75a1b7a2077855fc4e7c", func := "loop.example/g00447/laws.FnExactEncodeBase", spec := "fnExactEncodeBase", apart := false, narrowed := true }
def FnExactEncodeBaseUptoSaid : Prop := fnExactEncodeBaseUptoRow.holds Try.pinned (OpenSpec.upto fnExactEncodeBaseSpec)

/-- 'laws.FnExactEncodeQuoted', WHERE WHAT IT READS IS OF BULK AT MOST 1048576: true; the input reads as it did. -/
def fnExactEncodeQuotedUptoRow : OpenClaim := { program := "ytmcnldekpjjgcaa", sum := "49a44e3073760a05d826edee8afeaa6620bfed90323b75a1b7a2077855fc4e7c", func := "loop.example/g00447/laws.FnExactEncodeQuoted", spec := "fnExactEncodeQuoted", inPlace := ["internal/abi.NoEscape"], apart := false, narrowed := true }
def FnExactEncodeQuotedUptoSaid : Prop := fnExactEncodeQuotedUptoRow.holds Try.pinned (OpenSpec.upto fnExactEncodeQuotedSpec)

/-- 'laws.FnExactSliceOf', WHERE WHAT IT READS IS OF BULK AT MOST 1048576: true; the input reads as it did. -/
def fnExactSliceOfUptoRow : OpenClaim := { program := "ytmcnldekpjjgcaa", sum := "49a44e3073760a05d826edee8afeaa6620bfed90323b75a1b7a2077855fc4e7c", func := "loop.example/g00447/laws.FnExactSliceOf", spec := "fnExactSliceOf", apart := false, narrowed := true }
def FnExactSliceOfUptoSaid : Prop := fnExactSliceOfUptoRow.holds Try.pinned (OpenSpec.upto fnExactSliceOfSpec)

end Rows
end Go.Proofs.Ytmcnldekpjjgcaa
