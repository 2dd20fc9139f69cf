/-
  No cell of these rows narrows 'for every input' (looked for: loops, veiled, ifaces, maps, wideKeys, modest, calm, conditions, laid).
  DERIVED. THE GIVEN ROWS OF THIS SEAT. 11 by the template 'for every input the law returns true; each argument reads behind the call as it read before'; 0 by the template 'total and deterministic' (their statements: YtcmndjbokgaihaaTotals.lean).
  GIVEN WITH THE SEED: the statements are not yours to turn. If you find one false, say at which input.
  Laid BY PROGRAM, IN A SANDBOX (cutbox-rows.mjs): the forced cells as the released guide's own fill.sh prints them over the translation e5bb1507ce954f3f… (all of the seat's roots in one cut). By AI agents, Wed Nov 11 2026. No macro, syntax, notation, axiom, sorry.
-/
import Derived.Test.YtcmndjbokgaihaaChecked
import GoSem.Claim
import GoSem.ClaimJoined
import GoSem.ClaimMapViews
import Derived.JoinedTies
import Derived.KernelRfl
namespace Go.Proofs.Ytcmndjbokgaihaa
/- THE CELL 'sum', in the pinned program and in every row, IS THE sha256 OF THE DUMP (.gsa) THAT YtcmndjbokgaihaaProg.lean LOADS. Nothing in Lean hashes anything: it is a label: what it is worth is what the hold of that sum in a sandbox is worth. -/
noncomputable def Try.pinned : Pinned := { name := "ytcmndjbokgaihaa", sum := "e5bb1507ce954f3faf37650c805326ca4dd8da715c5740a7b9d181af7170ca2b", checked := Try.checked }
namespace Rows
def none {H : Type} : Left H := { results := [], args := [] }

/-- 'laws.FnNames': WHATEVER THE INPUT: true; the input reads as it did. -/
def fnNamesSpec : ChangeSpec := { name := "fnNames", fn := fun _ => fun
  | [d] => { results := [.lit (.bool true)], args := [d] }
  | _ => none }
def fnNamesRow : OpenClaim := { program := "ytcmndjbokgaihaa", sum := "e5bb1507ce954f3faf37650c805326ca4dd8da715c5740a7b9d181af7170ca2b", func := "loop.example/g00447/laws.FnNames", spec := "fnNames", apart := false }
def FnNamesSaid : Prop := fnNamesRow.holds Try.pinned (OpenSpec.ofChange fnNamesSpec)

/-- ITS FALSE NEIGHBOUR: 'it returns false'. Refute it at one input. -/
def fnNamesWrong : ChangeSpec := { name := "fnNames", fn := fun _ => fun
  | [d] => { results := [.lit (.bool false)], args := [d] }
  | _ => none }
def FnNamesWrongFalsely : Prop := fnNamesRow.holds Try.pinned (OpenSpec.ofChange fnNamesWrong)

/-- 'laws.FnExactDecodeQuoted': WHATEVER THE INPUT: true; the input reads as it did. -/
def fnExactDecodeQuotedSpec : ChangeSpec := { name := "fnExactDecodeQuoted", fn := fun _ => fun
  | [d] => { results := [.lit (.bool true)], args := [d] }
  | _ => none }
def fnExactDecodeQuotedRow : OpenClaim := { program := "ytcmndjbokgaihaa", sum := "e5bb1507ce954f3faf37650c805326ca4dd8da715c5740a7b9d181af7170ca2b", func := "loop.example/g00447/laws.FnExactDecodeQuoted", spec := "fnExactDecodeQuoted", inPlace := ["internal/bytealg.IndexByteString"], apart := false }
def FnExactDecodeQuotedSaid : Prop := fnExactDecodeQuotedRow.holds Try.pinned (OpenSpec.ofChange fnExactDecodeQuotedSpec)

/-- ITS FALSE NEIGHBOUR: 'it returns false'. Refute it at one input. -/
def fnExactDecodeQuotedWrong : ChangeSpec := { name := "fnExactDecodeQuoted", fn := fun _ => fun
  | [d] => { results := [.lit (.bool false)], args := [d] }
  | _ => none }
def FnExactDecodeQuotedWrongFalsely : Prop := fnExactDecodeQuotedRow.holds Try.pinned (OpenSpec.ofChange fnExactDecodeQuotedWrong)

/-- 'laws.FnExactHasCodes': WHATEVER THE INPUT: true; the input reads as it did. -/
def fnExactHasCodesSpec : ChangeSpec := { name := "fnExactHasCodes", fn := fun _ => fun
  | [d1, d2, d3] => { results := [.lit (.bool true)], args := [d1, d2, d3] }
  | _ => none }
def fnExactHasCodesRow : OpenClaim := { program := "ytcmndjbokgaihaa", sum := "e5bb1507ce954f3faf37650c805326ca4dd8da715c5740a7b9d181af7170ca2b", func := "loop.example/g00447/laws.FnExactHasCodes", spec := "fnExactHasCodes", unfollowed := true, recurses := true, apart := false }
def FnExactHasCodesSaid : Prop := fnExactHasCodesRow.holds Try.pinned (OpenSpec.ofChange fnExactHasCodesSpec)

/-- ITS FALSE NEIGHBOUR: 'it returns false'. Refute it at one input. -/
def fnExactHasCodesWrong : ChangeSpec := { name := "fnExactHasCodes", fn := fun _ => fun
  | [d1, d2, d3] => { results := [.lit (.bool false)], args := [d1, d2, d3] }
  | _ => none }
def FnExactHasCodesWrongFalsely : Prop := fnExactHasCodesRow.holds Try.pinned (OpenSpec.ofChange fnExactHasCodesWrong)

/-- 'laws.FnExactMapCodes': WHATEVER THE INPUT: true; the input reads as it did. -/
def fnExactMapCodesSpec : ChangeSpec := { name := "fnExactMapCodes", fn := fun _ => fun
  | [d1, d2] => { results := [.lit (.bool true)], args := [d1, d2] }
  | _ => none }
def fnExactMapCodesRow : OpenClaim := { program := "ytcmndjbokgaihaa", sum := "e5bb1507ce954f3faf37650c805326ca4dd8da715c5740a7b9d181af7170ca2b", func := "loop.example/g00447/laws.FnExactMapCodes", spec := "fnExactMapCodes", unfollowed := true, recurses := true, apart := false }
def FnExactMapCodesSaid : Prop := fnExactMapCodesRow.holds Try.pinned (OpenSpec.ofChange fnExactMapCodesSpec)

/-- ITS FALSE NEIGHBOUR: 'it returns false'. Refute it at one input. -/
def fnExactMapCodesWrong : ChangeSpec := { name := "fnExactMapCodes", fn := fun _ => fun
  | [d1, d2] => { results := [.lit (.bool false)], args := [d1, d2] }
  | _ => none }
def FnExactMapCodesWrongFalsely : Prop := fnExactMapCodesRow.holds Try.pinned (OpenSpec.ofChange fnExactMapCodesWrong)

/-- 'laws.FnExactCompareCodes': WHATEVER THE INPUT: true; the input reads as it did. -/
def fnExactCompareCodesSpec : ChangeSpec := { name := "fnExactCompareCodes", fn := fun _ => fun
  | [d1, d2, d3] => { results := [.lit (.bool true)], args := [d1, d2, d3] }
  | _ => none }
def fnExactCompareCodesRow : OpenClaim := { program := "ytcmndjbokgaihaa", sum := "e5bb1507ce954f3faf37650c805326ca4dd8da715c5740a7b9d181af7170ca2b", func := "loop.example/g00447/laws.FnExactCompareCodes", spec := "fnExactCompareCodes", unfollowed := true, recurses := true, apart := false }
def FnExactCompareCodesSaid : Prop := fnExactCompareCodesRow.holds Try.pinned (OpenSpec.ofChange fnExactCompareCodesSpec)

/-- ITS FALSE NEIGHBOUR: 'it returns false'. Refute it at one input. -/
def fnExactCompareCodesWrong : ChangeSpec := { name := "fnExactCompareCodes", fn := fun _ => fun
  | [d1, d2, d3] => { results := [.lit (.bool false)], args := [d1, d2, d3] }
  | _ => none }
def FnExactCompareCodesWrongFalsely : Prop := fnExactCompareCodesRow.holds Try.pinned (OpenSpec.ofChange fnExactCompareCodesWrong)

/-- 'laws.FnInside': WHATEVER THE INPUT: true; the input reads as it did. -/
def fnInsideSpec : ChangeSpec := { name := "fnInside", fn := fun _ => fun
  | [d] => { results := [.lit (.bool true)], args := [d] }
  | _ => none }
def fnInsideRow : OpenClaim := { program := "ytcmndjbokgaihaa", sum := "e5bb1507ce954f3faf37650c805326ca4dd8da715c5740a7b9d181af7170ca2b", func := "loop.example/g00447/laws.FnInside", spec := "fnInside", unfollowed := true, recurses := true, apart := false }
def FnInsideSaid : Prop := fnInsideRow.holds Try.pinned (OpenSpec.ofChange fnInsideSpec)

/-- ITS FALSE NEIGHBOUR: 'it returns false'. Refute it at one input. -/
def fnInsideWrong : ChangeSpec := { name := "fnInside", fn := fun _ => fun
  | [d] => { results := [.lit (.bool false)], args := [d] }
  | _ => none }
def FnInsideWrongFalsely : Prop := fnInsideRow.holds Try.pinned (OpenSpec.ofChange fnInsideWrong)

/-- 'laws.FnExactEncodeText': WHATEVER THE INPUT: true; the input reads as it did. -/
def fnExactEncodeTextSpec : ChangeSpec := { name := "fnExactEncodeText", fn := fun _ => fun
  | [d1, d2] => { results := [.lit (.bool true)], args := [d1, d2] }
  | _ => none }
def fnExactEncodeTextRow : OpenClaim := { program := "ytcmndjbokgaihaa", sum := "e5bb1507ce954f3faf37650c805326ca4dd8da715c5740a7b9d181af7170ca2b", func := "loop.example/g00447/laws.FnExactEncodeText", spec := "fnExactEncodeText", unfollowed := true, recurses := true, apart := false }
def FnExactEncodeTextSaid : Prop := fnExactEncodeTextRow.holds Try.pinned (OpenSpec.ofChange fnExactEncodeTextSpec)

/-- ITS FALSE NEIGHBOUR: 'it returns false'. Refute it at one input. -/
def fnExactEncodeTextWrong : ChangeSpec := { name := "fnExactEncodeText", fn := fun _ => fun
  | [d1, d2] => { results := [.lit (.bool false)], args := [d1, d2] }
  | _ => none }
def FnExactEncodeTextWrongFalsely : Prop := fnExactEncodeTextRow.holds Try.pinned (OpenSpec.ofChange fnExactEncodeTextWrong)

/-- 'laws.FnOrders': WHATEVER THE INPUT: true; the input reads as it did. -/
def fnOrdersSpec : ChangeSpec := { name := "fnOrders", fn := fun _ => fun
  | [d] => { results := [.lit (.bool true)], args := [d] }
  | _ => none }
def fnOrdersRow : OpenClaim := { program := "ytcmndjbokgaihaa", sum := "e5bb1507ce954f3faf37650c805326ca4dd8da715c5740a7b9d181af7170ca2b", func := "loop.example/g00447/laws.FnOrders", spec := "fnOrders", unfollowed := true, recurses := true, apart := false }
def FnOrdersSaid : Prop := fnOrdersRow.holds Try.pinned (OpenSpec.ofChange fnOrdersSpec)

/-- ITS FALSE NEIGHBOUR: 'it returns false'. Refute it at one input. -/
def fnOrdersWrong : ChangeSpec := { name := "fnOrders", fn := fun _ => fun
  | [d] => { results := [.lit (.bool false)], args := [d] }
  | _ => none }
def FnOrdersWrongFalsely : Prop := fnOrdersRow.holds Try.pinned (OpenSpec.ofChange fnOrdersWrong)

/-- 'laws.FnQuotes': WHATEVER THE INPUT: true; the input reads as it did. -/
def fnQuotesSpec : ChangeSpec := { name := "fnQuotes", fn := fun _ => fun
  | [d] => { results := [.lit (.bool true)], args := [d] }
  | _ => none }
def fnQuotesRow : OpenClaim := { program := "ytcmndjbokgaihaa", sum := "e5bb1507ce954f3faf37650c805326ca4dd8da715c5740a7b9d181af7170ca2b", func := "loop.example/g00447/laws.FnQuotes", spec := "fnQuotes", inPlace := ["internal/bytealg.IndexByteString", "internal/abi.NoEscape"], unfollowed := true, recurses := true, apart := false }
def FnQuotesSaid : Prop := fnQuotesRow.holds Try.pinned (OpenSpec.ofChange fnQuotesSpec)

/-- ITS FALSE NEIGHBOUR: 'it returns false'. Refute it at one input. -/
def fnQuotesWrong : ChangeSpec := { name := "fnQuotes", fn := fun _ => fun
  | [d] => { results := [.lit (.bool false)], args := [d] }
  | _ => none }
def FnQuotesWrongFalsely : Prop := fnQuotesRow.holds Try.pinned (OpenSpec.ofChange fnQuotesWrong)

/-- 'laws.FnMaps': WHATEVER THE INPUT: true; the input reads as it did. -/
def fnMapsSpec : ChangeSpec := { name := "fnMaps", fn := fun _ => fun
  | [d] => { results := [.lit (.bool true)], args := [d] }
  | _ => none }
def fnMapsRow : OpenClaim := { program := "ytcmndjbokgaihaa", sum := "e5bb1507ce954f3faf37650c805326ca4dd8da715c5740a7b9d181af7170ca2b", func := "loop.example/g00447/laws.FnMaps", spec := "fnMaps", unfollowed := true, recurses := true, apart := false }
def FnMapsSaid : Prop := fnMapsRow.holds Try.pinned (OpenSpec.ofChange fnMapsSpec)

/-- ITS FALSE NEIGHBOUR: 'it returns false'. Refute it at one input. -/
def fnMapsWrong : ChangeSpec := { name := "fnMaps", fn := fun _ => fun
  | [d] => { results := [.lit (.bool false)], args := [d] }
  | _ => none }
def FnMapsWrongFalsely : Prop := fnMapsRow.holds Try.pinned (OpenSpec.ofChange fnMapsWrong)

/-- 'laws.FnExactDecodeText': WHATEVER THE INPUT: true; the input reads as it did. -/
def fnExactDecodeTextSpec : ChangeSpec := { name := "fnExactDecodeText", fn := fun _ => fun
  | [d1, d2] => { results := [.lit (.bool true)], args := [d1, d2] }
  | _ => none }
def fnExactDecodeTextRow : OpenClaim := { program := "ytcmndjbokgaihaa", sum := "e5bb1507ce954f3faf37650c805326ca4dd8da715c5740a7b9d181af7170ca2b", func := "loop.example/g00447/laws.FnExactDecodeText", spec := "fnExactDecodeText", unfollowed := true, recurses := true, apart := false }
def FnExactDecodeTextSaid : Prop := fnExactDecodeTextRow.holds Try.pinned (OpenSpec.ofChange fnExactDecodeTextSpec)

/-- ITS FALSE NEIGHBOUR: 'it returns false'. Refute it at one input. -/
def fnExactDecodeTextWrong : ChangeSpec := { name := "fnExactDecodeText", fn := fun _ => fun
  | [d1, d2] => { results := [.lit (.bool false)], args := [d1, d2] }
  | _ => none }
def FnExactDecodeTextWrongFalsely : Prop := fnExactDecodeTextRow.holds Try.pinned (OpenSpec.ofChange fnExactDecodeTextWrong)

/- THE SECOND FORM. 'bulk': how many values and letters a reading holds, each counted each time it is reached (what is shared counts as often as it is met; a slice's spare places count too). A statement '..UptoSaid' is the law's where the arguments, and the package variables that the reading takes, are together of bulk at most 1048576: NARROWER than '..Said'. Prove '..Said' where nothing that the law and all that it calls make is longer than what came in: it says more and counts as full. Else prove '..UptoSaid'. A law counts once. -/
mutual
def uptoBulk {H : Type} : DataW H → Nat
  | .lit (.string bytes) => bytes.length + 1
  | .lit _ => 1
  | .nil => 1
  | .ptr d => uptoBulk d + 1
  | .slice elems spare => uptoBulkAll elems + uptoBulkAll spare + 1
  | .agg parts => uptoBulkAll parts + 1
  | .iface _ d => uptoBulk d + 1
  | .map entries => uptoBulkEntries entries + 1
  | .held _ => 1
def uptoBulkAll {H : Type} : List (DataW H) → Nat
  | [] => 0
  | d :: r => uptoBulk d + uptoBulkAll r
def uptoBulkEntries {H : Type} : List (Lit × DataW H) → Nat
  | [] => 0
  | x :: r => uptoBulkEntry x + uptoBulkEntries r
def uptoBulkEntry {H : Type} : Lit × DataW H → Nat
  | (.string bytes, d) => bytes.length + uptoBulk d + 1
  | (_, d) => uptoBulk d + 1
 end
def uptoSmall : (H : Type) → List (DataW H) → Bool := fun _ ds => decide (uptoBulkAll ds ≤ 1048576)
def OpenSpec.upto (s : _root_.Go.ChangeSpec) : _root_.Go.OpenSpec := { _root_.Go.OpenSpec.ofChange s with cond := some uptoSmall }

/-- 'laws.FnNames', WHERE WHAT IT READS IS OF BULK AT MOST 1048576: true; the input reads as it did. -/
def fnNamesUptoRow : OpenClaim := { program := "ytcmndjbokgaihaa", sum := "e5bb1507ce954f3faf37650c805326ca4dd8da715c5740a7b9d181af7170ca2b", func := "loop.example/g00447/laws.FnNames", spec := "fnNames", apart := false, narrowed := true }
def FnNamesUptoSaid : Prop := fnNamesUptoRow.holds Try.pinned (OpenSpec.upto fnNamesSpec)

/-- 'laws.FnExactDecodeQuoted', WHERE WHAT IT READS IS OF BULK AT MOST 1048576: true; the input reads as it did. -/
def fnExactDecodeQuotedUptoRow : OpenClaim := { program := "ytcmndjbokgaihaa", sum := "e5bb1507ce954f3faf37650c805326ca4dd8da715c5740a7b9d181af7170ca2b", func := "loop.example/g00447/laws.FnExactDecodeQuoted", spec := "fnExactDecodeQuoted", inPlace := ["internal/bytealg.IndexByteString"], apart := false, narrowed := true }
def FnExactDecodeQuotedUptoSaid : Prop := fnExactDecodeQuotedUptoRow.holds Try.pinned (OpenSpec.upto fnExactDecodeQuotedSpec)

/-- 'laws.FnExactHasCodes', WHERE WHAT IT READS IS OF BULK AT MOST 1048576: true; the input reads as it did. -/
def fnExactHasCodesUptoRow : OpenClaim := { program := "ytcmndjbokgaihaa", sum := "e5bb1507ce954f3faf37650c805326ca4dd8da715c5740a7b9d181af7170ca2b", func := "loop.example/g00447/laws.FnExactHasCodes", spec := "fnExactHasCodes", unfollowed := true, recurses := true, apart := false, narrowed := true }
def FnExactHasCodesUptoSaid : Prop := fnExactHasCodesUptoRow.holds Try.pinned (OpenSpec.upto fnExactHasCodesSpec)

/-- 'laws.FnExactMapCodes', WHERE WHAT IT READS IS OF BULK AT MOST 1048576: true; the input reads as it did. -/
def fnExactMapCodesUptoRow : OpenClaim := { program := "ytcmndjbokgaihaa", sum := "e5bb1507ce954f3faf37650c805326ca4dd8da715c5740a7b9d181af7170ca2b", func := "loop.example/g00447/laws.FnExactMapCodes", spec := "fnExactMapCodes", unfollowed := true, recurses := true, apart := false, narrowed := true }
def FnExactMapCodesUptoSaid : Prop := fnExactMapCodesUptoRow.holds Try.pinned (OpenSpec.upto fnExactMapCodesSpec)

/-- 'laws.FnExactCompareCodes', WHERE WHAT IT READS IS OF BULK AT MOST 1048576: true; the input reads as it did. -/
def fnExactCompareCodesUptoRow : OpenClaim := { program := "ytcmndjbokgaihaa", sum := "e5bb1507ce954f3faf37650c805326ca4dd8da715c5740a7b9d181af7170ca2b", func := "loop.example/g00447/laws.FnExactCompareCodes", spec := "fnExactCompareCodes", unfollowed := true, recurses := true, apart := false, narrowed := true }
def FnExactCompareCodesUptoSaid : Prop := fnExactCompareCodesUptoRow.holds Try.pinned (OpenSpec.upto fnExactCompareCodesSpec)

/-- 'laws.FnInside', WHERE WHAT IT READS IS OF BULK AT MOST 1048576: true; the input reads as it did. -/
def fnInsideUptoRow : OpenClaim := { program := "ytcmndjbokgaihaa", sum := "e5bb1507ce954f3faf37650c805326ca4dd8da715c5740a7b9d181af7170ca2b", func := "loop.example/g00447/laws.FnInside", spec := "fnInside", unfollowed := true, recurses := true, apart := false, narrowed := true }
def FnInsideUptoSaid : Prop := fnInsideUptoRow.holds Try.pinned (OpenSpec.upto fnInsideSpec)

/-- 'laws.FnExactEncodeText', WHERE WHAT IT READS IS OF BULK AT MOST 1048576: true; the input reads as it did. -/
def fnExactEncodeTextUptoRow : OpenClaim := { program := "ytcmndjbokgaihaa", sum := "e5bb1507ce954f3faf37650c805326ca4dd8da715c5740a7b9d181af7170ca2b", func := "loop.example/g00447/laws.FnExactEncodeText", spec := "fnExactEncodeText", unfollowed := true, recurses := true, apart := false, narrowed := true }
def FnExactEncodeTextUptoSaid : Prop := fnExactEncodeTextUptoRow.holds Try.pinned (OpenSpec.upto fnExactEncodeTextSpec)

/-- 'laws.FnOrders', WHERE WHAT IT READS IS OF BULK AT MOST 1048576: true; the input reads as it did. -/
def fnOrdersUptoRow : OpenClaim := { program := "ytcmndjbokgaihaa", sum := "e5bb1507ce954f3faf37650c805326ca4dd8da715c5740a7b9d181af7170ca2b", func := "loop.example/g00447/laws.FnOrders", spec := "fnOrders", unfollowed := true, recurses := true, apart := false, narrowed := true }
def FnOrdersUptoSaid : Prop := fnOrdersUptoRow.holds Try.pinned (OpenSpec.upto fnOrdersSpec)

/-- 'laws.FnQuotes', WHERE WHAT IT READS IS OF BULK AT MOST 1048576: true; the input reads as it did. -/
def fnQuotesUptoRow : OpenClaim := { program := "ytcmndjbokgaihaa", sum := "e5bb1507ce954f3faf37650c805326ca4dd8da715c5740a7b9d181af7170ca2b", func := "loop.example/g00447/laws.FnQuotes", spec := "fnQuotes", inPlace := ["internal/bytealg.IndexByteString", "internal/abi.NoEscape"], unfollowed := true, recurses := true, apart := false, narrowed := true }
def FnQuotesUptoSaid : Prop := fnQuotesUptoRow.holds Try.pinned (OpenSpec.upto fnQuotesSpec)

/-- 'laws.FnMaps', WHERE WHAT IT READS IS OF BULK AT MOST 1048576: true; the input reads as it did. -/
def fnMapsUptoRow : OpenClaim := { program := "ytcmndjbokgaihaa", sum := "e5bb1507ce954f3faf37650c805326ca4dd8da715c5740a7b9d181af7170ca2b", func := "loop.example/g00447/laws.FnMaps", spec := "fnMaps", unfollowed := true, recurses := true, apart := false, narrowed := true }
def FnMapsUptoSaid : Prop := fnMapsUptoRow.holds Try.pinned (OpenSpec.upto fnMapsSpec)

/-- 'laws.FnExactDecodeText', WHERE WHAT IT READS IS OF BULK AT MOST 1048576: true; the input reads as it did. -/
def fnExactDecodeTextUptoRow : OpenClaim := { program := "ytcmndjbokgaihaa", sum := "e5bb1507ce954f3faf37650c805326ca4dd8da715c5740a7b9d181af7170ca2b", func := "loop.example/g00447/laws.FnExactDecodeText", spec := "fnExactDecodeText", unfollowed := true, recurses := true, apart := false, narrowed := true }
def FnExactDecodeTextUptoSaid : Prop := fnExactDecodeTextUptoRow.holds Try.pinned (OpenSpec.upto fnExactDecodeTextSpec)

end Rows
end Go.Proofs.Ytcmndjbokgaihaa
