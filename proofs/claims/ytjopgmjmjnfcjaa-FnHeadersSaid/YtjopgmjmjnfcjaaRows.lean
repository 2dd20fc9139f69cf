/-
  No cell of these rows narrows 'for every input' (looked for: loops, veiled, ifaces, maps, wideKeys, modest, calm, conditions, laid).
  DERIVED. THE GIVEN ROWS OF THIS SEAT. 7 by the template 'for every input the law returns true; each argument reads behind the call as it read before'; 0 by the template 'total and deterministic' (their statements: YtjopgmjmjnfcjaaTotals.lean).
  GIVEN WITH THE SEED: the statements are not yours to turn. If you find one false, say at which input.
  Laid BY PROGRAM, IN A SANDBOX (cutbox-rows.mjs): the forced cells as the released guide's own fill.sh prints them over the translation 9e06bca112c0ce1e… (all of the seat's roots in one cut). By AI agents, Wed Nov 11 2026. No macro, syntax, notation, axiom, sorry.
-/
import Derived.Test.YtjopgmjmjnfcjaaChecked
import GoSem.Claim
import GoSem.ClaimJoined
import GoSem.ClaimMapViews
import Derived.JoinedTies
import Derived.KernelRfl
namespace Go.Proofs.Ytjopgmjmjnfcjaa
/- THE CELL 'sum', in the pinned program and in every row, IS THE sha256 OF THE DUMP (.gsa) THAT YtjopgmjmjnfcjaaProg.lean LOADS. Nothing in Lean hashes anything: it is a label: what it is worth is what the hold of that sum in a sandbox is worth. -/
noncomputable def Try.pinned : Pinned := { name := "ytjopgmjmjnfcjaa", sum := "9e06bca112c0ce1eb9ac7879bc56a4769fac1046196f35204e00308551a3ff0c", checked := Try.checked }
namespace Rows
def none {H : Type} : Left H := { results := [], args := [] }

/-- 'laws.FnCharsets': WHATEVER THE INPUT: true; the input reads as it did. -/
def fnCharsetsSpec : ChangeSpec := { name := "fnCharsets", fn := fun _ => fun
  | [d] => { results := [.lit (.bool true)], args := [d] }
  | _ => none }
def fnCharsetsRow : OpenClaim := { program := "ytjopgmjmjnfcjaa", sum := "9e06bca112c0ce1eb9ac7879bc56a4769fac1046196f35204e00308551a3ff0c", func := "loop.example/g00447/laws.FnCharsets", spec := "fnCharsets", unfollowed := true, recurses := true, apart := false }
def FnCharsetsSaid : Prop := fnCharsetsRow.holds Try.pinned (OpenSpec.ofChange fnCharsetsSpec)

/-- ITS FALSE NEIGHBOUR: 'it returns false'. Refute it at one input. -/
def fnCharsetsWrong : ChangeSpec := { name := "fnCharsets", fn := fun _ => fun
  | [d] => { results := [.lit (.bool false)], args := [d] }
  | _ => none }
def FnCharsetsWrongFalsely : Prop := fnCharsetsRow.holds Try.pinned (OpenSpec.ofChange fnCharsetsWrong)

/-- 'laws.FnExactFieldsFault': WHATEVER THE INPUT: true; the input reads as it did. -/
def fnExactFieldsFaultSpec : ChangeSpec := { name := "fnExactFieldsFault", fn := fun _ => fun
  | [d] => { results := [.lit (.bool true)], args := [d] }
  | _ => none }
def fnExactFieldsFaultRow : OpenClaim := { program := "ytjopgmjmjnfcjaa", sum := "9e06bca112c0ce1eb9ac7879bc56a4769fac1046196f35204e00308551a3ff0c", func := "loop.example/g00447/laws.FnExactFieldsFault", spec := "fnExactFieldsFault", apart := false }
def FnExactFieldsFaultSaid : Prop := fnExactFieldsFaultRow.holds Try.pinned (OpenSpec.ofChange fnExactFieldsFaultSpec)

/-- ITS FALSE NEIGHBOUR: 'it returns false'. Refute it at one input. -/
def fnExactFieldsFaultWrong : ChangeSpec := { name := "fnExactFieldsFault", fn := fun _ => fun
  | [d] => { results := [.lit (.bool false)], args := [d] }
  | _ => none }
def FnExactFieldsFaultWrongFalsely : Prop := fnExactFieldsFaultRow.holds Try.pinned (OpenSpec.ofChange fnExactFieldsFaultWrong)

/-- 'laws.FnExactFieldOf': WHATEVER THE INPUT: true; the input reads as it did. -/
def fnExactFieldOfSpec : ChangeSpec := { name := "fnExactFieldOf", fn := fun _ => fun
  | [d1, d2] => { results := [.lit (.bool true)], args := [d1, d2] }
  | _ => none }
def fnExactFieldOfRow : OpenClaim := { program := "ytjopgmjmjnfcjaa", sum := "9e06bca112c0ce1eb9ac7879bc56a4769fac1046196f35204e00308551a3ff0c", func := "loop.example/g00447/laws.FnExactFieldOf", spec := "fnExactFieldOf", apart := false }
def FnExactFieldOfSaid : Prop := fnExactFieldOfRow.holds Try.pinned (OpenSpec.ofChange fnExactFieldOfSpec)

/-- ITS FALSE NEIGHBOUR: 'it returns false'. Refute it at one input. -/
def fnExactFieldOfWrong : ChangeSpec := { name := "fnExactFieldOf", fn := fun _ => fun
  | [d1, d2] => { results := [.lit (.bool false)], args := [d1, d2] }
  | _ => none }
def FnExactFieldOfWrongFalsely : Prop := fnExactFieldOfRow.holds Try.pinned (OpenSpec.ofChange fnExactFieldOfWrong)

/-- 'laws.FnExactPackHeader': WHATEVER THE INPUT: true; the input reads as it did. -/
def fnExactPackHeaderSpec : ChangeSpec := { name := "fnExactPackHeader", fn := fun _ => fun
  | [d] => { results := [.lit (.bool true)], args := [d] }
  | _ => none }
def fnExactPackHeaderRow : OpenClaim := { program := "ytjopgmjmjnfcjaa", sum := "9e06bca112c0ce1eb9ac7879bc56a4769fac1046196f35204e00308551a3ff0c", func := "loop.example/g00447/laws.FnExactPackHeader", spec := "fnExactPackHeader", apart := false }
def FnExactPackHeaderSaid : Prop := fnExactPackHeaderRow.holds Try.pinned (OpenSpec.ofChange fnExactPackHeaderSpec)

/-- ITS FALSE NEIGHBOUR: 'it returns false'. Refute it at one input. -/
def fnExactPackHeaderWrong : ChangeSpec := { name := "fnExactPackHeader", fn := fun _ => fun
  | [d] => { results := [.lit (.bool false)], args := [d] }
  | _ => none }
def FnExactPackHeaderWrongFalsely : Prop := fnExactPackHeaderRow.holds Try.pinned (OpenSpec.ofChange fnExactPackHeaderWrong)

/-- 'laws.FnExactEncodeWords': WHATEVER THE INPUT: true; the input reads as it did. -/
def fnExactEncodeWordsSpec : ChangeSpec := { name := "fnExactEncodeWords", fn := fun _ => fun
  | [d] => { results := [.lit (.bool true)], args := [d] }
  | _ => none }
def fnExactEncodeWordsRow : OpenClaim := { program := "ytjopgmjmjnfcjaa", sum := "9e06bca112c0ce1eb9ac7879bc56a4769fac1046196f35204e00308551a3ff0c", func := "loop.example/g00447/laws.FnExactEncodeWords", spec := "fnExactEncodeWords", inPlace := ["internal/bytealg.IndexByteString", "internal/bytealg.IndexString"], unfollowed := true, recurses := true, named := ["internal/bytealg.MaxLen"], apart := false }
def FnExactEncodeWordsSaid : Prop := fnExactEncodeWordsRow.holds Try.pinned (OpenSpec.ofChange fnExactEncodeWordsSpec)

/-- ITS FALSE NEIGHBOUR: 'it returns false'. Refute it at one input. -/
def fnExactEncodeWordsWrong : ChangeSpec := { name := "fnExactEncodeWords", fn := fun _ => fun
  | [d] => { results := [.lit (.bool false)], args := [d] }
  | _ => none }
def FnExactEncodeWordsWrongFalsely : Prop := fnExactEncodeWordsRow.holds Try.pinned (OpenSpec.ofChange fnExactEncodeWordsWrong)

/-- 'laws.FnExactParseHeader': WHATEVER THE INPUT: true; the input reads as it did. -/
def fnExactParseHeaderSpec : ChangeSpec := { name := "fnExactParseHeader", fn := fun _ => fun
  | [d] => { results := [.lit (.bool true)], args := [d] }
  | _ => none }
def fnExactParseHeaderRow : OpenClaim := { program := "ytjopgmjmjnfcjaa", sum := "9e06bca112c0ce1eb9ac7879bc56a4769fac1046196f35204e00308551a3ff0c", func := "loop.example/g00447/laws.FnExactParseHeader", spec := "fnExactParseHeader", inPlace := ["internal/bytealg.IndexByte", "internal/bytealg.IndexByteString", "internal/bytealg.IndexString"], named := ["internal/bytealg.MaxLen"], apart := false }
def FnExactParseHeaderSaid : Prop := fnExactParseHeaderRow.holds Try.pinned (OpenSpec.ofChange fnExactParseHeaderSpec)

/-- ITS FALSE NEIGHBOUR: 'it returns false'. Refute it at one input. -/
def fnExactParseHeaderWrong : ChangeSpec := { name := "fnExactParseHeader", fn := fun _ => fun
  | [d] => { results := [.lit (.bool false)], args := [d] }
  | _ => none }
def FnExactParseHeaderWrongFalsely : Prop := fnExactParseHeaderRow.holds Try.pinned (OpenSpec.ofChange fnExactParseHeaderWrong)

/-- 'laws.FnHeaders': WHATEVER THE INPUT: true; the input reads as it did. -/
def fnHeadersSpec : ChangeSpec := { name := "fnHeaders", fn := fun _ => fun
  | [d] => { results := [.lit (.bool true)], args := [d] }
  | _ => none }
def fnHeadersRow : OpenClaim := { program := "ytjopgmjmjnfcjaa", sum := "9e06bca112c0ce1eb9ac7879bc56a4769fac1046196f35204e00308551a3ff0c", func := "loop.example/g00447/laws.FnHeaders", spec := "fnHeaders", inPlace := ["internal/bytealg.IndexByte", "internal/bytealg.IndexByteString", "internal/bytealg.IndexString"], named := ["internal/bytealg.MaxLen"], apart := false }
def FnHeadersSaid : Prop := fnHeadersRow.holds Try.pinned (OpenSpec.ofChange fnHeadersSpec)

/-- ITS FALSE NEIGHBOUR: 'it returns false'. Refute it at one input. -/
def fnHeadersWrong : ChangeSpec := { name := "fnHeaders", fn := fun _ => fun
  | [d] => { results := [.lit (.bool false)], args := [d] }
  | _ => none }
def FnHeadersWrongFalsely : Prop := fnHeadersRow.holds Try.pinned (OpenSpec.ofChange fnHeadersWrong)

/- THE SECOND FORM. 'bulk': how many values and letters a reading holds, each counted each time it is reached (what is shared counts as often as it is met; a slice's spare places count too). A statement '..UptoSaid' is the law's where the arguments, and the package variables that the reading takes, are together of bulk at most 1048576: NARROWER than '..Said'. Prove '..Said' where nothing that the law and all that it calls make is longer than what came in: it says more and counts as full. Else prove '..UptoSaid'. A law counts once. -/
mutual
def uptoBulk {H : Type} : DataW H → Nat
  | .lit (.string bytes) => bytes.length + 1
  | .lit _ => 1
  | .nil => 1
  | .ptr d => uptoBulk d + 1
  | .slice elems spare => uptoBulkAll elems + uptoBulkAll spare + 1
  | .agg parts => uptoBulkAll parts + 1
  | .iface _ d => uptoBulk d + 1
  | .map entries => uptoBulkEntries entries + 1
  | .held _ => 1
def uptoBulkAll {H : Type} : List (DataW H) → Nat
  | [] => 0
  | d :: r => uptoBulk d + uptoBulkAll r
def uptoBulkEntries {H : Type} : List (Lit × DataW H) → Nat
  | [] => 0
  | x :: r => uptoBulkEntry x + uptoBulkEntries r
def uptoBulkEntry {H : Type} : Lit × DataW H → Nat
  | (.string bytes, d) => bytes.length + uptoBulk d + 1
  | (_, d) => uptoBulk d + 1
 end
def uptoSmall : (H : Type) → List (DataW H) → Bool := fun _ ds => decide (uptoBulkAll ds ≤ 1048576)
def OpenSpec.upto (s : _root_.Go.ChangeSpec) : _root_.Go.OpenSpec := { _root_.Go.OpenSpec.ofChange s with cond := some uptoSmall }

/-- 'laws.FnCharsets', WHERE WHAT IT READS IS OF BULK AT MOST 1048576: true; the input reads as it did. -/
def fnCharsetsUptoRow : OpenClaim := { program := "ytjopgmjmjnfcjaa", sum := "9e06bca112c0ce1eb9ac7879bc56a4769fac1046196f35204e00308551a3ff0c", func := "loop.example/g00447/laws.FnCharsets", spec := "fnCharsets", unfollowed := true, recurses := true, apart := false, narrowed := true }
def FnCharsetsUptoSaid : Prop := fnCharsetsUptoRow.holds Try.pinned (OpenSpec.upto fnCharsetsSpec)

/-- 'laws.FnExactFieldsFault', WHERE WHAT IT READS IS OF BULK AT MOST 1048576: true; the input reads as it did. -/
def fnExactFieldsFaultUptoRow : OpenClaim := { program := "ytjopgmjmjnfcjaa", sum := "9e06bca112c0ce1eb9ac7879bc56a4769fac1046196f35204e00308551a3ff0c", func := "loop.example/g00447/laws.FnExactFieldsFault", spec := "fnExactFieldsFault", apart := false, narrowed := true }
def FnExactFieldsFaultUptoSaid : Prop := fnExactFieldsFaultUptoRow.holds Try.pinned (OpenSpec.upto fnExactFieldsFaultSpec)

/-- 'laws.FnExactFieldOf', WHERE WHAT IT READS IS OF BULK AT MOST 1048576: true; the input reads as it did. -/
def fnExactFieldOfUptoRow : OpenClaim := { program := "ytjopgmjmjnfcjaa", sum := "9e06bca112c0ce1eb9ac7879bc56a4769fac1046196f35204e00308551a3ff0c", func := "loop.example/g00447/laws.FnExactFieldOf", spec := "fnExactFieldOf", apart := false, narrowed := true }
def FnExactFieldOfUptoSaid : Prop := fnExactFieldOfUptoRow.holds Try.pinned (OpenSpec.upto fnExactFieldOfSpec)

/-- 'laws.FnExactPackHeader', WHERE WHAT IT READS IS OF BULK AT MOST 1048576: true; the input reads as it did. -/
def fnExactPackHeaderUptoRow : OpenClaim := { program := "ytjopgmjmjnfcjaa", sum := "9e06bca112c0ce1eb9ac7879bc56a4769fac1046196f35204e00308551a3ff0c", func := "loop.example/g00447/laws.FnExactPackHeader", spec := "fnExactPackHeader", apart := false, narrowed := true }
def FnExactPackHeaderUptoSaid : Prop := fnExactPackHeaderUptoRow.holds Try.pinned (OpenSpec.upto fnExactPackHeaderSpec)

/-- 'laws.FnExactEncodeWords', WHERE WHAT IT READS IS OF BULK AT MOST 1048576: true; the input reads as it did. -/
def fnExactEncodeWordsUptoRow : OpenClaim := { program := "ytjopgmjmjnfcjaa", sum := "9e06bca112c0ce1eb9ac7879bc56a4769fac1046196f35204e00308551a3ff0c", func := "loop.example/g00447/laws.FnExactEncodeWords", spec := "fnExactEncodeWords", inPlace := ["internal/bytealg.IndexByteString", "internal/bytealg.IndexString"], unfollowed := true, recurses := true, named := ["internal/bytealg.MaxLen"], apart := false, narrowed := true }
def FnExactEncodeWordsUptoSaid : Prop := fnExactEncodeWordsUptoRow.holds Try.pinned (OpenSpec.upto fnExactEncodeWordsSpec)

/-- 'laws.FnExactParseHeader', WHERE WHAT IT READS IS OF BULK AT MOST 1048576: true; the input reads as it did. -/
def fnExactParseHeaderUptoRow : OpenClaim := { program := "ytjopgmjmjnfcjaa", sum := "9e06bca112c0ce1eb9ac7879bc56a4769fac1046196f35204e00308551a3ff0c", func := "loop.example/g00447/laws.FnExactParseHeader", spec := "fnExactParseHeader", inPlace := ["internal/bytealg.IndexByte", "internal/bytealg.IndexByteString", "internal/bytealg.IndexString"], named := ["internal/bytealg.MaxLen"], apart := false, narrowed := true }
def FnExactParseHeaderUptoSaid : Prop := fnExactParseHeaderUptoRow.holds Try.pinned (OpenSpec.upto fnExactParseHeaderSpec)

/-- 'laws.FnHeaders', WHERE WHAT IT READS IS OF BULK AT MOST 1048576: true; the input reads as it did. -/
def fnHeadersUptoRow : OpenClaim := { program := "ytjopgmjmjnfcjaa", sum := "9e06bca112c0ce1eb9ac7879bc56a4769fac1046196f35204e00308551a3ff0c", func := "loop.example/g00447/laws.FnHeaders", spec := "fnHeaders", inPlace := ["internal/bytealg.IndexByte", "internal/bytealg.IndexByteString", "internal/bytealg.IndexString"], named := ["internal/bytealg.MaxLen"], apart := false, narrowed := true }
def FnHeadersUptoSaid : Prop := fnHeadersUptoRow.holds Try.pinned (OpenSpec.upto fnHeadersSpec)

end Rows
end Go.Proofs.Ytjopgmjmjnfcjaa
