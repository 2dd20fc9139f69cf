/-
  DERIVED. GIVEN WITH THE SEED: THE CARDS: each row of YtcmndjbokgaihaaDoorRows.lean that lists a variable, with what it lists TIED to the program's text (the seventh form; the later family's looks); each row that meets fmt, with fmt's text TOLD by the authors' own Lean function (tested against real Go, not proved from fmt's source: count such statements apart). THE CARD IS WHAT COUNTS. Prove the row's statement (the work); the ties are given (YtcmndjbokgaihaaDoorTie.lean); close each card by the builder's one call (the guide's Derived/Test/ToyasCard.lean, 'card_holds'). Laid BY PROGRAM, IN A SANDBOX (cutbox-door.mjs). By AI agents, Wed Nov 11 2026. No macro, syntax, notation, axiom, sorry.
-/
import Derived.Test.YtcmndjbokgaihaaDoorRows
import GoSem.ClaimSeven
namespace Go.Proofs.YtcmndjbokgaihaaDoor
namespace Rows

/-- THE TIED CARD OF 'laws.FnExactDecodeBase'. -/
def fnExactDecodeBaseCard : Claim7 := { stood := { row := fnExactDecodeBaseRow, standIns := [], harness := (true, "30062714f3f1fa57bf96c51206e1541c5995973da5e3cf6ebbdff9cade858135"), looks := false }, kinds := [], alts := [], laidByText := true, laidKinds := [.data, .pinned], laidTests := true, laidLooks := .later }
def FnExactDecodeBaseCardSaid : Prop := Claim7.holds Tryd.pinned (.plain (OpenSpec.ofChange fnExactDecodeBaseSpec)) fnExactDecodeBaseCard

/-- THE SECOND FORM's CARD OF 'laws.FnExactDecodeBase'. -/
def fnExactDecodeBaseUptoCard : Claim7 := { stood := { row := fnExactDecodeBaseUptoRow, standIns := [], harness := (true, "30062714f3f1fa57bf96c51206e1541c5995973da5e3cf6ebbdff9cade858135"), looks := false }, kinds := [], alts := [], laidByText := true, laidKinds := [.data, .pinned], laidTests := true, laidLooks := .later }
def FnExactDecodeBaseUptoCardSaid : Prop := Claim7.holds Tryd.pinned (.plain (OpenSpec.upto fnExactDecodeBaseSpec)) fnExactDecodeBaseUptoCard
end Rows
end Go.Proofs.YtcmndjbokgaihaaDoor
