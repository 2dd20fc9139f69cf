/-
  DERIVED. GIVEN WITH THE SEED: THE CARDS: each row of YtecpanfndodjgaaDoorRows.lean that lists a variable, with what it lists TIED to the program's text (the seventh form; the later family's looks); each row that meets fmt, with fmt's text TOLD by the authors' own Lean function (tested against real Go, not proved from fmt's source: count such statements apart). THE CARD IS WHAT COUNTS. Prove the row's statement (the work); the ties are given (YtecpanfndodjgaaDoorTie.lean); close each card by the builder's one call (the guide's Derived/Test/ToyasCard.lean, 'card_holds'). Laid BY PROGRAM, IN A SANDBOX (cutbox-door.mjs). By AI agents, Wed Nov 11 2026. No macro, syntax, notation, axiom, sorry.
-/
import Derived.Test.YtecpanfndodjgaaDoorRows
import GoSem.ClaimSeven
namespace Go.Proofs.YtecpanfndodjgaaDoor
namespace Rows

/-- THE TIED CARD OF 'laws.FnExactTypeOf'. -/
def fnExactTypeOfCard : Claim7 := { stood := { row := fnExactTypeOfRow, standIns := [], harness := (true, "8411a0de51e2c34d86cd7236b2c801c07df51b05fa9766ca0736b8f527f48c96"), looks := false }, kinds := [], alts := [], laidByText := true, laidKinds := [.data, .pinned], laidTests := true, laidLooks := .later }
def FnExactTypeOfCardSaid : Prop := Claim7.holds Tryd.pinned (.plain (OpenSpec.ofChange fnExactTypeOfSpec)) fnExactTypeOfCard

/-- THE TIED CARD OF 'laws.FnExactBodyOf'. -/
def fnExactBodyOfCard : Claim7 := { stood := { row := fnExactBodyOfRow, standIns := [], harness := (true, "8411a0de51e2c34d86cd7236b2c801c07df51b05fa9766ca0736b8f527f48c96"), looks := false }, kinds := [], alts := [], laidByText := true, laidKinds := [.data, .pinned], laidTests := true, laidLooks := .later }
def FnExactBodyOfCardSaid : Prop := Claim7.holds Tryd.pinned (.plain (OpenSpec.ofChange fnExactBodyOfSpec)) fnExactBodyOfCard

/-- THE TIED CARD OF 'laws.FnExactPartAt'. -/
def fnExactPartAtCard : Claim7 := { stood := { row := fnExactPartAtRow, standIns := [], harness := (true, "8411a0de51e2c34d86cd7236b2c801c07df51b05fa9766ca0736b8f527f48c96"), looks := false }, kinds := [], alts := [], laidByText := true, laidKinds := [.data, .pinned], laidTests := true, laidLooks := .later }
def FnExactPartAtCardSaid : Prop := Claim7.holds Tryd.pinned (.plain (OpenSpec.ofChange fnExactPartAtSpec)) fnExactPartAtCard

/-- THE TIED CARD OF 'laws.FnExactPathOf'. -/
def fnExactPathOfCard : Claim7 := { stood := { row := fnExactPathOfRow, standIns := [], harness := (true, "8411a0de51e2c34d86cd7236b2c801c07df51b05fa9766ca0736b8f527f48c96"), looks := false }, kinds := [], alts := [], laidByText := true, laidKinds := [.data, .pinned], laidTests := true, laidLooks := .later }
def FnExactPathOfCardSaid : Prop := Claim7.holds Tryd.pinned (.plain (OpenSpec.ofChange fnExactPathOfSpec)) fnExactPathOfCard

/-- THE TIED CARD OF 'laws.FnExactParseParts'. -/
def fnExactParsePartsCard : Claim7 := { stood := { row := fnExactParsePartsRow, standIns := [], harness := (true, "8411a0de51e2c34d86cd7236b2c801c07df51b05fa9766ca0736b8f527f48c96"), looks := false }, kinds := [], alts := [], laidByText := true, laidKinds := [.data, .pinned], laidTests := true, laidLooks := .later }
def FnExactParsePartsCardSaid : Prop := Claim7.holds Tryd.pinned (.plain (OpenSpec.ofChange fnExactParsePartsSpec)) fnExactParsePartsCard

/-- THE TIED CARD OF 'laws.FnBuilds'. -/
def fnBuildsCard : Claim7 := { stood := { row := fnBuildsRow, standIns := [], harness := (true, "8411a0de51e2c34d86cd7236b2c801c07df51b05fa9766ca0736b8f527f48c96"), looks := false }, kinds := [], alts := [], laidByText := true, laidKinds := [.data, .pinned], laidTests := true, laidLooks := .later }
def FnBuildsCardSaid : Prop := Claim7.holds Tryd.pinned (.plain (OpenSpec.ofChange fnBuildsSpec)) fnBuildsCard

/-- THE SECOND FORM's CARD OF 'laws.FnExactTypeOf'. -/
def fnExactTypeOfUptoCard : Claim7 := { stood := { row := fnExactTypeOfUptoRow, standIns := [], harness := (true, "8411a0de51e2c34d86cd7236b2c801c07df51b05fa9766ca0736b8f527f48c96"), looks := false }, kinds := [], alts := [], laidByText := true, laidKinds := [.data, .pinned], laidTests := true, laidLooks := .later }
def FnExactTypeOfUptoCardSaid : Prop := Claim7.holds Tryd.pinned (.plain (OpenSpec.upto fnExactTypeOfSpec)) fnExactTypeOfUptoCard

/-- THE SECOND FORM's CARD OF 'laws.FnExactBodyOf'. -/
def fnExactBodyOfUptoCard : Claim7 := { stood := { row := fnExactBodyOfUptoRow, standIns := [], harness := (true, "8411a0de51e2c34d86cd7236b2c801c07df51b05fa9766ca0736b8f527f48c96"), looks := false }, kinds := [], alts := [], laidByText := true, laidKinds := [.data, .pinned], laidTests := true, laidLooks := .later }
def FnExactBodyOfUptoCardSaid : Prop := Claim7.holds Tryd.pinned (.plain (OpenSpec.upto fnExactBodyOfSpec)) fnExactBodyOfUptoCard

/-- THE SECOND FORM's CARD OF 'laws.FnExactPartAt'. -/
def fnExactPartAtUptoCard : Claim7 := { stood := { row := fnExactPartAtUptoRow, standIns := [], harness := (true, "8411a0de51e2c34d86cd7236b2c801c07df51b05fa9766ca0736b8f527f48c96"), looks := false }, kinds := [], alts := [], laidByText := true, laidKinds := [.data, .pinned], laidTests := true, laidLooks := .later }
def FnExactPartAtUptoCardSaid : Prop := Claim7.holds Tryd.pinned (.plain (OpenSpec.upto fnExactPartAtSpec)) fnExactPartAtUptoCard

/-- THE SECOND FORM's CARD OF 'laws.FnExactPathOf'. -/
def fnExactPathOfUptoCard : Claim7 := { stood := { row := fnExactPathOfUptoRow, standIns := [], harness := (true, "8411a0de51e2c34d86cd7236b2c801c07df51b05fa9766ca0736b8f527f48c96"), looks := false }, kinds := [], alts := [], laidByText := true, laidKinds := [.data, .pinned], laidTests := true, laidLooks := .later }
def FnExactPathOfUptoCardSaid : Prop := Claim7.holds Tryd.pinned (.plain (OpenSpec.upto fnExactPathOfSpec)) fnExactPathOfUptoCard

/-- THE SECOND FORM's CARD OF 'laws.FnExactParseParts'. -/
def fnExactParsePartsUptoCard : Claim7 := { stood := { row := fnExactParsePartsUptoRow, standIns := [], harness := (true, "8411a0de51e2c34d86cd7236b2c801c07df51b05fa9766ca0736b8f527f48c96"), looks := false }, kinds := [], alts := [], laidByText := true, laidKinds := [.data, .pinned], laidTests := true, laidLooks := .later }
def FnExactParsePartsUptoCardSaid : Prop := Claim7.holds Tryd.pinned (.plain (OpenSpec.upto fnExactParsePartsSpec)) fnExactParsePartsUptoCard

/-- THE SECOND FORM's CARD OF 'laws.FnBuilds'. -/
def fnBuildsUptoCard : Claim7 := { stood := { row := fnBuildsUptoRow, standIns := [], harness := (true, "8411a0de51e2c34d86cd7236b2c801c07df51b05fa9766ca0736b8f527f48c96"), looks := false }, kinds := [], alts := [], laidByText := true, laidKinds := [.data, .pinned], laidTests := true, laidLooks := .later }
def FnBuildsUptoCardSaid : Prop := Claim7.holds Tryd.pinned (.plain (OpenSpec.upto fnBuildsSpec)) fnBuildsUptoCard
end Rows
end Go.Proofs.YtecpanfndodjgaaDoor
