/-
  DERIVED. GIVEN WITH THE SEED: THE CARDS: each row of YtjopgmjmjnfcjaaGreatDoorRows.lean that lists a variable, with what it lists TIED to the program's text (the seventh form; the later family's looks); each row that meets fmt, with fmt's text TOLD by the authors' own Lean function (tested against real Go, not proved from fmt's source: count such statements apart). THE CARD IS WHAT COUNTS. Prove the row's statement (the work); the ties are given (YtjopgmjmjnfcjaaGreatDoorTie.lean); close each card by the builder's one call (the guide's Derived/Test/ToyasCard.lean, 'card_holds'). Laid BY PROGRAM, IN A SANDBOX (cutbox-door.mjs). By AI agents, Wed Nov 11 2026. No macro, syntax, notation, axiom, sorry.
-/
import Derived.Test.YtjopgmjmjnfcjaaGreatDoorRows
import GoSem.ClaimSeven
namespace Go.Proofs.YtjopgmjmjnfcjaaGreatDoor
namespace Rows

/-- THE TIED CARD OF 'laws.FnExactSubjectOf'. -/
def fnExactSubjectOfCard : Claim7 := { stood := { row := fnExactSubjectOfRow, standIns := [], harness := (true, "f5985e8512e05d4d0981e630164cd1936e0e6e5e7fe47be107e2db1123a133be"), looks := false }, kinds := [], alts := [], laidByText := true, laidKinds := [.data, .pinned], laidTests := true, laidLooks := .later }
def FnExactSubjectOfCardSaid : Prop := Claim7.holds Tryz.pinned (.plain (OpenSpec.ofChange fnExactSubjectOfSpec)) fnExactSubjectOfCard

/-- THE TIED CARD OF 'laws.FnWords'. -/
def fnWordsCard : Claim7 := { stood := { row := fnWordsRow, standIns := [], harness := (true, "f5985e8512e05d4d0981e630164cd1936e0e6e5e7fe47be107e2db1123a133be"), looks := false }, kinds := [], alts := [], laidByText := true, laidKinds := [.data, .pinned], laidTests := true, laidLooks := .later }
def FnWordsCardSaid : Prop := Claim7.holds Tryz.pinned (.plain (OpenSpec.ofChange fnWordsSpec)) fnWordsCard

/-- THE SECOND FORM's CARD OF 'laws.FnExactSubjectOf'. -/
def fnExactSubjectOfUptoCard : Claim7 := { stood := { row := fnExactSubjectOfUptoRow, standIns := [], harness := (true, "f5985e8512e05d4d0981e630164cd1936e0e6e5e7fe47be107e2db1123a133be"), looks := false }, kinds := [], alts := [], laidByText := true, laidKinds := [.data, .pinned], laidTests := true, laidLooks := .later }
def FnExactSubjectOfUptoCardSaid : Prop := Claim7.holds Tryz.pinned (.plain (OpenSpec.upto fnExactSubjectOfSpec)) fnExactSubjectOfUptoCard

/-- THE SECOND FORM's CARD OF 'laws.FnWords'. -/
def fnWordsUptoCard : Claim7 := { stood := { row := fnWordsUptoRow, standIns := [], harness := (true, "f5985e8512e05d4d0981e630164cd1936e0e6e5e7fe47be107e2db1123a133be"), looks := false }, kinds := [], alts := [], laidByText := true, laidKinds := [.data, .pinned], laidTests := true, laidLooks := .later }
def FnWordsUptoCardSaid : Prop := Claim7.holds Tryz.pinned (.plain (OpenSpec.upto fnWordsSpec)) fnWordsUptoCard
end Rows
end Go.Proofs.YtjopgmjmjnfcjaaGreatDoor
