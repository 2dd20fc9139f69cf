/-
  DERIVED. GIVEN WITH THE SEED: THE CARDS: each row of YtjopgmjmjnfcjaaDoorRows.lean that lists a variable, with what it lists TIED to the program's text (the seventh form; the later family's looks); each row that meets fmt, with fmt's text TOLD by the authors' own Lean function (tested against real Go, not proved from fmt's source: count such statements apart). THE CARD IS WHAT COUNTS. Prove the row's statement (the work); the ties are given (YtjopgmjmjnfcjaaDoorTie.lean); close each card by the builder's one call (the guide's Derived/Test/ToyasCard.lean, 'card_holds'). Laid BY PROGRAM, IN A SANDBOX (cutbox-door.mjs). By AI agents, Wed Nov 11 2026. No macro, syntax, notation, axiom, sorry.
-/
import Derived.Test.YtjopgmjmjnfcjaaDoorRows
import GoSem.ClaimSeven
namespace Go.Proofs.YtjopgmjmjnfcjaaDoor
namespace Rows

/-- THE TIED CARD OF 'laws.FnBases'. -/
def fnBasesCard : Claim7 := { stood := { row := fnBasesRow, standIns := [], harness := (true, "e64991ae37ca9351e15dfaa5f116a84ee9f913eff3d54aa6e016a785101c75da"), looks := false }, kinds := [], alts := [], laidByText := true, laidKinds := [.data, .pinned], laidTests := true, laidLooks := .later }
def FnBasesCardSaid : Prop := Claim7.holds Tryd.pinned (.plain (OpenSpec.ofChange fnBasesSpec)) fnBasesCard

/-- THE TIED CARD OF 'laws.FnExactDecodeWords'. -/
def fnExactDecodeWordsCard : Claim7 := { stood := { row := fnExactDecodeWordsRow, standIns := [], harness := (true, "e64991ae37ca9351e15dfaa5f116a84ee9f913eff3d54aa6e016a785101c75da"), looks := false }, kinds := [], alts := [], laidByText := true, laidKinds := [.data, .pinned], laidTests := true, laidLooks := .later }
def FnExactDecodeWordsCardSaid : Prop := Claim7.holds Tryd.pinned (.plain (OpenSpec.ofChange fnExactDecodeWordsSpec)) fnExactDecodeWordsCard

/-- THE SECOND FORM's CARD OF 'laws.FnBases'. -/
def fnBasesUptoCard : Claim7 := { stood := { row := fnBasesUptoRow, standIns := [], harness := (true, "e64991ae37ca9351e15dfaa5f116a84ee9f913eff3d54aa6e016a785101c75da"), looks := false }, kinds := [], alts := [], laidByText := true, laidKinds := [.data, .pinned], laidTests := true, laidLooks := .later }
def FnBasesUptoCardSaid : Prop := Claim7.holds Tryd.pinned (.plain (OpenSpec.upto fnBasesSpec)) fnBasesUptoCard

/-- THE SECOND FORM's CARD OF 'laws.FnExactDecodeWords'. -/
def fnExactDecodeWordsUptoCard : Claim7 := { stood := { row := fnExactDecodeWordsUptoRow, standIns := [], harness := (true, "e64991ae37ca9351e15dfaa5f116a84ee9f913eff3d54aa6e016a785101c75da"), looks := false }, kinds := [], alts := [], laidByText := true, laidKinds := [.data, .pinned], laidTests := true, laidLooks := .later }
def FnExactDecodeWordsUptoCardSaid : Prop := Claim7.holds Tryd.pinned (.plain (OpenSpec.upto fnExactDecodeWordsSpec)) fnExactDecodeWordsUptoCard
end Rows
end Go.Proofs.YtjopgmjmjnfcjaaDoor
