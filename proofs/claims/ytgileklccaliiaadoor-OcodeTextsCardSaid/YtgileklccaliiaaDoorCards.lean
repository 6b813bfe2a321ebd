/-
  DERIVED. GIVEN WITH THE SEED: THE CARDS: each row of YtgileklccaliiaaDoorRows.lean that lists a variable, with what it lists TIED to the program's text (the seventh form; the later family's looks); each row that meets fmt, with fmt's text TOLD by the authors' own Lean function (tested against real Go, not proved from fmt's source: count such statements apart). THE CARD IS WHAT COUNTS. Prove the row's statement (the work); the ties are given (YtgileklccaliiaaDoorTie.lean); close each card by the builder's one call (the guide's Derived/Test/ToyasCard.lean, 'card_holds'). Laid BY PROGRAM, IN A SANDBOX (cutbox-door.mjs). By AI agents, Wed Nov 11 2026. No macro, syntax, notation, axiom, sorry.
-/
import Derived.Test.YtgileklccaliiaaDoorRows
import GoSem.ClaimSeven
namespace Go.Proofs.YtgileklccaliiaaDoor
namespace Rows

/-- THE TIED CARD OF 'bluebelllaw06.OcodeTexts'. -/
def ocodeTextsCard : Claim7 := { stood := { row := ocodeTextsRow, standIns := [], harness := (true, "2843d80ad412bbdfdaa02d9993ff901b38aa3081d2ce27e26ccd240945d2fa4c"), looks := false }, kinds := [], alts := [], laidByText := true, laidKinds := [.data, .data, .data, .listed, .data], laidTests := true, laidLooks := .later }
def OcodeTextsCardSaid : Prop := Claim7.holds Tryd.pinned (.plain (OpenSpec.ofChange ocodeTextsSpec)) ocodeTextsCard

/-- THE SECOND FORM's CARD OF 'bluebelllaw06.OcodeTexts'. -/
def ocodeTextsUptoCard : Claim7 := { stood := { row := ocodeTextsUptoRow, standIns := [], harness := (true, "2843d80ad412bbdfdaa02d9993ff901b38aa3081d2ce27e26ccd240945d2fa4c"), looks := false }, kinds := [], alts := [], laidByText := true, laidKinds := [.data, .data, .data, .listed, .data], laidTests := true, laidLooks := .later }
def OcodeTextsUptoCardSaid : Prop := Claim7.holds Tryd.pinned (.plain (OpenSpec.upto ocodeTextsSpec)) ocodeTextsUptoCard
end Rows
end Go.Proofs.YtgileklccaliiaaDoor
