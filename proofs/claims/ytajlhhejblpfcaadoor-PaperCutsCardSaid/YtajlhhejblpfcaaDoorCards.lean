/-
  DERIVED. GIVEN WITH THE SEED: THE CARDS: each row of YtajlhhejblpfcaaDoorRows.lean that lists a variable, with what it lists TIED to the program's text (the seventh form; the later family's looks); each row that meets fmt, with fmt's text TOLD by the authors' own Lean function (tested against real Go, not proved from fmt's source: count such statements apart). THE CARD IS WHAT COUNTS. Prove the row's statement (the work); the ties are given (YtajlhhejblpfcaaDoorTie.lean); close each card by the builder's one call (the guide's Derived/Test/ToyasCard.lean, 'card_holds'). Laid BY PROGRAM, IN A SANDBOX (cutbox-door.mjs). By AI agents, Wed Nov 11 2026. No macro, syntax, notation, axiom, sorry.
-/
import Derived.Test.YtajlhhejblpfcaaDoorRows
import GoSem.ClaimSeven
namespace Go.Proofs.YtajlhhejblpfcaaDoor
namespace Rows

/-- THE TIED CARD OF 'bluebelllaw28.PaperPacks'. -/
def paperPacksCard : Claim7 := { stood := { row := paperPacksRow, standIns := [], harness := (true, "a138bedf79c8f1ed7d2e761755a531691634299409cbc149d8a3aaffa1f3ceed"), looks := false }, kinds := [], alts := [], laidByText := true, laidKinds := [.data, .data, .data, .sentinel], laidTests := true, laidLooks := .later }
def PaperPacksCardSaid : Prop := Claim7.holds Tryd.pinned (.plain (OpenSpec.ofChange paperPacksSpec)) paperPacksCard

/-- THE TIED CARD OF 'bluebelllaw28.PaperFills'. -/
def paperFillsCard : Claim7 := { stood := { row := paperFillsRow, standIns := [], harness := (true, "a138bedf79c8f1ed7d2e761755a531691634299409cbc149d8a3aaffa1f3ceed"), looks := false }, kinds := [], alts := [], laidByText := true, laidKinds := [.data, .data, .data, .sentinel], laidTests := true, laidLooks := .later }
def PaperFillsCardSaid : Prop := Claim7.holds Tryd.pinned (.plain (OpenSpec.ofChange paperFillsSpec)) paperFillsCard

/-- THE TIED CARD OF 'bluebelllaw28.PaperWide'. -/
def paperWideCard : Claim7 := { stood := { row := paperWideRow, standIns := [], harness := (true, "a138bedf79c8f1ed7d2e761755a531691634299409cbc149d8a3aaffa1f3ceed"), looks := false }, kinds := [], alts := [], laidByText := true, laidKinds := [.data, .data, .data, .sentinel], laidTests := true, laidLooks := .later }
def PaperWideCardSaid : Prop := Claim7.holds Tryd.pinned (.plain (OpenSpec.ofChange paperWideSpec)) paperWideCard

/-- THE TIED CARD OF 'bluebelllaw28.PaperAgain'. -/
def paperAgainCard : Claim7 := { stood := { row := paperAgainRow, standIns := [], harness := (true, "a138bedf79c8f1ed7d2e761755a531691634299409cbc149d8a3aaffa1f3ceed"), looks := false }, kinds := [], alts := [], laidByText := true, laidKinds := [.data, .data, .data, .sentinel], laidTests := true, laidLooks := .later }
def PaperAgainCardSaid : Prop := Claim7.holds Tryd.pinned (.plain (OpenSpec.ofChange paperAgainSpec)) paperAgainCard

/-- THE TIED CARD OF 'bluebelllaw28.PaperCuts'. -/
def paperCutsCard : Claim7 := { stood := { row := paperCutsRow, standIns := [], harness := (true, "a138bedf79c8f1ed7d2e761755a531691634299409cbc149d8a3aaffa1f3ceed"), looks := false }, kinds := [], alts := [], laidByText := true, laidKinds := [.data, .data, .data, .data, .sentinel, .pinned], laidTests := true, laidLooks := .later }
def PaperCutsCardSaid : Prop := Claim7.holds Tryd.pinned (.plain (OpenSpec.ofChange paperCutsSpec)) paperCutsCard

/-- THE SECOND FORM's CARD OF 'bluebelllaw28.PaperPacks'. -/
def paperPacksUptoCard : Claim7 := { stood := { row := paperPacksUptoRow, standIns := [], harness := (true, "a138bedf79c8f1ed7d2e761755a531691634299409cbc149d8a3aaffa1f3ceed"), looks := false }, kinds := [], alts := [], laidByText := true, laidKinds := [.data, .data, .data, .sentinel], laidTests := true, laidLooks := .later }
def PaperPacksUptoCardSaid : Prop := Claim7.holds Tryd.pinned (.plain (OpenSpec.upto paperPacksSpec)) paperPacksUptoCard

/-- THE SECOND FORM's CARD OF 'bluebelllaw28.PaperFills'. -/
def paperFillsUptoCard : Claim7 := { stood := { row := paperFillsUptoRow, standIns := [], harness := (true, "a138bedf79c8f1ed7d2e761755a531691634299409cbc149d8a3aaffa1f3ceed"), looks := false }, kinds := [], alts := [], laidByText := true, laidKinds := [.data, .data, .data, .sentinel], laidTests := true, laidLooks := .later }
def PaperFillsUptoCardSaid : Prop := Claim7.holds Tryd.pinned (.plain (OpenSpec.upto paperFillsSpec)) paperFillsUptoCard

/-- THE SECOND FORM's CARD OF 'bluebelllaw28.PaperWide'. -/
def paperWideUptoCard : Claim7 := { stood := { row := paperWideUptoRow, standIns := [], harness := (true, "a138bedf79c8f1ed7d2e761755a531691634299409cbc149d8a3aaffa1f3ceed"), looks := false }, kinds := [], alts := [], laidByText := true, laidKinds := [.data, .data, .data, .sentinel], laidTests := true, laidLooks := .later }
def PaperWideUptoCardSaid : Prop := Claim7.holds Tryd.pinned (.plain (OpenSpec.upto paperWideSpec)) paperWideUptoCard

/-- THE SECOND FORM's CARD OF 'bluebelllaw28.PaperAgain'. -/
def paperAgainUptoCard : Claim7 := { stood := { row := paperAgainUptoRow, standIns := [], harness := (true, "a138bedf79c8f1ed7d2e761755a531691634299409cbc149d8a3aaffa1f3ceed"), looks := false }, kinds := [], alts := [], laidByText := true, laidKinds := [.data, .data, .data, .sentinel], laidTests := true, laidLooks := .later }
def PaperAgainUptoCardSaid : Prop := Claim7.holds Tryd.pinned (.plain (OpenSpec.upto paperAgainSpec)) paperAgainUptoCard

/-- THE SECOND FORM's CARD OF 'bluebelllaw28.PaperCuts'. -/
def paperCutsUptoCard : Claim7 := { stood := { row := paperCutsUptoRow, standIns := [], harness := (true, "a138bedf79c8f1ed7d2e761755a531691634299409cbc149d8a3aaffa1f3ceed"), looks := false }, kinds := [], alts := [], laidByText := true, laidKinds := [.data, .data, .data, .data, .sentinel, .pinned], laidTests := true, laidLooks := .later }
def PaperCutsUptoCardSaid : Prop := Claim7.holds Tryd.pinned (.plain (OpenSpec.upto paperCutsSpec)) paperCutsUptoCard
end Rows
end Go.Proofs.YtajlhhejblpfcaaDoor
