/-
  DERIVED. GIVEN WITH THE SEED: THE CARDS: each row of YtjmbjnobbeflfaaDoorRows.lean that lists a variable, with what it lists TIED to the program's text (the seventh form; the later family's looks); each row that meets fmt, with fmt's text TOLD by the authors' own Lean function (tested against real Go, not proved from fmt's source: count such statements apart). THE CARD IS WHAT COUNTS. Prove the row's statement (the work); the ties are given (YtjmbjnobbeflfaaDoorTie.lean); close each card by the builder's one call (the guide's Derived/Test/ToyasCard.lean, 'card_holds'). Laid BY PROGRAM, IN A SANDBOX (cutbox-door.mjs). By AI agents, Wed Nov 11 2026. No macro, syntax, notation, axiom, sorry.
-/
import Derived.Test.YtjmbjnobbeflfaaDoorRows
import GoSem.ClaimSeven
namespace Go.Proofs.YtjmbjnobbeflfaaDoor
namespace Rows

/-- THE TIED CARD OF 'comfitlaw06.TagsAgain'. -/
def tagsAgainCard : Claim7 := { stood := { row := tagsAgainRow, standIns := [], harness := (true, "1a011a0d37d0fa2d5e191ae43829f02fa5c20cebdac6602280abc9a64351ec8d"), looks := false }, kinds := [], alts := [], laidByText := true, laidKinds := [.data, .pinned], laidTests := true, laidLooks := .later }
def TagsAgainCardSaid : Prop := Claim7.holds Tryd.pinned (.plain (OpenSpec.ofChange tagsAgainSpec)) tagsAgainCard

/-- THE TIED CARD OF 'comfitlaw06.TagsCuts'. -/
def tagsCutsCard : Claim7 := { stood := { row := tagsCutsRow, standIns := [], harness := (true, "1a011a0d37d0fa2d5e191ae43829f02fa5c20cebdac6602280abc9a64351ec8d"), looks := false }, kinds := [], alts := [], laidByText := true, laidKinds := [.data, .pinned], laidTests := true, laidLooks := .later }
def TagsCutsCardSaid : Prop := Claim7.holds Tryd.pinned (.plain (OpenSpec.ofChange tagsCutsSpec)) tagsCutsCard

/-- THE TIED CARD OF 'comfitlaw06.TagsParts'. -/
def tagsPartsCard : Claim7 := { stood := { row := tagsPartsRow, standIns := [], harness := (true, "1a011a0d37d0fa2d5e191ae43829f02fa5c20cebdac6602280abc9a64351ec8d"), looks := false }, kinds := [], alts := [], laidByText := true, laidKinds := [.data, .pinned], laidTests := true, laidLooks := .later }
def TagsPartsCardSaid : Prop := Claim7.holds Tryd.pinned (.plain (OpenSpec.ofChange tagsPartsSpec)) tagsPartsCard

/-- THE TIED CARD OF 'comfitlaw06.TagsRound'. -/
def tagsRoundCard : Claim7 := { stood := { row := tagsRoundRow, standIns := [], harness := (true, "1a011a0d37d0fa2d5e191ae43829f02fa5c20cebdac6602280abc9a64351ec8d"), looks := false }, kinds := [], alts := [], laidByText := true, laidKinds := [.data, .pinned], laidTests := true, laidLooks := .later }
def TagsRoundCardSaid : Prop := Claim7.holds Tryd.pinned (.plain (OpenSpec.ofChange tagsRoundSpec)) tagsRoundCard

/-- THE SECOND FORM's CARD OF 'comfitlaw06.TagsAgain'. -/
def tagsAgainUptoCard : Claim7 := { stood := { row := tagsAgainUptoRow, standIns := [], harness := (true, "1a011a0d37d0fa2d5e191ae43829f02fa5c20cebdac6602280abc9a64351ec8d"), looks := false }, kinds := [], alts := [], laidByText := true, laidKinds := [.data, .pinned], laidTests := true, laidLooks := .later }
def TagsAgainUptoCardSaid : Prop := Claim7.holds Tryd.pinned (.plain (OpenSpec.upto tagsAgainSpec)) tagsAgainUptoCard

/-- THE SECOND FORM's CARD OF 'comfitlaw06.TagsCuts'. -/
def tagsCutsUptoCard : Claim7 := { stood := { row := tagsCutsUptoRow, standIns := [], harness := (true, "1a011a0d37d0fa2d5e191ae43829f02fa5c20cebdac6602280abc9a64351ec8d"), looks := false }, kinds := [], alts := [], laidByText := true, laidKinds := [.data, .pinned], laidTests := true, laidLooks := .later }
def TagsCutsUptoCardSaid : Prop := Claim7.holds Tryd.pinned (.plain (OpenSpec.upto tagsCutsSpec)) tagsCutsUptoCard

/-- THE SECOND FORM's CARD OF 'comfitlaw06.TagsParts'. -/
def tagsPartsUptoCard : Claim7 := { stood := { row := tagsPartsUptoRow, standIns := [], harness := (true, "1a011a0d37d0fa2d5e191ae43829f02fa5c20cebdac6602280abc9a64351ec8d"), looks := false }, kinds := [], alts := [], laidByText := true, laidKinds := [.data, .pinned], laidTests := true, laidLooks := .later }
def TagsPartsUptoCardSaid : Prop := Claim7.holds Tryd.pinned (.plain (OpenSpec.upto tagsPartsSpec)) tagsPartsUptoCard

/-- THE SECOND FORM's CARD OF 'comfitlaw06.TagsRound'. -/
def tagsRoundUptoCard : Claim7 := { stood := { row := tagsRoundUptoRow, standIns := [], harness := (true, "1a011a0d37d0fa2d5e191ae43829f02fa5c20cebdac6602280abc9a64351ec8d"), looks := false }, kinds := [], alts := [], laidByText := true, laidKinds := [.data, .pinned], laidTests := true, laidLooks := .later }
def TagsRoundUptoCardSaid : Prop := Claim7.holds Tryd.pinned (.plain (OpenSpec.upto tagsRoundSpec)) tagsRoundUptoCard
end Rows
end Go.Proofs.YtjmbjnobbeflfaaDoor
