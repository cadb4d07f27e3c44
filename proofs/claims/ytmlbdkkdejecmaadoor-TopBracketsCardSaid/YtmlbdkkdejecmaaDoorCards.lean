/-
  DERIVED. GIVEN WITH THE SEED: THE CARDS: each row of YtmlbdkkdejecmaaDoorRows.lean that lists a variable, with what it lists TIED to the program's text (the seventh form; the later family's looks); each row that meets fmt, with fmt's text TOLD by the authors' own Lean function (tested against real Go, not proved from fmt's source: count such statements apart). THE CARD IS WHAT COUNTS. Prove the row's statement (the work); the ties are given (YtmlbdkkdejecmaaDoorTie.lean); close each card by the builder's one call (the guide's Derived/Test/ToyasCard.lean, 'card_holds'). Laid BY PROGRAM, IN A SANDBOX (cutbox-door.mjs). By AI agents, Wed Nov 11 2026. No macro, syntax, notation, axiom, sorry.
-/
import Derived.Test.YtmlbdkkdejecmaaDoorRows
import GoSem.ClaimSeven
namespace Go.Proofs.YtmlbdkkdejecmaaDoor
namespace Rows

/-- THE TIED CARD OF 'comfittop.TopBrackets'. -/
def topBracketsCard : Claim7 := { stood := { row := topBracketsRow, standIns := [], harness := (true, "a6803ccb488a0783c04fcc5b24d5f0cff09c6d96cee65d1c80ad5bfd949fe9c9"), looks := false }, kinds := [], alts := [], laidByText := true, laidKinds := [.data, .pinned], laidTests := true, laidLooks := .later }
def TopBracketsCardSaid : Prop := Claim7.holds Tryd.pinned (.plain (OpenSpec.ofChange topBracketsSpec)) topBracketsCard

/-- THE SECOND FORM's CARD OF 'comfittop.TopBrackets'. -/
def topBracketsUptoCard : Claim7 := { stood := { row := topBracketsUptoRow, standIns := [], harness := (true, "a6803ccb488a0783c04fcc5b24d5f0cff09c6d96cee65d1c80ad5bfd949fe9c9"), looks := false }, kinds := [], alts := [], laidByText := true, laidKinds := [.data, .pinned], laidTests := true, laidLooks := .later }
def TopBracketsUptoCardSaid : Prop := Claim7.holds Tryd.pinned (.plain (OpenSpec.upto topBracketsSpec)) topBracketsUptoCard
end Rows
end Go.Proofs.YtmlbdkkdejecmaaDoor
