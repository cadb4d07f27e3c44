/-
  No cell of these rows narrows 'for every input' (looked for: loops, veiled, ifaces, maps, wideKeys, modest, calm, conditions, laid).
  DERIVED. THE GIVEN ROWS OF THIS SEAT. 16 by the template 'for every input the law returns true; each argument reads behind the call as it read before'; 0 by the template 'total and deterministic' (their statements: YtdppnmfljfdhaaaTotals.lean).
  GIVEN WITH THE SEED: the statements are not yours to turn. If you find one false, say at which input.
  Laid BY PROGRAM, IN A SANDBOX (cutbox-rows.mjs): the forced cells as the released guide's own fill.sh prints them over the translation d56ac6d2490d31bd… (all of the seat's roots in one cut). By AI agents, Wed Nov 11 2026. No macro, syntax, notation, axiom, sorry.
-/
import Derived.Test.YtdppnmfljfdhaaaChecked
import GoSem.Claim
import GoSem.ClaimJoined
import GoSem.ClaimMapViews
import Derived.JoinedTies
import Derived.KernelRfl
namespace Go.Proofs.Ytdppnmfljfdhaaa
/- THE CELL 'sum', in the pinned program and in every row, IS THE sha256 OF THE DUMP (.gsa) THAT YtdppnmfljfdhaaaProg.lean LOADS. Nothing in Lean hashes anything: it is a label: what it is worth is what the hold of that sum in a sandbox is worth. -/
noncomputable def Try.pinned : Pinned := { name := "ytdppnmfljfdhaaa", sum := "d56ac6d2490d31bda72a8c31b0e915a462bf6aa92acb8e425aca7ba91b1932ce", checked := Try.checked }
namespace Rows
def none {H : Type} : Left H := { results := [], args := [] }

/-- 'comfitlaw02.LotsTaken': WHATEVER THE INPUT: true; the input reads as it did. -/
def lotsTakenSpec : ChangeSpec := { name := "lotsTaken", fn := fun _ => fun
  | [d1, d2] => { results := [.lit (.bool true)], args := [d1, d2] }
  | _ => none }
def lotsTakenRow : OpenClaim := { program := "ytdppnmfljfdhaaa", sum := "d56ac6d2490d31bda72a8c31b0e915a462bf6aa92acb8e425aca7ba91b1932ce", func := "comfit/comfitlaw02.LotsTaken", spec := "lotsTaken", unfollowed := true, recurses := true, apart := false }
def LotsTakenSaid : Prop := lotsTakenRow.holds Try.pinned (OpenSpec.ofChange lotsTakenSpec)

/-- ITS FALSE NEIGHBOUR: 'it returns false'. Refute it at one input. -/
def lotsTakenWrong : ChangeSpec := { name := "lotsTaken", fn := fun _ => fun
  | [d1, d2] => { results := [.lit (.bool false)], args := [d1, d2] }
  | _ => none }
def LotsTakenWrongFalsely : Prop := lotsTakenRow.holds Try.pinned (OpenSpec.ofChange lotsTakenWrong)

/-- 'comfitlaw02.LotsFinite': WHATEVER THE INPUT: true; the input reads as it did. -/
def lotsFiniteSpec : ChangeSpec := { name := "lotsFinite", fn := fun _ => fun
  | [d1, d2, d3, d4] => { results := [.lit (.bool true)], args := [d1, d2, d3, d4] }
  | _ => none }
def lotsFiniteRow : OpenClaim := { program := "ytdppnmfljfdhaaa", sum := "d56ac6d2490d31bda72a8c31b0e915a462bf6aa92acb8e425aca7ba91b1932ce", func := "comfit/comfitlaw02.LotsFinite", spec := "lotsFinite", unfollowed := true, recurses := true, apart := false }
def LotsFiniteSaid : Prop := lotsFiniteRow.holds Try.pinned (OpenSpec.ofChange lotsFiniteSpec)

/-- ITS FALSE NEIGHBOUR: 'it returns false'. Refute it at one input. -/
def lotsFiniteWrong : ChangeSpec := { name := "lotsFinite", fn := fun _ => fun
  | [d1, d2, d3, d4] => { results := [.lit (.bool false)], args := [d1, d2, d3, d4] }
  | _ => none }
def LotsFiniteWrongFalsely : Prop := lotsFiniteRow.holds Try.pinned (OpenSpec.ofChange lotsFiniteWrong)

/-- 'comfitlaw02.LotsEnds': WHATEVER THE INPUT: true; the input reads as it did. -/
def lotsEndsSpec : ChangeSpec := { name := "lotsEnds", fn := fun _ => fun
  | [d1, d2, d3, d4] => { results := [.lit (.bool true)], args := [d1, d2, d3, d4] }
  | _ => none }
def lotsEndsRow : OpenClaim := { program := "ytdppnmfljfdhaaa", sum := "d56ac6d2490d31bda72a8c31b0e915a462bf6aa92acb8e425aca7ba91b1932ce", func := "comfit/comfitlaw02.LotsEnds", spec := "lotsEnds", unfollowed := true, recurses := true, apart := false }
def LotsEndsSaid : Prop := lotsEndsRow.holds Try.pinned (OpenSpec.ofChange lotsEndsSpec)

/-- ITS FALSE NEIGHBOUR: 'it returns false'. Refute it at one input. -/
def lotsEndsWrong : ChangeSpec := { name := "lotsEnds", fn := fun _ => fun
  | [d1, d2, d3, d4] => { results := [.lit (.bool false)], args := [d1, d2, d3, d4] }
  | _ => none }
def LotsEndsWrongFalsely : Prop := lotsEndsRow.holds Try.pinned (OpenSpec.ofChange lotsEndsWrong)

/-- 'comfitlaw02.LotsRuns': WHATEVER THE INPUT: true; the input reads as it did. -/
def lotsRunsSpec : ChangeSpec := { name := "lotsRuns", fn := fun _ => fun
  | [d1, d2] => { results := [.lit (.bool true)], args := [d1, d2] }
  | _ => none }
def lotsRunsRow : OpenClaim := { program := "ytdppnmfljfdhaaa", sum := "d56ac6d2490d31bda72a8c31b0e915a462bf6aa92acb8e425aca7ba91b1932ce", func := "comfit/comfitlaw02.LotsRuns", spec := "lotsRuns", unfollowed := true, recurses := true, apart := false }
def LotsRunsSaid : Prop := lotsRunsRow.holds Try.pinned (OpenSpec.ofChange lotsRunsSpec)

/-- ITS FALSE NEIGHBOUR: 'it returns false'. Refute it at one input. -/
def lotsRunsWrong : ChangeSpec := { name := "lotsRuns", fn := fun _ => fun
  | [d1, d2] => { results := [.lit (.bool false)], args := [d1, d2] }
  | _ => none }
def LotsRunsWrongFalsely : Prop := lotsRunsRow.holds Try.pinned (OpenSpec.ofChange lotsRunsWrong)

/-- 'comfitlaw02.LotsAll': WHATEVER THE INPUT: true; the input reads as it did. -/
def lotsAllSpec : ChangeSpec := { name := "lotsAll", fn := fun _ => fun
  | [d1, d2] => { results := [.lit (.bool true)], args := [d1, d2] }
  | _ => none }
def lotsAllRow : OpenClaim := { program := "ytdppnmfljfdhaaa", sum := "d56ac6d2490d31bda72a8c31b0e915a462bf6aa92acb8e425aca7ba91b1932ce", func := "comfit/comfitlaw02.LotsAll", spec := "lotsAll", unfollowed := true, recurses := true, apart := false }
def LotsAllSaid : Prop := lotsAllRow.holds Try.pinned (OpenSpec.ofChange lotsAllSpec)

/-- ITS FALSE NEIGHBOUR: 'it returns false'. Refute it at one input. -/
def lotsAllWrong : ChangeSpec := { name := "lotsAll", fn := fun _ => fun
  | [d1, d2] => { results := [.lit (.bool false)], args := [d1, d2] }
  | _ => none }
def LotsAllWrongFalsely : Prop := lotsAllRow.holds Try.pinned (OpenSpec.ofChange lotsAllWrong)

/-- 'comfitlaw02.LotsTurns': WHATEVER THE INPUT: true; the input reads as it did. -/
def lotsTurnsSpec : ChangeSpec := { name := "lotsTurns", fn := fun _ => fun
  | [d] => { results := [.lit (.bool true)], args := [d] }
  | _ => none }
def lotsTurnsRow : OpenClaim := { program := "ytdppnmfljfdhaaa", sum := "d56ac6d2490d31bda72a8c31b0e915a462bf6aa92acb8e425aca7ba91b1932ce", func := "comfit/comfitlaw02.LotsTurns", spec := "lotsTurns", unfollowed := true, recurses := true, apart := false }
def LotsTurnsSaid : Prop := lotsTurnsRow.holds Try.pinned (OpenSpec.ofChange lotsTurnsSpec)

/-- ITS FALSE NEIGHBOUR: 'it returns false'. Refute it at one input. -/
def lotsTurnsWrong : ChangeSpec := { name := "lotsTurns", fn := fun _ => fun
  | [d] => { results := [.lit (.bool false)], args := [d] }
  | _ => none }
def LotsTurnsWrongFalsely : Prop := lotsTurnsRow.holds Try.pinned (OpenSpec.ofChange lotsTurnsWrong)

/-- 'comfitlaw02.LotsTurned': WHATEVER THE INPUT: true; the input reads as it did. -/
def lotsTurnedSpec : ChangeSpec := { name := "lotsTurned", fn := fun _ => fun
  | [d1, d2, d3] => { results := [.lit (.bool true)], args := [d1, d2, d3] }
  | _ => none }
def lotsTurnedRow : OpenClaim := { program := "ytdppnmfljfdhaaa", sum := "d56ac6d2490d31bda72a8c31b0e915a462bf6aa92acb8e425aca7ba91b1932ce", func := "comfit/comfitlaw02.LotsTurned", spec := "lotsTurned", unfollowed := true, recurses := true, apart := false }
def LotsTurnedSaid : Prop := lotsTurnedRow.holds Try.pinned (OpenSpec.ofChange lotsTurnedSpec)

/-- ITS FALSE NEIGHBOUR: 'it returns false'. Refute it at one input. -/
def lotsTurnedWrong : ChangeSpec := { name := "lotsTurned", fn := fun _ => fun
  | [d1, d2, d3] => { results := [.lit (.bool false)], args := [d1, d2, d3] }
  | _ => none }
def LotsTurnedWrongFalsely : Prop := lotsTurnedRow.holds Try.pinned (OpenSpec.ofChange lotsTurnedWrong)

/-- 'comfitlaw02.LotsTwice': WHATEVER THE INPUT: true; the input reads as it did. -/
def lotsTwiceSpec : ChangeSpec := { name := "lotsTwice", fn := fun _ => fun
  | [d1, d2] => { results := [.lit (.bool true)], args := [d1, d2] }
  | _ => none }
def lotsTwiceRow : OpenClaim := { program := "ytdppnmfljfdhaaa", sum := "d56ac6d2490d31bda72a8c31b0e915a462bf6aa92acb8e425aca7ba91b1932ce", func := "comfit/comfitlaw02.LotsTwice", spec := "lotsTwice", unfollowed := true, recurses := true, apart := false }
def LotsTwiceSaid : Prop := lotsTwiceRow.holds Try.pinned (OpenSpec.ofChange lotsTwiceSpec)

/-- ITS FALSE NEIGHBOUR: 'it returns false'. Refute it at one input. -/
def lotsTwiceWrong : ChangeSpec := { name := "lotsTwice", fn := fun _ => fun
  | [d1, d2] => { results := [.lit (.bool false)], args := [d1, d2] }
  | _ => none }
def LotsTwiceWrongFalsely : Prop := lotsTwiceRow.holds Try.pinned (OpenSpec.ofChange lotsTwiceWrong)

/-- 'comfitlaw02.LotsWise': WHATEVER THE INPUT: true; the input reads as it did. -/
def lotsWiseSpec : ChangeSpec := { name := "lotsWise", fn := fun _ => fun
  | [d1, d2, d3, d4, d5, d6] => { results := [.lit (.bool true)], args := [d1, d2, d3, d4, d5, d6] }
  | _ => none }
def lotsWiseRow : OpenClaim := { program := "ytdppnmfljfdhaaa", sum := "d56ac6d2490d31bda72a8c31b0e915a462bf6aa92acb8e425aca7ba91b1932ce", func := "comfit/comfitlaw02.LotsWise", spec := "lotsWise", unfollowed := true, recurses := true, apart := false }
def LotsWiseSaid : Prop := lotsWiseRow.holds Try.pinned (OpenSpec.ofChange lotsWiseSpec)

/-- ITS FALSE NEIGHBOUR: 'it returns false'. Refute it at one input. -/
def lotsWiseWrong : ChangeSpec := { name := "lotsWise", fn := fun _ => fun
  | [d1, d2, d3, d4, d5, d6] => { results := [.lit (.bool false)], args := [d1, d2, d3, d4, d5, d6] }
  | _ => none }
def LotsWiseWrongFalsely : Prop := lotsWiseRow.holds Try.pinned (OpenSpec.ofChange lotsWiseWrong)

/-- 'comfitlaw02.LotsPrices': WHATEVER THE INPUT: true; the input reads as it did. -/
def lotsPricesSpec : ChangeSpec := { name := "lotsPrices", fn := fun _ => fun
  | [d1, d2, d3, d4, d5, d6] => { results := [.lit (.bool true)], args := [d1, d2, d3, d4, d5, d6] }
  | _ => none }
def lotsPricesRow : OpenClaim := { program := "ytdppnmfljfdhaaa", sum := "d56ac6d2490d31bda72a8c31b0e915a462bf6aa92acb8e425aca7ba91b1932ce", func := "comfit/comfitlaw02.LotsPrices", spec := "lotsPrices", unfollowed := true, recurses := true, apart := false }
def LotsPricesSaid : Prop := lotsPricesRow.holds Try.pinned (OpenSpec.ofChange lotsPricesSpec)

/-- ITS FALSE NEIGHBOUR: 'it returns false'. Refute it at one input. -/
def lotsPricesWrong : ChangeSpec := { name := "lotsPrices", fn := fun _ => fun
  | [d1, d2, d3, d4, d5, d6] => { results := [.lit (.bool false)], args := [d1, d2, d3, d4, d5, d6] }
  | _ => none }
def LotsPricesWrongFalsely : Prop := lotsPricesRow.holds Try.pinned (OpenSpec.ofChange lotsPricesWrong)

/-- 'comfitlaw02.LotsNoBetter': WHATEVER THE INPUT: true; the input reads as it did. -/
def lotsNoBetterSpec : ChangeSpec := { name := "lotsNoBetter", fn := fun _ => fun
  | [d1, d2, d3, d4, d5, d6] => { results := [.lit (.bool true)], args := [d1, d2, d3, d4, d5, d6] }
  | _ => none }
def lotsNoBetterRow : OpenClaim := { program := "ytdppnmfljfdhaaa", sum := "d56ac6d2490d31bda72a8c31b0e915a462bf6aa92acb8e425aca7ba91b1932ce", func := "comfit/comfitlaw02.LotsNoBetter", spec := "lotsNoBetter", unfollowed := true, recurses := true, apart := false }
def LotsNoBetterSaid : Prop := lotsNoBetterRow.holds Try.pinned (OpenSpec.ofChange lotsNoBetterSpec)

/-- ITS FALSE NEIGHBOUR: 'it returns false'. Refute it at one input. -/
def lotsNoBetterWrong : ChangeSpec := { name := "lotsNoBetter", fn := fun _ => fun
  | [d1, d2, d3, d4, d5, d6] => { results := [.lit (.bool false)], args := [d1, d2, d3, d4, d5, d6] }
  | _ => none }
def LotsNoBetterWrongFalsely : Prop := lotsNoBetterRow.holds Try.pinned (OpenSpec.ofChange lotsNoBetterWrong)

/-- 'comfitlaw02.LotsPlans': WHATEVER THE INPUT: true; the input reads as it did. -/
def lotsPlansSpec : ChangeSpec := { name := "lotsPlans", fn := fun _ => fun
  | [d1, d2] => { results := [.lit (.bool true)], args := [d1, d2] }
  | _ => none }
def lotsPlansRow : OpenClaim := { program := "ytdppnmfljfdhaaa", sum := "d56ac6d2490d31bda72a8c31b0e915a462bf6aa92acb8e425aca7ba91b1932ce", func := "comfit/comfitlaw02.LotsPlans", spec := "lotsPlans", unfollowed := true, recurses := true, apart := false }
def LotsPlansSaid : Prop := lotsPlansRow.holds Try.pinned (OpenSpec.ofChange lotsPlansSpec)

/-- ITS FALSE NEIGHBOUR: 'it returns false'. Refute it at one input. -/
def lotsPlansWrong : ChangeSpec := { name := "lotsPlans", fn := fun _ => fun
  | [d1, d2] => { results := [.lit (.bool false)], args := [d1, d2] }
  | _ => none }
def LotsPlansWrongFalsely : Prop := lotsPlansRow.holds Try.pinned (OpenSpec.ofChange lotsPlansWrong)

/-- 'comfitlaw02.LotsFinds': WHATEVER THE INPUT: true; the input reads as it did. -/
def lotsFindsSpec : ChangeSpec := { name := "lotsFinds", fn := fun _ => fun
  | [d1, d2, d3, d4] => { results := [.lit (.bool true)], args := [d1, d2, d3, d4] }
  | _ => none }
def lotsFindsRow : OpenClaim := { program := "ytdppnmfljfdhaaa", sum := "d56ac6d2490d31bda72a8c31b0e915a462bf6aa92acb8e425aca7ba91b1932ce", func := "comfit/comfitlaw02.LotsFinds", spec := "lotsFinds", unfollowed := true, recurses := true, apart := false }
def LotsFindsSaid : Prop := lotsFindsRow.holds Try.pinned (OpenSpec.ofChange lotsFindsSpec)

/-- ITS FALSE NEIGHBOUR: 'it returns false'. Refute it at one input. -/
def lotsFindsWrong : ChangeSpec := { name := "lotsFinds", fn := fun _ => fun
  | [d1, d2, d3, d4] => { results := [.lit (.bool false)], args := [d1, d2, d3, d4] }
  | _ => none }
def LotsFindsWrongFalsely : Prop := lotsFindsRow.holds Try.pinned (OpenSpec.ofChange lotsFindsWrong)

/-- 'comfitlaw02.LotsFewer': WHATEVER THE INPUT: true; the input reads as it did. -/
def lotsFewerSpec : ChangeSpec := { name := "lotsFewer", fn := fun _ => fun
  | [d1, d2, d3, d4] => { results := [.lit (.bool true)], args := [d1, d2, d3, d4] }
  | _ => none }
def lotsFewerRow : OpenClaim := { program := "ytdppnmfljfdhaaa", sum := "d56ac6d2490d31bda72a8c31b0e915a462bf6aa92acb8e425aca7ba91b1932ce", func := "comfit/comfitlaw02.LotsFewer", spec := "lotsFewer", unfollowed := true, recurses := true, apart := false }
def LotsFewerSaid : Prop := lotsFewerRow.holds Try.pinned (OpenSpec.ofChange lotsFewerSpec)

/-- ITS FALSE NEIGHBOUR: 'it returns false'. Refute it at one input. -/
def lotsFewerWrong : ChangeSpec := { name := "lotsFewer", fn := fun _ => fun
  | [d1, d2, d3, d4] => { results := [.lit (.bool false)], args := [d1, d2, d3, d4] }
  | _ => none }
def LotsFewerWrongFalsely : Prop := lotsFewerRow.holds Try.pinned (OpenSpec.ofChange lotsFewerWrong)

/-- 'comfitlaw02.LotsShort': WHATEVER THE INPUT: true; the input reads as it did. -/
def lotsShortSpec : ChangeSpec := { name := "lotsShort", fn := fun _ => fun
  | [d1, d2, d3] => { results := [.lit (.bool true)], args := [d1, d2, d3] }
  | _ => none }
def lotsShortRow : OpenClaim := { program := "ytdppnmfljfdhaaa", sum := "d56ac6d2490d31bda72a8c31b0e915a462bf6aa92acb8e425aca7ba91b1932ce", func := "comfit/comfitlaw02.LotsShort", spec := "lotsShort", unfollowed := true, recurses := true, apart := false }
def LotsShortSaid : Prop := lotsShortRow.holds Try.pinned (OpenSpec.ofChange lotsShortSpec)

/-- ITS FALSE NEIGHBOUR: 'it returns false'. Refute it at one input. -/
def lotsShortWrong : ChangeSpec := { name := "lotsShort", fn := fun _ => fun
  | [d1, d2, d3] => { results := [.lit (.bool false)], args := [d1, d2, d3] }
  | _ => none }
def LotsShortWrongFalsely : Prop := lotsShortRow.holds Try.pinned (OpenSpec.ofChange lotsShortWrong)

/-- 'comfitlaw02.LotsFound': WHATEVER THE INPUT: true; the input reads as it did. -/
def lotsFoundSpec : ChangeSpec := { name := "lotsFound", fn := fun _ => fun
  | [d1, d2, d3, d4, d5, d6] => { results := [.lit (.bool true)], args := [d1, d2, d3, d4, d5, d6] }
  | _ => none }
def lotsFoundRow : OpenClaim := { program := "ytdppnmfljfdhaaa", sum := "d56ac6d2490d31bda72a8c31b0e915a462bf6aa92acb8e425aca7ba91b1932ce", func := "comfit/comfitlaw02.LotsFound", spec := "lotsFound", unfollowed := true, recurses := true, apart := false }
def LotsFoundSaid : Prop := lotsFoundRow.holds Try.pinned (OpenSpec.ofChange lotsFoundSpec)

/-- ITS FALSE NEIGHBOUR: 'it returns false'. Refute it at one input. -/
def lotsFoundWrong : ChangeSpec := { name := "lotsFound", fn := fun _ => fun
  | [d1, d2, d3, d4, d5, d6] => { results := [.lit (.bool false)], args := [d1, d2, d3, d4, d5, d6] }
  | _ => none }
def LotsFoundWrongFalsely : Prop := lotsFoundRow.holds Try.pinned (OpenSpec.ofChange lotsFoundWrong)

/- THE SECOND FORM. 'bulk': how many values and letters a reading holds, each counted each time it is reached (what is shared counts as often as it is met; a slice's spare places count too). A statement '..UptoSaid' is the law's where the arguments, and the package variables that the reading takes, are together of bulk at most 1048576: NARROWER than '..Said'. Prove '..Said' where nothing that the law and all that it calls make is longer than what came in: it says more and counts as full. Else prove '..UptoSaid'. A law counts once. -/
mutual
def uptoBulk {H : Type} : DataW H → Nat
  | .lit (.string bytes) => bytes.length + 1
  | .lit _ => 1
  | .nil => 1
  | .ptr d => uptoBulk d + 1
  | .slice elems spare => uptoBulkAll elems + uptoBulkAll spare + 1
  | .agg parts => uptoBulkAll parts + 1
  | .iface _ d => uptoBulk d + 1
  | .map entries => uptoBulkEntries entries + 1
  | .held _ => 1
def uptoBulkAll {H : Type} : List (DataW H) → Nat
  | [] => 0
  | d :: r => uptoBulk d + uptoBulkAll r
def uptoBulkEntries {H : Type} : List (Lit × DataW H) → Nat
  | [] => 0
  | x :: r => uptoBulkEntry x + uptoBulkEntries r
def uptoBulkEntry {H : Type} : Lit × DataW H → Nat
  | (.string bytes, d) => bytes.length + uptoBulk d + 1
  | (_, d) => uptoBulk d + 1
 end
def uptoSmall : (H : Type) → List (DataW H) → Bool := fun _ ds => decide (uptoBulkAll ds ≤ 1048576)
def OpenSpec.upto (s : _root_.Go.ChangeSpec) : _root_.Go.OpenSpec := { _root_.Go.OpenSpec.ofChange s with cond := some uptoSmall }

/-- 'comfitlaw02.LotsTaken', WHERE WHAT IT READS IS OF BULK AT MOST 1048576: true; the input reads as it did. -/
def lotsTakenUptoRow : OpenClaim := { program := "ytdppnmfljfdhaaa", sum := "d56ac6d2490d31bda72a8c31b0e915a462bf6aa92acb8e425aca7ba91b1932ce", func := "comfit/comfitlaw02.LotsTaken", spec := "lotsTaken", unfollowed := true, recurses := true, apart := false, narrowed := true }
def LotsTakenUptoSaid : Prop := lotsTakenUptoRow.holds Try.pinned (OpenSpec.upto lotsTakenSpec)

/-- 'comfitlaw02.LotsFinite', WHERE WHAT IT READS IS OF BULK AT MOST 1048576: true; the input reads as it did. -/
def lotsFiniteUptoRow : OpenClaim := { program := "ytdppnmfljfdhaaa", sum := "d56ac6d2490d31bda72a8c31b0e915a462bf6aa92acb8e425aca7ba91b1932ce", func := "comfit/comfitlaw02.LotsFinite", spec := "lotsFinite", unfollowed := true, recurses := true, apart := false, narrowed := true }
def LotsFiniteUptoSaid : Prop := lotsFiniteUptoRow.holds Try.pinned (OpenSpec.upto lotsFiniteSpec)

/-- 'comfitlaw02.LotsEnds', WHERE WHAT IT READS IS OF BULK AT MOST 1048576: true; the input reads as it did. -/
def lotsEndsUptoRow : OpenClaim := { program := "ytdppnmfljfdhaaa", sum := "d56ac6d2490d31bda72a8c31b0e915a462bf6aa92acb8e425aca7ba91b1932ce", func := "comfit/comfitlaw02.LotsEnds", spec := "lotsEnds", unfollowed := true, recurses := true, apart := false, narrowed := true }
def LotsEndsUptoSaid : Prop := lotsEndsUptoRow.holds Try.pinned (OpenSpec.upto lotsEndsSpec)

/-- 'comfitlaw02.LotsRuns', WHERE WHAT IT READS IS OF BULK AT MOST 1048576: true; the input reads as it did. -/
def lotsRunsUptoRow : OpenClaim := { program := "ytdppnmfljfdhaaa", sum := "d56ac6d2490d31bda72a8c31b0e915a462bf6aa92acb8e425aca7ba91b1932ce", func := "comfit/comfitlaw02.LotsRuns", spec := "lotsRuns", unfollowed := true, recurses := true, apart := false, narrowed := true }
def LotsRunsUptoSaid : Prop := lotsRunsUptoRow.holds Try.pinned (OpenSpec.upto lotsRunsSpec)

/-- 'comfitlaw02.LotsAll', WHERE WHAT IT READS IS OF BULK AT MOST 1048576: true; the input reads as it did. -/
def lotsAllUptoRow : OpenClaim := { program := "ytdppnmfljfdhaaa", sum := "d56ac6d2490d31bda72a8c31b0e915a462bf6aa92acb8e425aca7ba91b1932ce", func := "comfit/comfitlaw02.LotsAll", spec := "lotsAll", unfollowed := true, recurses := true, apart := false, narrowed := true }
def LotsAllUptoSaid : Prop := lotsAllUptoRow.holds Try.pinned (OpenSpec.upto lotsAllSpec)

/-- 'comfitlaw02.LotsTurns', WHERE WHAT IT READS IS OF BULK AT MOST 1048576: true; the input reads as it did. -/
def lotsTurnsUptoRow : OpenClaim := { program := "ytdppnmfljfdhaaa", sum := "d56ac6d2490d31bda72a8c31b0e915a462bf6aa92acb8e425aca7ba91b1932ce", func := "comfit/comfitlaw02.LotsTurns", spec := "lotsTurns", unfollowed := true, recurses := true, apart := false, narrowed := true }
def LotsTurnsUptoSaid : Prop := lotsTurnsUptoRow.holds Try.pinned (OpenSpec.upto lotsTurnsSpec)

/-- 'comfitlaw02.LotsTurned', WHERE WHAT IT READS IS OF BULK AT MOST 1048576: true; the input reads as it did. -/
def lotsTurnedUptoRow : OpenClaim := { program := "ytdppnmfljfdhaaa", sum := "d56ac6d2490d31bda72a8c31b0e915a462bf6aa92acb8e425aca7ba91b1932ce", func := "comfit/comfitlaw02.LotsTurned", spec := "lotsTurned", unfollowed := true, recurses := true, apart := false, narrowed := true }
def LotsTurnedUptoSaid : Prop := lotsTurnedUptoRow.holds Try.pinned (OpenSpec.upto lotsTurnedSpec)

/-- 'comfitlaw02.LotsTwice', WHERE WHAT IT READS IS OF BULK AT MOST 1048576: true; the input reads as it did. -/
def lotsTwiceUptoRow : OpenClaim := { program := "ytdppnmfljfdhaaa", sum := "d56ac6d2490d31bda72a8c31b0e915a462bf6aa92acb8e425aca7ba91b1932ce", func := "comfit/comfitlaw02.LotsTwice", spec := "lotsTwice", unfollowed := true, recurses := true, apart := false, narrowed := true }
def LotsTwiceUptoSaid : Prop := lotsTwiceUptoRow.holds Try.pinned (OpenSpec.upto lotsTwiceSpec)

/-- 'comfitlaw02.LotsWise', WHERE WHAT IT READS IS OF BULK AT MOST 1048576: true; the input reads as it did. -/
def lotsWiseUptoRow : OpenClaim := { program := "ytdppnmfljfdhaaa", sum := "d56ac6d2490d31bda72a8c31b0e915a462bf6aa92acb8e425aca7ba91b1932ce", func := "comfit/comfitlaw02.LotsWise", spec := "lotsWise", unfollowed := true, recurses := true, apart := false, narrowed := true }
def LotsWiseUptoSaid : Prop := lotsWiseUptoRow.holds Try.pinned (OpenSpec.upto lotsWiseSpec)

/-- 'comfitlaw02.LotsPrices', WHERE WHAT IT READS IS OF BULK AT MOST 1048576: true; the input reads as it did. -/
def lotsPricesUptoRow : OpenClaim := { program := "ytdppnmfljfdhaaa", sum := "d56ac6d2490d31bda72a8c31b0e915a462bf6aa92acb8e425aca7ba91b1932ce", func := "comfit/comfitlaw02.LotsPrices", spec := "lotsPrices", unfollowed := true, recurses := true, apart := false, narrowed := true }
def LotsPricesUptoSaid : Prop := lotsPricesUptoRow.holds Try.pinned (OpenSpec.upto lotsPricesSpec)

/-- 'comfitlaw02.LotsNoBetter', WHERE WHAT IT READS IS OF BULK AT MOST 1048576: true; the input reads as it did. -/
def lotsNoBetterUptoRow : OpenClaim := { program := "ytdppnmfljfdhaaa", sum := "d56ac6d2490d31bda72a8c31b0e915a462bf6aa92acb8e425aca7ba91b1932ce", func := "comfit/comfitlaw02.LotsNoBetter", spec := "lotsNoBetter", unfollowed := true, recurses := true, apart := false, narrowed := true }
def LotsNoBetterUptoSaid : Prop := lotsNoBetterUptoRow.holds Try.pinned (OpenSpec.upto lotsNoBetterSpec)

/-- 'comfitlaw02.LotsPlans', WHERE WHAT IT READS IS OF BULK AT MOST 1048576: true; the input reads as it did. -/
def lotsPlansUptoRow : OpenClaim := { program := "ytdppnmfljfdhaaa", sum := "d56ac6d2490d31bda72a8c31b0e915a462bf6aa92acb8e425aca7ba91b1932ce", func := "comfit/comfitlaw02.LotsPlans", spec := "lotsPlans", unfollowed := true, recurses := true, apart := false, narrowed := true }
def LotsPlansUptoSaid : Prop := lotsPlansUptoRow.holds Try.pinned (OpenSpec.upto lotsPlansSpec)

/-- 'comfitlaw02.LotsFinds', WHERE WHAT IT READS IS OF BULK AT MOST 1048576: true; the input reads as it did. -/
def lotsFindsUptoRow : OpenClaim := { program := "ytdppnmfljfdhaaa", sum := "d56ac6d2490d31bda72a8c31b0e915a462bf6aa92acb8e425aca7ba91b1932ce", func := "comfit/comfitlaw02.LotsFinds", spec := "lotsFinds", unfollowed := true, recurses := true, apart := false, narrowed := true }
def LotsFindsUptoSaid : Prop := lotsFindsUptoRow.holds Try.pinned (OpenSpec.upto lotsFindsSpec)

/-- 'comfitlaw02.LotsFewer', WHERE WHAT IT READS IS OF BULK AT MOST 1048576: true; the input reads as it did. -/
def lotsFewerUptoRow : OpenClaim := { program := "ytdppnmfljfdhaaa", sum := "d56ac6d2490d31bda72a8c31b0e915a462bf6aa92acb8e425aca7ba91b1932ce", func := "comfit/comfitlaw02.LotsFewer", spec := "lotsFewer", unfollowed := true, recurses := true, apart := false, narrowed := true }
def LotsFewerUptoSaid : Prop := lotsFewerUptoRow.holds Try.pinned (OpenSpec.upto lotsFewerSpec)

/-- 'comfitlaw02.LotsShort', WHERE WHAT IT READS IS OF BULK AT MOST 1048576: true; the input reads as it did. -/
def lotsShortUptoRow : OpenClaim := { program := "ytdppnmfljfdhaaa", sum := "d56ac6d2490d31bda72a8c31b0e915a462bf6aa92acb8e425aca7ba91b1932ce", func := "comfit/comfitlaw02.LotsShort", spec := "lotsShort", unfollowed := true, recurses := true, apart := false, narrowed := true }
def LotsShortUptoSaid : Prop := lotsShortUptoRow.holds Try.pinned (OpenSpec.upto lotsShortSpec)

/-- 'comfitlaw02.LotsFound', WHERE WHAT IT READS IS OF BULK AT MOST 1048576: true; the input reads as it did. -/
def lotsFoundUptoRow : OpenClaim := { program := "ytdppnmfljfdhaaa", sum := "d56ac6d2490d31bda72a8c31b0e915a462bf6aa92acb8e425aca7ba91b1932ce", func := "comfit/comfitlaw02.LotsFound", spec := "lotsFound", unfollowed := true, recurses := true, apart := false, narrowed := true }
def LotsFoundUptoSaid : Prop := lotsFoundUptoRow.holds Try.pinned (OpenSpec.upto lotsFoundSpec)

end Rows
end Go.Proofs.Ytdppnmfljfdhaaa
