/-
  No cell of these rows narrows 'for every input' (looked for: loops, veiled, ifaces, maps, wideKeys, modest, calm, conditions, laid).
  DERIVED. THE GIVEN ROWS OF THIS SEAT. 7 by the template 'for every input the law returns true; each argument reads behind the call as it read before'; 0 by the template 'total and deterministic' (their statements: YtjmbjnobbeflfaaTotals.lean).
  GIVEN WITH THE SEED: the statements are not yours to turn. If you find one false, say at which input.
  Laid BY PROGRAM, IN A SANDBOX (cutbox-rows.mjs): the forced cells as the released guide's own fill.sh prints them over the translation 5422b3dccc10653e… (all of the seat's roots in one cut). By AI agents, Wed Nov 11 2026. No macro, syntax, notation, axiom, sorry.
-/
import Derived.Test.YtjmbjnobbeflfaaChecked
import GoSem.Claim
import GoSem.ClaimJoined
import GoSem.ClaimMapViews
import Derived.JoinedTies
import Derived.KernelRfl
namespace Go.Proofs.Ytjmbjnobbeflfaa
/- THE CELL 'sum', in the pinned program and in every row, IS THE sha256 OF THE DUMP (.gsa) THAT YtjmbjnobbeflfaaProg.lean LOADS. Nothing in Lean hashes anything: it is a label: what it is worth is what the hold of that sum in a sandbox is worth. -/
noncomputable def Try.pinned : Pinned := { name := "ytjmbjnobbeflfaa", sum := "5422b3dccc10653e3a5ecaf7e0241f0141470d4987675cce3e3d98bcf6cd6d1e", checked := Try.checked }
namespace Rows
def none {H : Type} : Left H := { results := [], args := [] }

/-- 'comfitlaw06.TagsGoes': WHATEVER THE INPUT: true; the input reads as it did. -/
def tagsGoesSpec : ChangeSpec := { name := "tagsGoes", fn := fun _ => fun
  | [d1, d2, d3] => { results := [.lit (.bool true)], args := [d1, d2, d3] }
  | _ => none }
def tagsGoesRow : OpenClaim := { program := "ytjmbjnobbeflfaa", sum := "5422b3dccc10653e3a5ecaf7e0241f0141470d4987675cce3e3d98bcf6cd6d1e", func := "comfit/comfitlaw06.TagsGoes", spec := "tagsGoes", unfollowed := true, recurses := true, apart := false }
def TagsGoesSaid : Prop := tagsGoesRow.holds Try.pinned (OpenSpec.ofChange tagsGoesSpec)

/-- ITS FALSE NEIGHBOUR: 'it returns false'. Refute it at one input. -/
def tagsGoesWrong : ChangeSpec := { name := "tagsGoes", fn := fun _ => fun
  | [d1, d2, d3] => { results := [.lit (.bool false)], args := [d1, d2, d3] }
  | _ => none }
def TagsGoesWrongFalsely : Prop := tagsGoesRow.holds Try.pinned (OpenSpec.ofChange tagsGoesWrong)

/-- 'comfitlaw06.TagsMore': WHATEVER THE INPUT: true; the input reads as it did. -/
def tagsMoreSpec : ChangeSpec := { name := "tagsMore", fn := fun _ => fun
  | [d1, d2, d3, d4, d5] => { results := [.lit (.bool true)], args := [d1, d2, d3, d4, d5] }
  | _ => none }
def tagsMoreRow : OpenClaim := { program := "ytjmbjnobbeflfaa", sum := "5422b3dccc10653e3a5ecaf7e0241f0141470d4987675cce3e3d98bcf6cd6d1e", func := "comfit/comfitlaw06.TagsMore", spec := "tagsMore", unfollowed := true, recurses := true, apart := false }
def TagsMoreSaid : Prop := tagsMoreRow.holds Try.pinned (OpenSpec.ofChange tagsMoreSpec)

/-- ITS FALSE NEIGHBOUR: 'it returns false'. Refute it at one input. -/
def tagsMoreWrong : ChangeSpec := { name := "tagsMore", fn := fun _ => fun
  | [d1, d2, d3, d4, d5] => { results := [.lit (.bool false)], args := [d1, d2, d3, d4, d5] }
  | _ => none }
def TagsMoreWrongFalsely : Prop := tagsMoreRow.holds Try.pinned (OpenSpec.ofChange tagsMoreWrong)

/-- 'comfitlaw06.TagsEnds': WHATEVER THE INPUT: true; the input reads as it did. -/
def tagsEndsSpec : ChangeSpec := { name := "tagsEnds", fn := fun _ => fun
  | [d1, d2, d3] => { results := [.lit (.bool true)], args := [d1, d2, d3] }
  | _ => none }
def tagsEndsRow : OpenClaim := { program := "ytjmbjnobbeflfaa", sum := "5422b3dccc10653e3a5ecaf7e0241f0141470d4987675cce3e3d98bcf6cd6d1e", func := "comfit/comfitlaw06.TagsEnds", spec := "tagsEnds", unfollowed := true, recurses := true, apart := false }
def TagsEndsSaid : Prop := tagsEndsRow.holds Try.pinned (OpenSpec.ofChange tagsEndsSpec)

/-- ITS FALSE NEIGHBOUR: 'it returns false'. Refute it at one input. -/
def tagsEndsWrong : ChangeSpec := { name := "tagsEnds", fn := fun _ => fun
  | [d1, d2, d3] => { results := [.lit (.bool false)], args := [d1, d2, d3] }
  | _ => none }
def TagsEndsWrongFalsely : Prop := tagsEndsRow.holds Try.pinned (OpenSpec.ofChange tagsEndsWrong)

/-- 'comfitlaw06.TagsCircles': WHATEVER THE INPUT: true; the input reads as it did. -/
def tagsCirclesSpec : ChangeSpec := { name := "tagsCircles", fn := fun _ => fun
  | [d1, d2, d3, d4] => { results := [.lit (.bool true)], args := [d1, d2, d3, d4] }
  | _ => none }
def tagsCirclesRow : OpenClaim := { program := "ytjmbjnobbeflfaa", sum := "5422b3dccc10653e3a5ecaf7e0241f0141470d4987675cce3e3d98bcf6cd6d1e", func := "comfit/comfitlaw06.TagsCircles", spec := "tagsCircles", unfollowed := true, recurses := true, apart := false }
def TagsCirclesSaid : Prop := tagsCirclesRow.holds Try.pinned (OpenSpec.ofChange tagsCirclesSpec)

/-- ITS FALSE NEIGHBOUR: 'it returns false'. Refute it at one input. -/
def tagsCirclesWrong : ChangeSpec := { name := "tagsCircles", fn := fun _ => fun
  | [d1, d2, d3, d4] => { results := [.lit (.bool false)], args := [d1, d2, d3, d4] }
  | _ => none }
def TagsCirclesWrongFalsely : Prop := tagsCirclesRow.holds Try.pinned (OpenSpec.ofChange tagsCirclesWrong)

/-- 'comfitlaw06.TagsAdds': WHATEVER THE INPUT: true; the input reads as it did. -/
def tagsAddsSpec : ChangeSpec := { name := "tagsAdds", fn := fun _ => fun
  | [d1, d2] => { results := [.lit (.bool true)], args := [d1, d2] }
  | _ => none }
def tagsAddsRow : OpenClaim := { program := "ytjmbjnobbeflfaa", sum := "5422b3dccc10653e3a5ecaf7e0241f0141470d4987675cce3e3d98bcf6cd6d1e", func := "comfit/comfitlaw06.TagsAdds", spec := "tagsAdds", unfollowed := true, recurses := true, apart := false }
def TagsAddsSaid : Prop := tagsAddsRow.holds Try.pinned (OpenSpec.ofChange tagsAddsSpec)

/-- ITS FALSE NEIGHBOUR: 'it returns false'. Refute it at one input. -/
def tagsAddsWrong : ChangeSpec := { name := "tagsAdds", fn := fun _ => fun
  | [d1, d2] => { results := [.lit (.bool false)], args := [d1, d2] }
  | _ => none }
def TagsAddsWrongFalsely : Prop := tagsAddsRow.holds Try.pinned (OpenSpec.ofChange tagsAddsWrong)

/-- 'comfitlaw06.TagsFewer': WHATEVER THE INPUT: true; the input reads as it did. -/
def tagsFewerSpec : ChangeSpec := { name := "tagsFewer", fn := fun _ => fun
  | [d1, d2, d3] => { results := [.lit (.bool true)], args := [d1, d2, d3] }
  | _ => none }
def tagsFewerRow : OpenClaim := { program := "ytjmbjnobbeflfaa", sum := "5422b3dccc10653e3a5ecaf7e0241f0141470d4987675cce3e3d98bcf6cd6d1e", func := "comfit/comfitlaw06.TagsFewer", spec := "tagsFewer", unfollowed := true, recurses := true, apart := false }
def TagsFewerSaid : Prop := tagsFewerRow.holds Try.pinned (OpenSpec.ofChange tagsFewerSpec)

/-- ITS FALSE NEIGHBOUR: 'it returns false'. Refute it at one input. -/
def tagsFewerWrong : ChangeSpec := { name := "tagsFewer", fn := fun _ => fun
  | [d1, d2, d3] => { results := [.lit (.bool false)], args := [d1, d2, d3] }
  | _ => none }
def TagsFewerWrongFalsely : Prop := tagsFewerRow.holds Try.pinned (OpenSpec.ofChange tagsFewerWrong)

/-- 'comfitlaw06.TagsExchanged': WHATEVER THE INPUT: true; the input reads as it did. -/
def tagsExchangedSpec : ChangeSpec := { name := "tagsExchanged", fn := fun _ => fun
  | [d1, d2, d3] => { results := [.lit (.bool true)], args := [d1, d2, d3] }
  | _ => none }
def tagsExchangedRow : OpenClaim := { program := "ytjmbjnobbeflfaa", sum := "5422b3dccc10653e3a5ecaf7e0241f0141470d4987675cce3e3d98bcf6cd6d1e", func := "comfit/comfitlaw06.TagsExchanged", spec := "tagsExchanged", unfollowed := true, recurses := true, apart := false }
def TagsExchangedSaid : Prop := tagsExchangedRow.holds Try.pinned (OpenSpec.ofChange tagsExchangedSpec)

/-- ITS FALSE NEIGHBOUR: 'it returns false'. Refute it at one input. -/
def tagsExchangedWrong : ChangeSpec := { name := "tagsExchanged", fn := fun _ => fun
  | [d1, d2, d3] => { results := [.lit (.bool false)], args := [d1, d2, d3] }
  | _ => none }
def TagsExchangedWrongFalsely : Prop := tagsExchangedRow.holds Try.pinned (OpenSpec.ofChange tagsExchangedWrong)

/- THE SECOND FORM. 'bulk': how many values and letters a reading holds, each counted each time it is reached (what is shared counts as often as it is met; a slice's spare places count too). A statement '..UptoSaid' is the law's where the arguments, and the package variables that the reading takes, are together of bulk at most 1048576: NARROWER than '..Said'. Prove '..Said' where nothing that the law and all that it calls make is longer than what came in: it says more and counts as full. Else prove '..UptoSaid'. A law counts once. -/
mutual
def uptoBulk {H : Type} : DataW H → Nat
  | .lit (.string bytes) => bytes.length + 1
  | .lit _ => 1
  | .nil => 1
  | .ptr d => uptoBulk d + 1
  | .slice elems spare => uptoBulkAll elems + uptoBulkAll spare + 1
  | .agg parts => uptoBulkAll parts + 1
  | .iface _ d => uptoBulk d + 1
  | .map entries => uptoBulkEntries entries + 1
  | .held _ => 1
def uptoBulkAll {H : Type} : List (DataW H) → Nat
  | [] => 0
  | d :: r => uptoBulk d + uptoBulkAll r
def uptoBulkEntries {H : Type} : List (Lit × DataW H) → Nat
  | [] => 0
  | x :: r => uptoBulkEntry x + uptoBulkEntries r
def uptoBulkEntry {H : Type} : Lit × DataW H → Nat
  | (.string bytes, d) => bytes.length + uptoBulk d + 1
  | (_, d) => uptoBulk d + 1
 end
def uptoSmall : (H : Type) → List (DataW H) → Bool := fun _ ds => decide (uptoBulkAll ds ≤ 1048576)
def OpenSpec.upto (s : _root_.Go.ChangeSpec) : _root_.Go.OpenSpec := { _root_.Go.OpenSpec.ofChange s with cond := some uptoSmall }

/-- 'comfitlaw06.TagsGoes', WHERE WHAT IT READS IS OF BULK AT MOST 1048576: true; the input reads as it did. -/
def tagsGoesUptoRow : OpenClaim := { program := "ytjmbjnobbeflfaa", sum := "5422b3dccc10653e3a5ecaf7e0241f0141470d4987675cce3e3d98bcf6cd6d1e", func := "comfit/comfitlaw06.TagsGoes", spec := "tagsGoes", unfollowed := true, recurses := true, apart := false, narrowed := true }
def TagsGoesUptoSaid : Prop := tagsGoesUptoRow.holds Try.pinned (OpenSpec.upto tagsGoesSpec)

/-- 'comfitlaw06.TagsMore', WHERE WHAT IT READS IS OF BULK AT MOST 1048576: true; the input reads as it did. -/
def tagsMoreUptoRow : OpenClaim := { program := "ytjmbjnobbeflfaa", sum := "5422b3dccc10653e3a5ecaf7e0241f0141470d4987675cce3e3d98bcf6cd6d1e", func := "comfit/comfitlaw06.TagsMore", spec := "tagsMore", unfollowed := true, recurses := true, apart := false, narrowed := true }
def TagsMoreUptoSaid : Prop := tagsMoreUptoRow.holds Try.pinned (OpenSpec.upto tagsMoreSpec)

/-- 'comfitlaw06.TagsEnds', WHERE WHAT IT READS IS OF BULK AT MOST 1048576: true; the input reads as it did. -/
def tagsEndsUptoRow : OpenClaim := { program := "ytjmbjnobbeflfaa", sum := "5422b3dccc10653e3a5ecaf7e0241f0141470d4987675cce3e3d98bcf6cd6d1e", func := "comfit/comfitlaw06.TagsEnds", spec := "tagsEnds", unfollowed := true, recurses := true, apart := false, narrowed := true }
def TagsEndsUptoSaid : Prop := tagsEndsUptoRow.holds Try.pinned (OpenSpec.upto tagsEndsSpec)

/-- 'comfitlaw06.TagsCircles', WHERE WHAT IT READS IS OF BULK AT MOST 1048576: true; the input reads as it did. -/
def tagsCirclesUptoRow : OpenClaim := { program := "ytjmbjnobbeflfaa", sum := "5422b3dccc10653e3a5ecaf7e0241f0141470d4987675cce3e3d98bcf6cd6d1e", func := "comfit/comfitlaw06.TagsCircles", spec := "tagsCircles", unfollowed := true, recurses := true, apart := false, narrowed := true }
def TagsCirclesUptoSaid : Prop := tagsCirclesUptoRow.holds Try.pinned (OpenSpec.upto tagsCirclesSpec)

/-- 'comfitlaw06.TagsAdds', WHERE WHAT IT READS IS OF BULK AT MOST 1048576: true; the input reads as it did. -/
def tagsAddsUptoRow : OpenClaim := { program := "ytjmbjnobbeflfaa", sum := "5422b3dccc10653e3a5ecaf7e0241f0141470d4987675cce3e3d98bcf6cd6d1e", func := "comfit/comfitlaw06.TagsAdds", spec := "tagsAdds", unfollowed := true, recurses := true, apart := false, narrowed := true }
def TagsAddsUptoSaid : Prop := tagsAddsUptoRow.holds Try.pinned (OpenSpec.upto tagsAddsSpec)

/-- 'comfitlaw06.TagsFewer', WHERE WHAT IT READS IS OF BULK AT MOST 1048576: true; the input reads as it did. -/
def tagsFewerUptoRow : OpenClaim := { program := "ytjmbjnobbeflfaa", sum := "5422b3dccc10653e3a5ecaf7e0241f0141470d4987675cce3e3d98bcf6cd6d1e", func := "comfit/comfitlaw06.TagsFewer", spec := "tagsFewer", unfollowed := true, recurses := true, apart := false, narrowed := true }
def TagsFewerUptoSaid : Prop := tagsFewerUptoRow.holds Try.pinned (OpenSpec.upto tagsFewerSpec)

/-- 'comfitlaw06.TagsExchanged', WHERE WHAT IT READS IS OF BULK AT MOST 1048576: true; the input reads as it did. -/
def tagsExchangedUptoRow : OpenClaim := { program := "ytjmbjnobbeflfaa", sum := "5422b3dccc10653e3a5ecaf7e0241f0141470d4987675cce3e3d98bcf6cd6d1e", func := "comfit/comfitlaw06.TagsExchanged", spec := "tagsExchanged", unfollowed := true, recurses := true, apart := false, narrowed := true }
def TagsExchangedUptoSaid : Prop := tagsExchangedUptoRow.holds Try.pinned (OpenSpec.upto tagsExchangedSpec)

end Rows
end Go.Proofs.Ytjmbjnobbeflfaa
