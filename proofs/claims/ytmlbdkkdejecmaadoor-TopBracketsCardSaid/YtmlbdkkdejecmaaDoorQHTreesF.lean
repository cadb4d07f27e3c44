/- What tables.grammar.trees tells, at the grammar of brackets and the strings of at most three pairs of them. -/
import Derived.Test.YtmlbdkkdejecmaaDoorQHBoxes
set_option linter.unusedVariables false
set_option linter.unusedSimpArgs false
namespace Go.Proofs.YtmlbdkkdejecmaaDoor.X
open Go.RowKit Go.Proofs.YtmlbdkkdejecmaaDoorW.PrintWords Go.Proofs.YtmlbdkkdejecmaaDoorW.PrintLast Go.Proofs.YtmlbdkkdejecmaaDoorW.PrintMore
/-- A -> aAbA, A -> nothing. -/
def rules2 : List S32 := [⟨65, ⟨#[97, 65, 98, 65]⟩⟩, ⟨65, ⟨#[]⟩⟩]
def isR (l : List S32) : Bool := match l with
  | [x, y] => x.f0 == 65 && x.f1.data.toList == [97, 65, 98, 65] && (y.f0 == 65 && y.f1.data.toList == [])
  | _ => false
theorem isR_eq {l : List S32} (h : isR l = true) : l = rules2 := by
  unfold isR at h
  split at h
  · rename_i x y
    obtain ⟨f0, ⟨⟨l1⟩⟩⟩ := x
    obtain ⟨g0, ⟨⟨l2⟩⟩⟩ := y
    simp at h
    obtain ⟨⟨rfl, rfl⟩, rfl, rfl⟩ := h
    rfl
  · cases h
/-- The strings of brackets. -/
def nest : List (List UInt8) := [[97, 98], [97, 97, 98, 98], [97, 98, 97, 98], [97, 97, 97, 98, 98, 98], [97, 97, 98, 97, 98, 98], [97, 97, 98, 98, 97, 98], [97, 98, 97, 97, 98, 98], [97, 98, 97, 98, 97, 98]]
def tables_grammar_trees.f (l : List S32) (s : ByteArray) (most : Int) : Option Int := if (isR l && (nest.contains s.data.toList && most == 100)) = true then some 1 else none
end Go.Proofs.YtmlbdkkdejecmaaDoor.X
