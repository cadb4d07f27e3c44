/- The contract of packets.Exact: valid weights, a set of them and a count of packets, then the loop over the set's parts. -/
import Derived.Test.YtigmhomfadimnaaQHBoxes
import Derived.Test.YtigmhomfadimnaaQHParts
import Derived.Test.YtigmhomfadimnaaQHIsSet
import Derived.Test.YtigmhomfadimnaaQHMean
import Derived.Test.YtigmhomfadimnaaQXP
set_option linter.unusedVariables false
set_option linter.unusedSimpArgs false
namespace Go.Proofs.Ytigmhomfadimnaa.X
open Go.RowKit Go.Proofs.YtigmhomfadimnaaW.PrintWords Go.Proofs.YtigmhomfadimnaaW.PrintLast Go.Proofs.YtigmhomfadimnaaW.PrintMore
attribute [local go_sem] Oper.semAt_some

/-- What stands in memory between two rounds. -/
def ExactSt (w V : World) (g4 g5 g6 g8 g9 gB : Nat) (A0 : Option Addr) (n c0 : Nat) (a1 a2 s : Int) (W : World) : Prop :=
  W.cell? ⟨g4, 0, none⟩ = some (.int .i64 a1) ∧ W.cell? ⟨g5, 0, none⟩ = some (.int .i64 a2) ∧ W.cell? ⟨g8, 0, none⟩ = some (.slice A0 n c0) ∧ W.cell? ⟨g9, 0, none⟩ = some (.int .i64 s) ∧ Below w.heap.size w W ∧
  Box w g4 #[.int .i64 a1] 3 W ∧ Box w g5 #[.int .i64 a2] 3 W ∧ Box w g6 #[.int .i64 0, .int .i64 0] 25 W ∧ Box w g8 #[.slice A0 n c0] 52 W ∧ Box w g9 #[.int .i64 s] 3 W ∧ Box w gB #[.int .i64 a1] 3 W ∧ Below V.heap.size V W
section
variable {w V W W1 : World} {g4 g5 g6 g8 g9 gB n c0 : Nat} {A0 : Option Addr} {a1 a2 s : Int}
theorem ExactSt.mk (hb : Below w.heap.size w W) (h4 : Box w g4 #[.int .i64 a1] 3 W) (h5 : Box w g5 #[.int .i64 a2] 3 W) (h6 : Box w g6 #[.int .i64 0, .int .i64 0] 25 W) (h8 : Box w g8 #[.slice A0 n c0] 52 W) (h9 : Box w g9 #[.int .i64 s] 3 W) (hB : Box w gB #[.int .i64 a1] 3 W) (hV : Below V.heap.size V W) :
    ExactSt w V g4 g5 g6 g8 g9 gB A0 n c0 a1 a2 s W := ⟨h4.cell 0 rfl, h5.cell 0 rfl, h8.cell 0 rfl, h9.cell 0 rfl, hb, h4, h5, h6, h8, h9, hB, hV⟩
theorem ExactSt.below (h : ExactSt w V g4 g5 g6 g8 g9 gB A0 n c0 a1 a2 s W) (hb : Below W.heap.size W W1) : ExactSt w V g4 g5 g6 g8 g9 gB A0 n c0 a1 a2 s W1 := by
  obtain ⟨-, -, -, -, h0, h4, h5, h6, h8, h9, hB, hV⟩ := h
  exact .mk (below_step h0 hb) (h4.below hb) (h5.below hb) (h6.below hb) (h8.below hb) (h9.below hb) (hB.below hb) (below_step hV hb)
theorem ExactSt.put (h : ExactSt w V g4 g5 g6 g8 g9 gB A0 n c0 a1 a2 s W) (n4 : g4 ≠ g9) (n5 : g5 ≠ g9) (nB : gB ≠ g9) (d : Int) (W2 : World) (e : W2 = W.setCell ⟨g9, 0, none⟩ (.int .i64 d)) : ExactSt w W2 g4 g5 g6 g8 g9 gB A0 n c0 a1 a2 d W2 := by
  subst e
  obtain ⟨-, -, -, -, h0, h4, h5, h6, h8, h9, hB, hV⟩ := h
  exact .mk (below_set' h0 h9.1 _) (h4.far (p := ⟨g9, 0, none⟩) n4 _) (h5.far (p := ⟨g9, 0, none⟩) n5 _) (h6.far (p := ⟨g9, 0, none⟩) (h6.ne h9 (by decide)) _) (h8.far (p := ⟨g9, 0, none⟩) (h8.ne h9 (by decide)) _) (h9.put 0 _) (hB.far (p := ⟨g9, 0, none⟩) nB _) (Below.refl _ _)
theorem ExactSt.own {B : Nat} {row : Option Nat} (h : ExactSt w V g4 g5 g6 g8 g9 gB A0 n c0 a1 a2 s W) (hb : w.heap.size ≤ B) (hg : W.grownBy W1 row) (hr : ∀ r, row = some r → B ≤ r ∧ ∃ o : Obj, W.heap[r]? = some o ∧ o.isCells = false) : ExactSt w W1 g4 g5 g6 g8 g9 gB A0 n c0 a1 a2 s W1 := by
  have hr' := fun r e => (hr r e).2
  obtain ⟨-, -, -, -, h0, h4, h5, h6, h8, h9, hB, hV⟩ := h
  exact .mk (below_own h0 hb hg hr) (h4.grown hg hr') (h5.grown hg hr') (h6.grown hg hr') (h8.grown hg hr') (h9.grown hg hr') (hB.grown hg hr') (Below.refl _ _)
end

def exactT.T7 : Bool × List (List Nat × List Nat) := (true, [([], []), ([], []), ([], []), ([1, 2], [1, 2]), ([3], [3]), ([], []), ([], []), ([5, 6, 4], [5, 6]), ([], []), ([7, 8, 7], [7, 8]), ([4, 9], [4, 9]), ([0, 10], [0, 10]), ([11, 9, 0, 1, 2, 3, 4, 5, 6, 7, 8, 9, 10, 11], [11])])
def exactT.B7 : List Nat := [0, 0, 0, 6, 14, 0, 0, 126, 0, 510, 1022, 2047, 4095]
theorem exactT.tab7 : rtab .any (opsOf Try.f38 7) = exactT.T7 := by kernel_rfl
theorem exactT.bits7 : waitsOk exactT.T7.2 exactT.B7 = true := by kernel_rfl
def exactT.T8 : Bool × List (List Nat × List Nat) := (true, [([], []), ([], []), ([], []), ([2], [2]), ([1, 3, 3], [1, 3]), ([], []), ([4, 5, 4], [4, 5]), ([0, 6, 6], [0, 6]), ([7, 7, 0, 1, 2, 3, 4, 5, 6, 7], [7]), ([8, 0, 1, 2, 3, 4, 5, 6, 7, 8], [])])
def exactT.B8 : List Nat := [0, 0, 0, 4, 14, 0, 62, 127, 255, 511]
theorem exactT.tab8 : rtab .any (opsOf Try.f38 8) = exactT.T8 := by kernel_rfl
theorem exactT.bits8 : waitsOk exactT.T8.2 exactT.B8 = true := by kernel_rfl

end Go.Proofs.Ytigmhomfadimnaa.X
