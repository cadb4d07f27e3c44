/- The contract of (packets.weights).done: the loop over the set's parts. -/
import Derived.Test.YtigmhomfadimnaaQHBoxes
import Derived.Test.YtigmhomfadimnaaQHParts
import Derived.Test.YtigmhomfadimnaaQXP
set_option linter.unusedVariables false
set_option linter.unusedSimpArgs false
namespace Go.Proofs.Ytigmhomfadimnaa.X
open Go.RowKit Go.Proofs.YtigmhomfadimnaaW.PrintWords Go.Proofs.YtigmhomfadimnaaW.PrintLast Go.Proofs.YtigmhomfadimnaaW.PrintMore
attribute [local go_sem] Oper.semAt_some

/-- What stands in memory between two rounds. -/
def DoneSt (w V : World) (g3 g5 g7 gB : Nat) (A0 : Option Addr) (n c0 : Nat) (a2 set s : Int) (W : World) : Prop :=
  W.cell? ⟨g3, 0, none⟩ = some (.slice A0 n c0) ∧ W.cell? ⟨g5, 0, none⟩ = some (.int .i64 a2) ∧ W.cell? ⟨g7, 0, none⟩ = some (.int .i64 s) ∧ Below w.heap.size w W ∧
  Box w g3 #[.slice A0 n c0] 52 W ∧ Box w g5 #[.int .i64 a2] 3 W ∧ Box w g7 #[.int .i64 s] 3 W ∧ Box w gB #[.int .i64 set] 3 W ∧ Below V.heap.size V W
section
variable {w V W W1 : World} {g3 g5 g7 gB n c0 : Nat} {A0 : Option Addr} {a2 set s : Int}
theorem DoneSt.mk (hb : Below w.heap.size w W) (h3 : Box w g3 #[.slice A0 n c0] 52 W) (h5 : Box w g5 #[.int .i64 a2] 3 W) (h7 : Box w g7 #[.int .i64 s] 3 W) (hB : Box w gB #[.int .i64 set] 3 W) (hV : Below V.heap.size V W) :
    DoneSt w V g3 g5 g7 gB A0 n c0 a2 set s W := ⟨h3.cell 0 rfl, h5.cell 0 rfl, h7.cell 0 rfl, hb, h3, h5, h7, hB, hV⟩
theorem DoneSt.below (h : DoneSt w V g3 g5 g7 gB A0 n c0 a2 set s W) (hb : Below W.heap.size W W1) : DoneSt w V g3 g5 g7 gB A0 n c0 a2 set s W1 :=
  .mk (below_step h.2.2.2.1 hb) (h.2.2.2.2.1.below hb) (h.2.2.2.2.2.1.below hb) (h.2.2.2.2.2.2.1.below hb) (h.2.2.2.2.2.2.2.1.below hb) (below_step h.2.2.2.2.2.2.2.2 hb)
theorem DoneSt.put (h : DoneSt w V g3 g5 g7 gB A0 n c0 a2 set s W) (h57 : g5 ≠ g7) (hB7 : gB ≠ g7) (d : Int) (W2 : World) (e : W2 = W.setCell ⟨g7, 0, none⟩ (.int .i64 d)) : DoneSt w W2 g3 g5 g7 gB A0 n c0 a2 set d W2 := by
  subst e
  obtain ⟨-, -, -, hb, h3, h5, h7, hB, -⟩ := h
  exact .mk (below_set' hb h7.1 _) (h3.far (p := ⟨g7, 0, none⟩) (h3.ne h7 (by decide)) _) (h5.far (p := ⟨g7, 0, none⟩) h57 _) (h7.put 0 _) (hB.far (p := ⟨g7, 0, none⟩) hB7 _) (Below.refl _ _)
theorem DoneSt.own {B : Nat} {row : Option Nat} (h : DoneSt w V g3 g5 g7 gB A0 n c0 a2 set s W) (hB : w.heap.size ≤ B) (hg : W.grownBy W1 row) (hr : ∀ r, row = some r → B ≤ r ∧ ∃ o : Obj, W.heap[r]? = some o ∧ o.isCells = false) : DoneSt w W1 g3 g5 g7 gB A0 n c0 a2 set s W1 :=
  .mk (below_own h.2.2.2.1 hB hg hr) (h.2.2.2.2.1.grown hg (fun r e => (hr r e).2)) (h.2.2.2.2.2.1.grown hg (fun r e => (hr r e).2)) (h.2.2.2.2.2.2.1.grown hg (fun r e => (hr r e).2)) (h.2.2.2.2.2.2.2.1.grown hg (fun r e => (hr r e).2)) (Below.refl _ _)
end

def doneT.B4 : List Nat := [0, 0, 2, 0, 0, 22, 0, 118, 254, 0, 1022, 2046, 4095, 8191]
end Go.Proofs.Ytigmhomfadimnaa.X
