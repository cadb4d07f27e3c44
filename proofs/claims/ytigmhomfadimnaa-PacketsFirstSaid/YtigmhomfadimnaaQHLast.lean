/- The contract of packets.Last: valid weights, a set of them and a kind of it, then the loop over the parts of the others. -/
import Derived.Test.YtigmhomfadimnaaQHBoxes
import Derived.Test.YtigmhomfadimnaaQHParts
import Derived.Test.YtigmhomfadimnaaQHIsSet
import Derived.Test.YtigmhomfadimnaaQHMean
import Derived.Test.YtigmhomfadimnaaQXP
set_option linter.unusedVariables false
set_option linter.unusedSimpArgs false
namespace Go.Proofs.Ytigmhomfadimnaa.X
open Go.RowKit Go.Proofs.YtigmhomfadimnaaW.PrintWords Go.Proofs.YtigmhomfadimnaaW.PrintLast Go.Proofs.YtigmhomfadimnaaW.PrintMore
attribute [local go_sem] Oper.semAt_some

/-- What stands in memory between two rounds. -/
def LastSt (w V : World) (g3 g5 g6 g8 g9 gB : Nat) (ad : Addr) (n c0 : Nat) (a2 v set s1 s2 : Int) (W : World) : Prop :=
  W.cell? ⟨g3, 0, none⟩ = some (.slice (some ad) n c0) ∧ W.cell? ⟨g5, 0, none⟩ = some (.int .i64 a2) ∧ W.cell? ⟨g8, 0, none⟩ = some (.slice (some ad) n c0) ∧ W.cell? ⟨g9, 0, none⟩ = some (.int .i64 s1) ∧ W.cell? ⟨g9, 1, none⟩ = some (.int .i64 s2) ∧ W.cell? (ad.add a2.toNat) = some (.int .i64 v) ∧ Below w.heap.size w W ∧
  Box w g3 #[.slice (some ad) n c0] 23 W ∧ Box w g5 #[.int .i64 a2] 3 W ∧ Box w g6 #[.int .i64 0, .int .i64 0] 25 W ∧ Box w g8 #[.slice (some ad) n c0] 52 W ∧ Box w g9 #[.int .i64 s1, .int .i64 s2] 25 W ∧ Box w gB #[.int .i64 set] 3 W ∧ (w.cell? (ad.add a2.toNat) = some (.int .i64 v) ∧ Below V.heap.size V W)
section
variable {w V W W1 : World} {g3 g5 g6 g8 g9 gB n c0 : Nat} {ad : Addr} {a2 v set s1 s2 : Int}
theorem LastSt.mk (hx : w.cell? (ad.add a2.toNat) = some (.int .i64 v)) (hb : Below w.heap.size w W) (h3 : Box w g3 #[.slice (some ad) n c0] 23 W) (h5 : Box w g5 #[.int .i64 a2] 3 W) (h6 : Box w g6 #[.int .i64 0, .int .i64 0] 25 W) (h8 : Box w g8 #[.slice (some ad) n c0] 52 W) (h9 : Box w g9 #[.int .i64 s1, .int .i64 s2] 25 W) (hB : Box w gB #[.int .i64 set] 3 W) (hV : Below V.heap.size V W) :
    LastSt w V g3 g5 g6 g8 g9 gB ad n c0 a2 v set s1 s2 W := ⟨h3.cell 0 rfl, h5.cell 0 rfl, h8.cell 0 rfl, h9.cell 0 rfl, h9.cell 1 rfl, (hb.cell (World.block_lt_of_cell? w _ hx)).trans hx, hb, h3, h5, h6, h8, h9, hB, hx, hV⟩
theorem LastSt.below (h : LastSt w V g3 g5 g6 g8 g9 gB ad n c0 a2 v set s1 s2 W) (hb : Below W.heap.size W W1) : LastSt w V g3 g5 g6 g8 g9 gB ad n c0 a2 v set s1 s2 W1 := by
  obtain ⟨-, -, -, -, -, -, h0, h3, h5, h6, h8, h9, hB, hx, hV⟩ := h
  exact .mk hx (below_step h0 hb) (h3.below hb) (h5.below hb) (h6.below hb) (h8.below hb) (h9.below hb) (hB.below hb) (below_step hV hb)
theorem LastSt.put (h : LastSt w V g3 g5 g6 g8 g9 gB ad n c0 a2 v set s1 s2 W) (n6 : g6 ≠ g9) (d1 d2 : Int) (W2 : World) (e : W2 = (W.setCell ⟨g9, 0, none⟩ (.int .i64 d1)).setCell ⟨g9, 1, none⟩ (.int .i64 d2)) : LastSt w W2 g3 g5 g6 g8 g9 gB ad n c0 a2 v set d1 d2 W2 := by
  subst e
  obtain ⟨-, -, -, -, -, -, h0, h3, h5, h6, h8, h9, hB, hx, hV⟩ := h
  have n3 := h3.ne h9 (by decide)
  have n5 := h5.ne h9 (by decide)
  have n8 := h8.ne h9 (by decide)
  have nB := hB.ne h9 (by decide)
  exact .mk hx (below_set' (below_set' h0 h9.1 _) h9.1 _) ((h3.far (p := ⟨g9, 0, none⟩) n3 _).far (p := ⟨g9, 1, none⟩) n3 _) ((h5.far (p := ⟨g9, 0, none⟩) n5 _).far (p := ⟨g9, 1, none⟩) n5 _) ((h6.far (p := ⟨g9, 0, none⟩) n6 _).far (p := ⟨g9, 1, none⟩) n6 _) ((h8.far (p := ⟨g9, 0, none⟩) n8 _).far (p := ⟨g9, 1, none⟩) n8 _) ((h9.put 0 _).put 1 _) ((hB.far (p := ⟨g9, 0, none⟩) nB _).far (p := ⟨g9, 1, none⟩) nB _) (Below.refl _ _)
theorem LastSt.own {B : Nat} {row : Option Nat} (h : LastSt w V g3 g5 g6 g8 g9 gB ad n c0 a2 v set s1 s2 W) (hb : w.heap.size ≤ B) (hg : W.grownBy W1 row) (hr : ∀ r, row = some r → B ≤ r ∧ ∃ o : Obj, W.heap[r]? = some o ∧ o.isCells = false) : LastSt w W1 g3 g5 g6 g8 g9 gB ad n c0 a2 v set s1 s2 W1 := by
  have hr' := fun r e => (hr r e).2
  obtain ⟨-, -, -, -, -, -, h0, h3, h5, h6, h8, h9, hB, hx, hV⟩ := h
  exact .mk hx (below_own h0 hb hg hr) (h3.grown hg hr') (h5.grown hg hr') (h6.grown hg hr') (h8.grown hg hr') (h9.grown hg hr') (hB.grown hg hr') (Below.refl _ _)
end

def lastT.B7 : List Nat := [0, 0, 2, 0, 0, 24, 56, 126, 0, 0, 768, 1792, 0, 0, 12294, 32518, 65534, 131071, 262143]
end Go.Proofs.Ytigmhomfadimnaa.X
