/- Variables in memory that a call has made: their blocks, told together with what lay before. -/
import Derived.Test.YtmlbdkkdejecmaaDoorQX0
set_option linter.unusedVariables false
set_option linter.unusedSimpArgs false
namespace Go.Proofs.YtmlbdkkdejecmaaDoor.X
open Go.RowKit Go.Proofs.YtmlbdkkdejecmaaDoorW.PrintWords Go.Proofs.YtmlbdkkdejecmaaDoorW.PrintLast Go.Proofs.YtmlbdkkdejecmaaDoorW.PrintMore

/-- Block g holds these cells, and lies behind all that lay in w0. -/
def Box (w0 : World) (g : Nat) (cs : Array Value) (t : TypeId) (W : World) : Prop := w0.heap.size ≤ g ∧ W.heap[g]? = some (.cells cs t (0, 0))
section
variable {w0 W W1 : World} {g : Nat} {cs : Array Value} {t : TypeId}
theorem Box.lt (h : Box w0 g cs t W) : g < W.heap.size := blk_lt h.2
theorem Box.below (h : Box w0 g cs t W) (hb : Below W.heap.size W W1) : Box w0 g cs t W1 := ⟨h.1, (hb.block _ h.lt).trans h.2⟩
theorem Box.cell (h : Box w0 g cs t W) (i : Nat) {v : Value} (hv : cs[i]? = some v) : W.cell? ⟨g, i, none⟩ = some v := (blk_cell h.2 i).trans hv
theorem Box.frozen (h : Box w0 g cs t W) (i : Nat) : W.frozen? ⟨g, i, none⟩ = false := blk_frozen h.2 i
theorem Box.put (h : Box w0 g cs t W) (i : Nat) (u : Value) : Box w0 g (cs.setIfInBounds i u) t (W.setCell ⟨g, i, none⟩ u) := ⟨h.1, by simpa using blk_set h.2 i u⟩
theorem Box.alloc (h : Box w0 g cs t W) (o : Obj) : Box w0 g cs t (W.alloc o) := h.below (below_alloc (Below.refl _ _) o)
theorem Box.drew (h : Box w0 g cs t W) : Box w0 g cs t W.drew := h
theorem Box.drewN (h : Box w0 g cs t W) (n : Nat) : Box w0 g cs t (W.drewN n) := h
theorem Box.new (hb : Below w0.heap.size w0 W) (cs : Array Value) (t : TypeId) : Box w0 W.heap.size cs t (W.alloc (.cells cs t)) := ⟨hb.size, by simpa using heap_alloc_new W _⟩
theorem Box.grown {row : Option Nat} (h : Box w0 g cs t W) (hg : W.grownBy W1 row) (hr : ∀ r, row = some r → ∃ o : Obj, W.heap[r]? = some o ∧ ∀ cs t m, o ≠ .cells cs t m) : Box w0 g cs t W1 := by
  refine ⟨h.1, (hg.block _ h.lt ?_).trans h.2⟩
  intro e
  obtain ⟨o, ho, hc⟩ := hr g e.symm
  rw [h.2] at ho
  injection ho with ho
  exact hc _ _ _ ho.symm
theorem below_set' {p : Addr} (h : Below w0.heap.size w0 W) (hp : w0.heap.size ≤ p.block) (u : Value) : Below w0.heap.size w0 (W.setCell p u) := h.setCell hp u
end
end Go.Proofs.YtmlbdkkdejecmaaDoor.X
