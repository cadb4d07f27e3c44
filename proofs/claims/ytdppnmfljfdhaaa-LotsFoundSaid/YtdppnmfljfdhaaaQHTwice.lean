/- The walk through the law LotsTwice, which hands a plan away and reads it afterwards: told by the results that its calls are known to have. -/
import Derived.Test.YtdppnmfljfdhaaaQHBoxes
import Derived.Test.YtdppnmfljfdhaaaQXLO
import Derived.Test.YtdppnmfljfdhaaaQXR
import Derived.Test.YtdppnmfljfdhaaaQXS
import Derived.Test.YtdppnmfljfdhaaaQXcomfitlaw02awake
import Derived.Test.YtdppnmfljfdhaaaQX0
import Derived.Test.YtdppnmfljfdhaaaQXP
set_option linter.unusedVariables false
set_option linter.unusedSimpArgs false
namespace Go.Proofs.Ytdppnmfljfdhaaa.X
open Go.RowKit Go.Proofs.YtdppnmfljfdhaaaW.PrintWords Go.Proofs.YtdppnmfljfdhaaaW.PrintLast Go.Proofs.YtdppnmfljfdhaaaW.PrintMore
attribute [local go_sem] max2_int min2_int max_two min_two max_three min_three max_four min_four
attribute [local go_sem] Oper.semAt_some

/-- A variable of two cells that is made and filled. -/
theorem box2 {w W : World} (hb : Below w.heap.size w W) (u0 u1 : Value) (t : TypeId) :
    Below W.heap.size W (W.alloc (.cells #[u0, u1] t)) ∧ Box w W.heap.size #[u0, u1] t (W.alloc (.cells #[u0, u1] t)) :=
  ⟨below_alloc (Below.refl _ _) _, Box.new hb #[u0, u1] t⟩
set_option maxRecDepth 100000 in
/-- 'own' hands the very rows on. -/
theorem own_calls (A0 A1 : Option Addr) (n0 c0 n1 c1 : Nat) (w : World) :
    Calls Try.prog 38 #[.agg #[.slice A0 n0 c0, .slice A1 n1 c1]] w fun e w' => e = .returned (.agg #[.slice A0 n0 c0, .slice A1 n1 c1]) ∧ Below w.heap.size w w' := by
  have hu32 := Try.underlying32
  have hu24 := Try.underlying24
  have B1 := Aside0.mk ((Box.new (Below.refl w.heap.size w) #[.slice A0 n0 c0, .slice A1 n1 c1] 32).alloc (.cells #[.slice none 0 0, .slice none 0 0] 24))
  have B2 := Aside0.mk (Box.new (below_alloc (Below.refl w.heap.size w) (.cells #[.slice A0 n0 c0, .slice A1 n1 c1] 32)) #[.slice none 0 0, .slice none 0 0] 24)
  have HB := Aside0.mk (below_alloc (below_alloc (Below.refl w.heap.size w) (.cells #[.slice A0 n0 c0, .slice A1 n1 c1] 32)) (.cells #[.slice none 0 0, .slice none 0 0] 24))
  have B3 := Aside0.mk (Box.new (below_alloc (Below.refl w.heap.size w) (.cells #[.slice A0 n0 c0, .slice A1 n1 c1] 32)) #[.slice A0 n0 c0, .slice A1 n1 c1] 24)
  rw [World.size_alloc] at B2 B3
  have p0 := B1.out.cell 0 rfl
  have p1 := B1.out.cell 1 rfl
  have q0 := B2.out.cell 0 rfl
  have q1 := B2.out.cell 1 rfl
  have f0 := B2.out.frozen 0
  have f1 := B2.out.frozen 1
  go_enter Try.func38, Try.ntmps38
  go_wp2_with fail
  refine bodyPost_ret (results_cell_row rfl _ _ (w.heap.size + 1) 24 #[.slice A0 n0 c0, .slice A1 n1 c1] (0, 0) _ rfl B3.out.2 Try.underlying24 rfl (by kernel_rfl)) rfl ⟨rfl, below_alloc (below_alloc (Below.refl _ _) _) _⟩
/-- A variable of two cells, and what lay before. -/
def CS (g : Nat) (u0 u1 : Value) (w w7 W : World) : Prop := W.cell? ⟨g, 0, none⟩ = some u0 ∧ W.cell? ⟨g, 1, none⟩ = some u1 ∧ Below w.heap.size w W ∧ Below w7.heap.size w7 W
theorem CS.below {g : Nat} {u0 u1 : Value} {w w7 W W1 : World} (h : CS g u0 u1 w w7 W) (hb : Below W.heap.size W W1) : CS g u0 u1 w w7 W1 :=
  ⟨(hb.cell (World.block_lt_of_cell? W _ h.1)).trans h.1, (hb.cell (World.block_lt_of_cell? W _ h.2.1)).trans h.2.1, below_step h.2.2.1 hb, below_step h.2.2.2 hb⟩
theorem Box.cs {g : Nat} {u0 u1 : Value} {t : TypeId} {w W : World} (h : Box w g #[u0, u1] t W) (hb : Below w.heap.size w W) : CS g u0 u1 w W W.drew :=
  ⟨h.cell 0 rfl, h.cell 1 rfl, below_drew hb, below_drew (Below.refl _ _)⟩
def twiT.B7 : List Nat := [0, 1, 0, 0, 8, 24, 60, 127, 255, 511, 1023, 1023, 1023, 2047, 12287, 32767]
def twiT.T8 : Bool × List (List Nat × List Nat) := (true, [([], []), ([], []), ([], []), ([2], [2]), ([3], [3]), ([1, 4], [1, 4]), ([5], [5]), ([0, 6, 6], [0, 6]), ([7], [7]), ([8], [8]), ([8], [8]), ([8], [8]), ([9, 7, 0, 1, 2, 3, 4, 5, 6, 7, 8, 9], [9]), ([10, 12, 0, 1, 2, 3, 4, 5, 6, 7, 8, 9, 10, 12], [10]), ([11, 13, 0, 1, 2, 3, 4, 5, 6, 7, 8, 9, 10, 11, 12, 13], [11])])
def twiT.B8 : List Nat := [0, 0, 0, 4, 12, 30, 62, 127, 255, 511, 511, 511, 1023, 6143, 16383]
theorem twiT.tab8 : rtab .any (opsOf Try.f10 8) = twiT.T8 := by kernel_rfl
theorem twiT.bits8 : waitsOk twiT.T8.2 twiT.B8 = true := by kernel_rfl
end Go.Proofs.Ytdppnmfljfdhaaa.X
