/- The walk through the law LotsFinds: told by the results that its calls are known to have. -/
import Derived.Test.YtdppnmfljfdhaaaQHFind
import Derived.Test.YtdppnmfljfdhaaaQHRFind
import Derived.Test.YtdppnmfljfdhaaaQXL
import Derived.Test.YtdppnmfljfdhaaaQXR
import Derived.Test.YtdppnmfljfdhaaaQXcomfitlaw02awake
import Derived.ChangeKeysEq
set_option linter.unusedVariables false
set_option linter.unusedSimpArgs false
namespace Go.Proofs.Ytdppnmfljfdhaaa.X
open Go.RowKit Go.Proofs.YtdppnmfljfdhaaaW.PrintWords Go.Proofs.YtdppnmfljfdhaaaW.PrintLast Go.Proofs.YtdppnmfljfdhaaaW.PrintMore
attribute [local go_sem] max2_int min2_int max_two min_two max_three min_three max_four min_four
attribute [local go_sem] Oper.semAt_some

theorem eqA67' (d : Nat) (w : World) (a b c e : Int) : (Op.equalIn (d + 2) 67 (.agg #[.int .i64 a, .int .i64 b]) (.agg #[.int .i64 c, .int .i64 e])).run Try.prog w = .ok (a == c && (b == e)) w := by
  obtain ⟨i, hi⟩ : ∃ i, Try.prog.info? 3 = some i := by
    have h := info3
    cases hq : Try.prog.info? 3 with
    | none => rw [hq] at h; simp at h
    | some i => exact ⟨i, rfl⟩
  rw [run_equalIn_array w (d + 1) _ _ Try.underlying67 hi]
  rw [show List.range 2 = [0, 1] from rfl, show Try.prog.cellsOf 3 = 1 by kernel_rfl]
  simp only [Op.eqItems]
  go_simp
  by_cases h1 : a = c <;> by_cases h2 : b = e <;> simp [h1, h2]
theorem eqA67 (w : World) (a b c e : Int) : (Op.equalIn 10000 67 (.agg #[.int .i64 a, .int .i64 b]) (.agg #[.int .i64 c, .int .i64 e])).run Try.prog w = .ok (a == c && (b == e)) w := eqA67' 9998 w a b c e
attribute [local go_sem] eqA67
/-- Four variables of two cells, and what lay before. -/
def CQ (g : Nat) (u0 u1 : Value) (g' : Nat) (u2 u3 : Value) (g2 : Nat) (u4 u5 : Value) (g3 : Nat) (u6 u7 : Value) (w w7 W : World) : Prop := W.cell? ⟨g, 0, none⟩ = some u0 ∧ W.cell? ⟨g, 1, none⟩ = some u1 ∧ W.cell? ⟨g', 0, none⟩ = some u2 ∧ W.cell? ⟨g', 1, none⟩ = some u3 ∧
  W.cell? ⟨g2, 0, none⟩ = some u4 ∧ W.cell? ⟨g2, 1, none⟩ = some u5 ∧ W.cell? ⟨g3, 0, none⟩ = some u6 ∧ W.cell? ⟨g3, 1, none⟩ = some u7 ∧ Below w.heap.size w W ∧ Below w7.heap.size w7 W
section
variable {g g' g2 g3 : Nat} {u0 u1 u2 u3 u4 u5 u6 u7 : Value} {w w7 W W1 : World}
theorem CQ.below (h : CQ g u0 u1 g' u2 u3 g2 u4 u5 g3 u6 u7 w w7 W) (hb : Below W.heap.size W W1) : CQ g u0 u1 g' u2 u3 g2 u4 u5 g3 u6 u7 w w7 W1 := by
  obtain ⟨h0, h1, h2, h3, h4, h5, h6, h7, h8, h9⟩ := h
  exact ⟨cell_keep3 h0 hb, cell_keep3 h1 hb, cell_keep3 h2 hb, cell_keep3 h3 hb, cell_keep3 h4 hb, cell_keep3 h5 hb, cell_keep3 h6 hb, cell_keep3 h7 hb, below_step h8 hb, below_step h9 hb⟩
theorem cq_of {t0 t1 t2 t3 : TypeId} {x0 x1 x2 x3 : World} (h0 : Box x0 g #[u0, u1] t0 W) (h1 : Box x1 g' #[u2, u3] t1 W) (h2 : Box x2 g2 #[u4, u5] t2 W) (h3 : Box x3 g3 #[u6, u7] t3 W) (hb : Below w.heap.size w W) (hw : Below W.heap.size W W1) : CQ g u0 u1 g' u2 u3 g2 u4 u5 g3 u6 u7 w W W1 :=
  ⟨(h0.below hw).cell 0 rfl, (h0.below hw).cell 1 rfl, (h1.below hw).cell 0 rfl, (h1.below hw).cell 1 rfl, (h2.below hw).cell 0 rfl, (h2.below hw).cell 1 rfl, (h3.below hw).cell 0 rfl, (h3.below hw).cell 1 rfl, below_step hb hw, hw⟩
end
def fisT.T1 : Bool × List (List Nat × List Nat) := (true, [([], []), ([0], [0]), ([], []), ([2, 1], [2]), ([], []), ([4, 3], [4]), ([], []), ([6, 5], [6]), ([1, 3, 5, 7, 7], [1, 3, 5, 7]), ([8], [8]), ([9], [9]), ([9], [9]), ([], []), ([12, 10, 8, 0, 1, 2, 3, 4, 5, 6, 7, 8, 9, 10, 12], [10, 12]), ([11, 13, 0, 1, 2, 3, 4, 5, 6, 7, 8, 9, 10, 11, 12, 13], [11])])
def fisT.B1 : List Nat := [0, 1, 0, 7, 0, 31, 0, 127, 255, 511, 1023, 1023, 0, 6143, 16383]
theorem fisT.tab1 : rtab .any (opsOf Try.f15 1) = fisT.T1 := by kernel_rfl
theorem fisT.bits1 : waitsOk fisT.T1.2 fisT.B1 = true := by kernel_rfl
end Go.Proofs.Ytdppnmfljfdhaaa.X
