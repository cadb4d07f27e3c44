/- The contract of tags.isJars: both numbers lie from 0 to 100. -/
import Derived.Test.YtmlbdkkdejecmaaQHBoxes
import Derived.Test.YtmlbdkkdejecmaaQXV
set_option linter.unusedVariables false
set_option linter.unusedSimpArgs false
namespace Go.Proofs.Ytmlbdkkdejecmaa.X
open Go.RowKit Go.Proofs.YtmlbdkkdejecmaaW.PrintWords Go.Proofs.YtmlbdkkdejecmaaW.PrintLast Go.Proofs.YtmlbdkkdejecmaaW.PrintMore
attribute [local go_sem] Oper.semAt_some
def tags_isJars.f (a b : Int) : Option Bool := some (decide (0 ≤ mn a b) && decide (mx a b ≤ 100))
theorem min_of (a b : Int) : slices_Min_int_int.f 2 [a, b] = some (mn a b) := by
  simp [slices_Min_int_int.f, slices_Min_int_int.l0, rd, wrap64]
theorem max_of (a b : Int) : slices_Max_int_int.f 2 [a, b] = some (mx a b) := by
  simp [slices_Max_int_int.f, slices_Max_int_int.l0, rd, wrap64]
/-- A variable of two numbers, as a row. -/
theorem row2 {w0 W : World} {g : Nat} {t : TypeId} {a b : Int} (h : Box w0 g #[.int .i64 a, .int .i64 b] t W) : Kd.C (Kd.int .i64) W (some ⟨g, 0, none⟩) [a, b].length [a, b] := by
  refine ⟨rfl, by simp, fun _ => ⟨_, rfl, fun j x hj => ?_⟩⟩
  have hc : ∀ i u, ([.int .i64 a, .int .i64 b] : List Value)[i]? = some u → W.cell? (Addr.add ⟨g, 0, none⟩ i) = some u := by
    intro i u hu
    rw [add_plain]
    exact h.cell i (by simpa using hu)
  match j, hj with
  | 0, hj =>
    obtain rfl : a = x := by simpa using hj
    refine ⟨[.int .i64 a], rfl, rfl, fun i u hu => hc _ _ ?_⟩
    match i, hu with
    | 0, hu => exact hu
  | 1, hj =>
    obtain rfl : b = x := by simpa using hj
    refine ⟨[.int .i64 b], rfl, rfl, fun i u hu => hc _ _ ?_⟩
    match i, hu with
    | 0, hu => exact hu
set_option maxRecDepth 100000 in
set_option maxHeartbeats 8000000 in
theorem tags_isJars.calls (a0_0 a0_1 : Int) (r : Bool) (w : World) (h : tags_isJars.f a0_0 a0_1 = some r) :
    Calls Try.prog 43 #[.agg #[.int .i64 a0_0, .int .i64 a0_1]] w fun e w' => e = .returned (.bool r) ∧ Below w.heap.size w w' := by
  have hu40 := Try.underlying40
  have hu23 := Try.underlying23
  have HM := Aside0.mk (min_of a0_0 a0_1)
  have HX := Aside0.mk (max_of a0_0 a0_1)
  have HR : Aside0 (r = (decide (0 ≤ mn a0_0 a0_1) && decide (mx a0_0 a0_1 ≤ 100))) := ⟨(Option.some.inj h).symm⟩
  clear h
  generalize mn a0_0 a0_1 = m at HM HR
  generalize mx a0_0 a0_1 = x at HX HR
  have B1 := Aside0.mk (Box.new (Below.refl w.heap.size w) #[.int .i64 a0_0, .int .i64 a0_1] 40)
  have HB := Aside0.mk (below_alloc (Below.refl w.heap.size w) (.cells #[.int .i64 a0_0, .int .i64 a0_1] 40))
  by_cases h0 : 0 ≤ m
  · have h0b : decide (0 ≤ m) = true := decide_eq_true h0
    clear h0
    go_enter Try.func43, Try.ntmps43
    go_wp2_with fail
    refine (slices_Min_int_int.calls 2 _ 2 [a0_0, a0_1] m _ (row2 B1.out) (Nat.le_refl 2) HM.out).mono ?_
    rintro e w1 ⟨rfl, hb⟩
    replace B1 := Aside0.mk (B1.out.below hb)
    replace HB := Aside0.mk (below_step HB.out hb)
    clear hb
    go_wp2_with fail
    refine (slices_Max_int_int.calls 2 _ 2 [a0_0, a0_1] x _ (row2 B1.out) (Nat.le_refl 2) HX.out).mono ?_
    rintro e w2 ⟨rfl, hb⟩
    replace HB := Aside0.mk (below_step HB.out hb)
    clear hb
    go_wp2_with fail
    go_ret
    exact ⟨by rw [HR.out]; simp [h0b], HB.out⟩
  · have h0b : decide (0 ≤ m) = false := decide_eq_false h0
    clear h0
    go_enter Try.func43, Try.ntmps43
    go_wp2_with fail
    refine (slices_Min_int_int.calls 2 _ 2 [a0_0, a0_1] m _ (row2 B1.out) (Nat.le_refl 2) HM.out).mono ?_
    rintro e w1 ⟨rfl, hb⟩
    replace B1 := Aside0.mk (B1.out.below hb)
    replace HB := Aside0.mk (below_step HB.out hb)
    clear hb
    go_wp2_with fail
    go_ret
    exact ⟨by rw [HR.out]; simp [h0b], HB.out⟩
end Go.Proofs.Ytmlbdkkdejecmaa.X
