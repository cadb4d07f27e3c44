/- What tables.grammar.trees tells. -/
import Derived.Test.YtmlbdkkdejecmaaDoorQHTreesB
set_option linter.unusedVariables false
set_option linter.unusedSimpArgs false
namespace Go.Proofs.YtmlbdkkdejecmaaDoor.X
open Go.RowKit Go.Proofs.YtmlbdkkdejecmaaDoorW.PrintWords Go.Proofs.YtmlbdkkdejecmaaDoorW.PrintLast Go.Proofs.YtmlbdkkdejecmaaDoorW.PrintMore
/-- The tables, told round by round. -/
def TT (s : ByteArray) (n : Nat) : Nat → Nat → Nat → Int
  | 0 => fun _ _ => 0
  | r + 1 => fun a b => if a ≤ b ∧ b ≤ n then v2 s (TT s n r) a b else 0
def tbl (n : Nat) (L : List Int) (a b : Nat) : Int := if a ≤ b ∧ b ≤ n then L.getD (a * (n + 1) + b) 0 else 0
def stepOk (s : ByteArray) (n : Nat) (L L1 : List Int) : Bool := (List.range (n + 1)).all fun a => (List.range (n + 1)).all fun b => !decide (a ≤ b) || decide (v2 s (tbl n L) a b = tbl n L1 a b)
theorem tt_zero (s : ByteArray) (n : Nat) : TT s n 0 = tbl n [] := by
  funext a b
  unfold tbl
  split <;> simp [TT]
theorem tt_step {s : ByteArray} {n r : Nat} {L L1 : List Int} (h : TT s n r = tbl n L) (hc : stepOk s n L L1 = true) : TT s n (r + 1) = tbl n L1 := by
  funext a b
  show (if a ≤ b ∧ b ≤ n then v2 s (TT s n r) a b else 0) = _
  by_cases hd : a ≤ b ∧ b ≤ n
  · rw [if_pos hd, h]
    unfold stepOk at hc
    have h1 := List.all_eq_true.mp hc a (List.mem_range.mpr (by omega))
    have h2 := List.all_eq_true.mp h1 b (List.mem_range.mpr (by omega))
    simp only [Bool.or_eq_true, Bool.not_eq_true', decide_eq_false_iff_not, decide_eq_true_eq] at h2
    rcases h2 with h2 | h2
    · exact absurd hd.1 h2
    · exact h2
  · rw [if_neg hd]
    unfold tbl
    rw [if_neg hd]
theorem tt_ne {s : ByteArray} {n r : Nat} {L L1 : List Int} (h : TT s n r = tbl n L) (h1 : TT s n (r + 1) = tbl n L1) (a b : Nat) (hd : tbl n L a b ≠ tbl n L1 a b) : TT s n r a b ≠ TT s n (r + 1) a b := by
  rw [h, h1]
  exact hd

set_option maxRecDepth 100000 in
theorem rounds0 : Rounds ⟨#[97, 98]⟩ 2 2 (TT ⟨#[97, 98]⟩ 2) ∧ TT ⟨#[97, 98]⟩ 2 2 0 2 = 1 := by
  have e0 := tt_zero ⟨#[97, 98]⟩ 2
  have e1 : TT ⟨#[97, 98]⟩ 2 1 = tbl 2 [1, 0, 0, 0, 1, 0, 0, 0, 1] := tt_step e0 (by decide +kernel)
  have e2 : TT ⟨#[97, 98]⟩ 2 2 = tbl 2 [1, 0, 1, 0, 1, 0, 0, 0, 1] := tt_step e1 (by decide +kernel)
  have e3 : TT ⟨#[97, 98]⟩ 2 3 = tbl 2 [1, 0, 1, 0, 1, 0, 0, 0, 1] := tt_step e2 (by decide +kernel)
  refine ⟨⟨rfl, by omega, by omega, fun _ _ => rfl, fun _ _ _ => rfl, fun r hr => ?_, fun a b _ _ => (congrFun (congrFun e2 a) b).trans (congrFun (congrFun e3 a) b).symm⟩, ?_⟩
  · match r, hr with
    | 0, _ => exact ⟨0, 0, by omega, by omega, tt_ne e0 e1 _ _ (by decide +kernel)⟩
    | 1, _ => exact ⟨0, 2, by omega, by omega, tt_ne e1 e2 _ _ (by decide +kernel)⟩
    | k + 2, h => exact absurd h (by omega)
  · rw [e2]
    decide +kernel
set_option maxRecDepth 100000 in
theorem rounds1 : Rounds ⟨#[97, 97, 98, 98]⟩ 4 3 (TT ⟨#[97, 97, 98, 98]⟩ 4) ∧ TT ⟨#[97, 97, 98, 98]⟩ 4 3 0 4 = 1 := by
  have e0 := tt_zero ⟨#[97, 97, 98, 98]⟩ 4
  have e1 : TT ⟨#[97, 97, 98, 98]⟩ 4 1 = tbl 4 [1, 0, 0, 0, 0, 0, 1, 0, 0, 0, 0, 0, 1, 0, 0, 0, 0, 0, 1, 0, 0, 0, 0, 0, 1] := tt_step e0 (by decide +kernel)
  have e2 : TT ⟨#[97, 97, 98, 98]⟩ 4 2 = tbl 4 [1, 0, 0, 0, 0, 0, 1, 0, 1, 0, 0, 0, 1, 0, 0, 0, 0, 0, 1, 0, 0, 0, 0, 0, 1] := tt_step e1 (by decide +kernel)
  have e3 : TT ⟨#[97, 97, 98, 98]⟩ 4 3 = tbl 4 [1, 0, 0, 0, 1, 0, 1, 0, 1, 0, 0, 0, 1, 0, 0, 0, 0, 0, 1, 0, 0, 0, 0, 0, 1] := tt_step e2 (by decide +kernel)
  have e4 : TT ⟨#[97, 97, 98, 98]⟩ 4 4 = tbl 4 [1, 0, 0, 0, 1, 0, 1, 0, 1, 0, 0, 0, 1, 0, 0, 0, 0, 0, 1, 0, 0, 0, 0, 0, 1] := tt_step e3 (by decide +kernel)
  refine ⟨⟨rfl, by omega, by omega, fun _ _ => rfl, fun _ _ _ => rfl, fun r hr => ?_, fun a b _ _ => (congrFun (congrFun e3 a) b).trans (congrFun (congrFun e4 a) b).symm⟩, ?_⟩
  · match r, hr with
    | 0, _ => exact ⟨0, 0, by omega, by omega, tt_ne e0 e1 _ _ (by decide +kernel)⟩
    | 1, _ => exact ⟨1, 3, by omega, by omega, tt_ne e1 e2 _ _ (by decide +kernel)⟩
    | 2, _ => exact ⟨0, 4, by omega, by omega, tt_ne e2 e3 _ _ (by decide +kernel)⟩
    | k + 3, h => exact absurd h (by omega)
  · rw [e3]
    decide +kernel
set_option maxRecDepth 100000 in
theorem rounds2 : Rounds ⟨#[97, 98, 97, 98]⟩ 4 3 (TT ⟨#[97, 98, 97, 98]⟩ 4) ∧ TT ⟨#[97, 98, 97, 98]⟩ 4 3 0 4 = 1 := by
  have e0 := tt_zero ⟨#[97, 98, 97, 98]⟩ 4
  have e1 : TT ⟨#[97, 98, 97, 98]⟩ 4 1 = tbl 4 [1, 0, 0, 0, 0, 0, 1, 0, 0, 0, 0, 0, 1, 0, 0, 0, 0, 0, 1, 0, 0, 0, 0, 0, 1] := tt_step e0 (by decide +kernel)
  have e2 : TT ⟨#[97, 98, 97, 98]⟩ 4 2 = tbl 4 [1, 0, 1, 0, 0, 0, 1, 0, 0, 0, 0, 0, 1, 0, 1, 0, 0, 0, 1, 0, 0, 0, 0, 0, 1] := tt_step e1 (by decide +kernel)
  have e3 : TT ⟨#[97, 98, 97, 98]⟩ 4 3 = tbl 4 [1, 0, 1, 0, 1, 0, 1, 0, 0, 0, 0, 0, 1, 0, 1, 0, 0, 0, 1, 0, 0, 0, 0, 0, 1] := tt_step e2 (by decide +kernel)
  have e4 : TT ⟨#[97, 98, 97, 98]⟩ 4 4 = tbl 4 [1, 0, 1, 0, 1, 0, 1, 0, 0, 0, 0, 0, 1, 0, 1, 0, 0, 0, 1, 0, 0, 0, 0, 0, 1] := tt_step e3 (by decide +kernel)
  refine ⟨⟨rfl, by omega, by omega, fun _ _ => rfl, fun _ _ _ => rfl, fun r hr => ?_, fun a b _ _ => (congrFun (congrFun e3 a) b).trans (congrFun (congrFun e4 a) b).symm⟩, ?_⟩
  · match r, hr with
    | 0, _ => exact ⟨0, 0, by omega, by omega, tt_ne e0 e1 _ _ (by decide +kernel)⟩
    | 1, _ => exact ⟨0, 2, by omega, by omega, tt_ne e1 e2 _ _ (by decide +kernel)⟩
    | 2, _ => exact ⟨0, 4, by omega, by omega, tt_ne e2 e3 _ _ (by decide +kernel)⟩
    | k + 3, h => exact absurd h (by omega)
  · rw [e3]
    decide +kernel
set_option maxRecDepth 100000 in
theorem rounds3 : Rounds ⟨#[97, 97, 97, 98, 98, 98]⟩ 6 4 (TT ⟨#[97, 97, 97, 98, 98, 98]⟩ 6) ∧ TT ⟨#[97, 97, 97, 98, 98, 98]⟩ 6 4 0 6 = 1 := by
  have e0 := tt_zero ⟨#[97, 97, 97, 98, 98, 98]⟩ 6
  have e1 : TT ⟨#[97, 97, 97, 98, 98, 98]⟩ 6 1 = tbl 6 [1, 0, 0, 0, 0, 0, 0, 0, 1, 0, 0, 0, 0, 0, 0, 0, 1, 0, 0, 0, 0, 0, 0, 0, 1, 0, 0, 0, 0, 0, 0, 0, 1, 0, 0, 0, 0, 0, 0, 0, 1, 0, 0, 0, 0, 0, 0, 0, 1] := tt_step e0 (by decide +kernel)
  have e2 : TT ⟨#[97, 97, 97, 98, 98, 98]⟩ 6 2 = tbl 6 [1, 0, 0, 0, 0, 0, 0, 0, 1, 0, 0, 0, 0, 0, 0, 0, 1, 0, 1, 0, 0, 0, 0, 0, 1, 0, 0, 0, 0, 0, 0, 0, 1, 0, 0, 0, 0, 0, 0, 0, 1, 0, 0, 0, 0, 0, 0, 0, 1] := tt_step e1 (by decide +kernel)
  have e3 : TT ⟨#[97, 97, 97, 98, 98, 98]⟩ 6 3 = tbl 6 [1, 0, 0, 0, 0, 0, 0, 0, 1, 0, 0, 0, 1, 0, 0, 0, 1, 0, 1, 0, 0, 0, 0, 0, 1, 0, 0, 0, 0, 0, 0, 0, 1, 0, 0, 0, 0, 0, 0, 0, 1, 0, 0, 0, 0, 0, 0, 0, 1] := tt_step e2 (by decide +kernel)
  have e4 : TT ⟨#[97, 97, 97, 98, 98, 98]⟩ 6 4 = tbl 6 [1, 0, 0, 0, 0, 0, 1, 0, 1, 0, 0, 0, 1, 0, 0, 0, 1, 0, 1, 0, 0, 0, 0, 0, 1, 0, 0, 0, 0, 0, 0, 0, 1, 0, 0, 0, 0, 0, 0, 0, 1, 0, 0, 0, 0, 0, 0, 0, 1] := tt_step e3 (by decide +kernel)
  have e5 : TT ⟨#[97, 97, 97, 98, 98, 98]⟩ 6 5 = tbl 6 [1, 0, 0, 0, 0, 0, 1, 0, 1, 0, 0, 0, 1, 0, 0, 0, 1, 0, 1, 0, 0, 0, 0, 0, 1, 0, 0, 0, 0, 0, 0, 0, 1, 0, 0, 0, 0, 0, 0, 0, 1, 0, 0, 0, 0, 0, 0, 0, 1] := tt_step e4 (by decide +kernel)
  refine ⟨⟨rfl, by omega, by omega, fun _ _ => rfl, fun _ _ _ => rfl, fun r hr => ?_, fun a b _ _ => (congrFun (congrFun e4 a) b).trans (congrFun (congrFun e5 a) b).symm⟩, ?_⟩
  · match r, hr with
    | 0, _ => exact ⟨0, 0, by omega, by omega, tt_ne e0 e1 _ _ (by decide +kernel)⟩
    | 1, _ => exact ⟨2, 4, by omega, by omega, tt_ne e1 e2 _ _ (by decide +kernel)⟩
    | 2, _ => exact ⟨1, 5, by omega, by omega, tt_ne e2 e3 _ _ (by decide +kernel)⟩
    | 3, _ => exact ⟨0, 6, by omega, by omega, tt_ne e3 e4 _ _ (by decide +kernel)⟩
    | k + 4, h => exact absurd h (by omega)
  · rw [e4]
    decide +kernel
set_option maxRecDepth 100000 in
theorem rounds4 : Rounds ⟨#[97, 97, 98, 97, 98, 98]⟩ 6 4 (TT ⟨#[97, 97, 98, 97, 98, 98]⟩ 6) ∧ TT ⟨#[97, 97, 98, 97, 98, 98]⟩ 6 4 0 6 = 1 := by
  have e0 := tt_zero ⟨#[97, 97, 98, 97, 98, 98]⟩ 6
  have e1 : TT ⟨#[97, 97, 98, 97, 98, 98]⟩ 6 1 = tbl 6 [1, 0, 0, 0, 0, 0, 0, 0, 1, 0, 0, 0, 0, 0, 0, 0, 1, 0, 0, 0, 0, 0, 0, 0, 1, 0, 0, 0, 0, 0, 0, 0, 1, 0, 0, 0, 0, 0, 0, 0, 1, 0, 0, 0, 0, 0, 0, 0, 1] := tt_step e0 (by decide +kernel)
  have e2 : TT ⟨#[97, 97, 98, 97, 98, 98]⟩ 6 2 = tbl 6 [1, 0, 0, 0, 0, 0, 0, 0, 1, 0, 1, 0, 0, 0, 0, 0, 1, 0, 0, 0, 0, 0, 0, 0, 1, 0, 1, 0, 0, 0, 0, 0, 1, 0, 0, 0, 0, 0, 0, 0, 1, 0, 0, 0, 0, 0, 0, 0, 1] := tt_step e1 (by decide +kernel)
  have e3 : TT ⟨#[97, 97, 98, 97, 98, 98]⟩ 6 3 = tbl 6 [1, 0, 0, 0, 0, 0, 0, 0, 1, 0, 1, 0, 1, 0, 0, 0, 1, 0, 0, 0, 0, 0, 0, 0, 1, 0, 1, 0, 0, 0, 0, 0, 1, 0, 0, 0, 0, 0, 0, 0, 1, 0, 0, 0, 0, 0, 0, 0, 1] := tt_step e2 (by decide +kernel)
  have e4 : TT ⟨#[97, 97, 98, 97, 98, 98]⟩ 6 4 = tbl 6 [1, 0, 0, 0, 0, 0, 1, 0, 1, 0, 1, 0, 1, 0, 0, 0, 1, 0, 0, 0, 0, 0, 0, 0, 1, 0, 1, 0, 0, 0, 0, 0, 1, 0, 0, 0, 0, 0, 0, 0, 1, 0, 0, 0, 0, 0, 0, 0, 1] := tt_step e3 (by decide +kernel)
  have e5 : TT ⟨#[97, 97, 98, 97, 98, 98]⟩ 6 5 = tbl 6 [1, 0, 0, 0, 0, 0, 1, 0, 1, 0, 1, 0, 1, 0, 0, 0, 1, 0, 0, 0, 0, 0, 0, 0, 1, 0, 1, 0, 0, 0, 0, 0, 1, 0, 0, 0, 0, 0, 0, 0, 1, 0, 0, 0, 0, 0, 0, 0, 1] := tt_step e4 (by decide +kernel)
  refine ⟨⟨rfl, by omega, by omega, fun _ _ => rfl, fun _ _ _ => rfl, fun r hr => ?_, fun a b _ _ => (congrFun (congrFun e4 a) b).trans (congrFun (congrFun e5 a) b).symm⟩, ?_⟩
  · match r, hr with
    | 0, _ => exact ⟨0, 0, by omega, by omega, tt_ne e0 e1 _ _ (by decide +kernel)⟩
    | 1, _ => exact ⟨1, 3, by omega, by omega, tt_ne e1 e2 _ _ (by decide +kernel)⟩
    | 2, _ => exact ⟨1, 5, by omega, by omega, tt_ne e2 e3 _ _ (by decide +kernel)⟩
    | 3, _ => exact ⟨0, 6, by omega, by omega, tt_ne e3 e4 _ _ (by decide +kernel)⟩
    | k + 4, h => exact absurd h (by omega)
  · rw [e4]
    decide +kernel
set_option maxRecDepth 100000 in
theorem rounds5 : Rounds ⟨#[97, 97, 98, 98, 97, 98]⟩ 6 3 (TT ⟨#[97, 97, 98, 98, 97, 98]⟩ 6) ∧ TT ⟨#[97, 97, 98, 98, 97, 98]⟩ 6 3 0 6 = 1 := by
  have e0 := tt_zero ⟨#[97, 97, 98, 98, 97, 98]⟩ 6
  have e1 : TT ⟨#[97, 97, 98, 98, 97, 98]⟩ 6 1 = tbl 6 [1, 0, 0, 0, 0, 0, 0, 0, 1, 0, 0, 0, 0, 0, 0, 0, 1, 0, 0, 0, 0, 0, 0, 0, 1, 0, 0, 0, 0, 0, 0, 0, 1, 0, 0, 0, 0, 0, 0, 0, 1, 0, 0, 0, 0, 0, 0, 0, 1] := tt_step e0 (by decide +kernel)
  have e2 : TT ⟨#[97, 97, 98, 98, 97, 98]⟩ 6 2 = tbl 6 [1, 0, 0, 0, 0, 0, 0, 0, 1, 0, 1, 0, 0, 0, 0, 0, 1, 0, 0, 0, 0, 0, 0, 0, 1, 0, 0, 0, 0, 0, 0, 0, 1, 0, 1, 0, 0, 0, 0, 0, 1, 0, 0, 0, 0, 0, 0, 0, 1] := tt_step e1 (by decide +kernel)
  have e3 : TT ⟨#[97, 97, 98, 98, 97, 98]⟩ 6 3 = tbl 6 [1, 0, 0, 0, 1, 0, 1, 0, 1, 0, 1, 0, 0, 0, 0, 0, 1, 0, 0, 0, 0, 0, 0, 0, 1, 0, 0, 0, 0, 0, 0, 0, 1, 0, 1, 0, 0, 0, 0, 0, 1, 0, 0, 0, 0, 0, 0, 0, 1] := tt_step e2 (by decide +kernel)
  have e4 : TT ⟨#[97, 97, 98, 98, 97, 98]⟩ 6 4 = tbl 6 [1, 0, 0, 0, 1, 0, 1, 0, 1, 0, 1, 0, 0, 0, 0, 0, 1, 0, 0, 0, 0, 0, 0, 0, 1, 0, 0, 0, 0, 0, 0, 0, 1, 0, 1, 0, 0, 0, 0, 0, 1, 0, 0, 0, 0, 0, 0, 0, 1] := tt_step e3 (by decide +kernel)
  refine ⟨⟨rfl, by omega, by omega, fun _ _ => rfl, fun _ _ _ => rfl, fun r hr => ?_, fun a b _ _ => (congrFun (congrFun e3 a) b).trans (congrFun (congrFun e4 a) b).symm⟩, ?_⟩
  · match r, hr with
    | 0, _ => exact ⟨0, 0, by omega, by omega, tt_ne e0 e1 _ _ (by decide +kernel)⟩
    | 1, _ => exact ⟨1, 3, by omega, by omega, tt_ne e1 e2 _ _ (by decide +kernel)⟩
    | 2, _ => exact ⟨0, 4, by omega, by omega, tt_ne e2 e3 _ _ (by decide +kernel)⟩
    | k + 3, h => exact absurd h (by omega)
  · rw [e3]
    decide +kernel
set_option maxRecDepth 100000 in
theorem rounds6 : Rounds ⟨#[97, 98, 97, 97, 98, 98]⟩ 6 4 (TT ⟨#[97, 98, 97, 97, 98, 98]⟩ 6) ∧ TT ⟨#[97, 98, 97, 97, 98, 98]⟩ 6 4 0 6 = 1 := by
  have e0 := tt_zero ⟨#[97, 98, 97, 97, 98, 98]⟩ 6
  have e1 : TT ⟨#[97, 98, 97, 97, 98, 98]⟩ 6 1 = tbl 6 [1, 0, 0, 0, 0, 0, 0, 0, 1, 0, 0, 0, 0, 0, 0, 0, 1, 0, 0, 0, 0, 0, 0, 0, 1, 0, 0, 0, 0, 0, 0, 0, 1, 0, 0, 0, 0, 0, 0, 0, 1, 0, 0, 0, 0, 0, 0, 0, 1] := tt_step e0 (by decide +kernel)
  have e2 : TT ⟨#[97, 98, 97, 97, 98, 98]⟩ 6 2 = tbl 6 [1, 0, 1, 0, 0, 0, 0, 0, 1, 0, 0, 0, 0, 0, 0, 0, 1, 0, 0, 0, 0, 0, 0, 0, 1, 0, 1, 0, 0, 0, 0, 0, 1, 0, 0, 0, 0, 0, 0, 0, 1, 0, 0, 0, 0, 0, 0, 0, 1] := tt_step e1 (by decide +kernel)
  have e3 : TT ⟨#[97, 98, 97, 97, 98, 98]⟩ 6 3 = tbl 6 [1, 0, 1, 0, 0, 0, 0, 0, 1, 0, 0, 0, 0, 0, 0, 0, 1, 0, 0, 0, 1, 0, 0, 0, 1, 0, 1, 0, 0, 0, 0, 0, 1, 0, 0, 0, 0, 0, 0, 0, 1, 0, 0, 0, 0, 0, 0, 0, 1] := tt_step e2 (by decide +kernel)
  have e4 : TT ⟨#[97, 98, 97, 97, 98, 98]⟩ 6 4 = tbl 6 [1, 0, 1, 0, 0, 0, 1, 0, 1, 0, 0, 0, 0, 0, 0, 0, 1, 0, 0, 0, 1, 0, 0, 0, 1, 0, 1, 0, 0, 0, 0, 0, 1, 0, 0, 0, 0, 0, 0, 0, 1, 0, 0, 0, 0, 0, 0, 0, 1] := tt_step e3 (by decide +kernel)
  have e5 : TT ⟨#[97, 98, 97, 97, 98, 98]⟩ 6 5 = tbl 6 [1, 0, 1, 0, 0, 0, 1, 0, 1, 0, 0, 0, 0, 0, 0, 0, 1, 0, 0, 0, 1, 0, 0, 0, 1, 0, 1, 0, 0, 0, 0, 0, 1, 0, 0, 0, 0, 0, 0, 0, 1, 0, 0, 0, 0, 0, 0, 0, 1] := tt_step e4 (by decide +kernel)
  refine ⟨⟨rfl, by omega, by omega, fun _ _ => rfl, fun _ _ _ => rfl, fun r hr => ?_, fun a b _ _ => (congrFun (congrFun e4 a) b).trans (congrFun (congrFun e5 a) b).symm⟩, ?_⟩
  · match r, hr with
    | 0, _ => exact ⟨0, 0, by omega, by omega, tt_ne e0 e1 _ _ (by decide +kernel)⟩
    | 1, _ => exact ⟨0, 2, by omega, by omega, tt_ne e1 e2 _ _ (by decide +kernel)⟩
    | 2, _ => exact ⟨2, 6, by omega, by omega, tt_ne e2 e3 _ _ (by decide +kernel)⟩
    | 3, _ => exact ⟨0, 6, by omega, by omega, tt_ne e3 e4 _ _ (by decide +kernel)⟩
    | k + 4, h => exact absurd h (by omega)
  · rw [e4]
    decide +kernel
set_option maxRecDepth 100000 in
theorem rounds7 : Rounds ⟨#[97, 98, 97, 98, 97, 98]⟩ 6 4 (TT ⟨#[97, 98, 97, 98, 97, 98]⟩ 6) ∧ TT ⟨#[97, 98, 97, 98, 97, 98]⟩ 6 4 0 6 = 1 := by
  have e0 := tt_zero ⟨#[97, 98, 97, 98, 97, 98]⟩ 6
  have e1 : TT ⟨#[97, 98, 97, 98, 97, 98]⟩ 6 1 = tbl 6 [1, 0, 0, 0, 0, 0, 0, 0, 1, 0, 0, 0, 0, 0, 0, 0, 1, 0, 0, 0, 0, 0, 0, 0, 1, 0, 0, 0, 0, 0, 0, 0, 1, 0, 0, 0, 0, 0, 0, 0, 1, 0, 0, 0, 0, 0, 0, 0, 1] := tt_step e0 (by decide +kernel)
  have e2 : TT ⟨#[97, 98, 97, 98, 97, 98]⟩ 6 2 = tbl 6 [1, 0, 1, 0, 0, 0, 0, 0, 1, 0, 0, 0, 0, 0, 0, 0, 1, 0, 1, 0, 0, 0, 0, 0, 1, 0, 0, 0, 0, 0, 0, 0, 1, 0, 1, 0, 0, 0, 0, 0, 1, 0, 0, 0, 0, 0, 0, 0, 1] := tt_step e1 (by decide +kernel)
  have e3 : TT ⟨#[97, 98, 97, 98, 97, 98]⟩ 6 3 = tbl 6 [1, 0, 1, 0, 1, 0, 0, 0, 1, 0, 0, 0, 0, 0, 0, 0, 1, 0, 1, 0, 1, 0, 0, 0, 1, 0, 0, 0, 0, 0, 0, 0, 1, 0, 1, 0, 0, 0, 0, 0, 1, 0, 0, 0, 0, 0, 0, 0, 1] := tt_step e2 (by decide +kernel)
  have e4 : TT ⟨#[97, 98, 97, 98, 97, 98]⟩ 6 4 = tbl 6 [1, 0, 1, 0, 1, 0, 1, 0, 1, 0, 0, 0, 0, 0, 0, 0, 1, 0, 1, 0, 1, 0, 0, 0, 1, 0, 0, 0, 0, 0, 0, 0, 1, 0, 1, 0, 0, 0, 0, 0, 1, 0, 0, 0, 0, 0, 0, 0, 1] := tt_step e3 (by decide +kernel)
  have e5 : TT ⟨#[97, 98, 97, 98, 97, 98]⟩ 6 5 = tbl 6 [1, 0, 1, 0, 1, 0, 1, 0, 1, 0, 0, 0, 0, 0, 0, 0, 1, 0, 1, 0, 1, 0, 0, 0, 1, 0, 0, 0, 0, 0, 0, 0, 1, 0, 1, 0, 0, 0, 0, 0, 1, 0, 0, 0, 0, 0, 0, 0, 1] := tt_step e4 (by decide +kernel)
  refine ⟨⟨rfl, by omega, by omega, fun _ _ => rfl, fun _ _ _ => rfl, fun r hr => ?_, fun a b _ _ => (congrFun (congrFun e4 a) b).trans (congrFun (congrFun e5 a) b).symm⟩, ?_⟩
  · match r, hr with
    | 0, _ => exact ⟨0, 0, by omega, by omega, tt_ne e0 e1 _ _ (by decide +kernel)⟩
    | 1, _ => exact ⟨0, 2, by omega, by omega, tt_ne e1 e2 _ _ (by decide +kernel)⟩
    | 2, _ => exact ⟨0, 4, by omega, by omega, tt_ne e2 e3 _ _ (by decide +kernel)⟩
    | 3, _ => exact ⟨0, 6, by omega, by omega, tt_ne e3 e4 _ _ (by decide +kernel)⟩
    | k + 4, h => exact absurd h (by omega)
  · rw [e4]
    decide +kernel
theorem trees8 {s : ByteArray} (h : nest.contains s.data.toList = true) : ∃ n m T, Rounds s n m T ∧ T m 0 n = 1 := by
  obtain ⟨⟨l⟩⟩ := s
  have h1 : l ∈ nest := by simpa using h
  unfold nest at h1
  simp only [List.mem_cons, List.not_mem_nil, or_false] at h1
  rcases h1 with rfl | rfl | rfl | rfl | rfl | rfl | rfl | rfl
  · exact ⟨_, _, _, rounds0⟩
  · exact ⟨_, _, _, rounds1⟩
  · exact ⟨_, _, _, rounds2⟩
  · exact ⟨_, _, _, rounds3⟩
  · exact ⟨_, _, _, rounds4⟩
  · exact ⟨_, _, _, rounds5⟩
  · exact ⟨_, _, _, rounds6⟩
  · exact ⟨_, _, _, rounds7⟩
theorem tables_grammar_trees.calls (A0 : Option Addr) (c0 : Nat) (l0 : List S32) (a1 : ByteArray) (a2 : Int) (r : Int) (w : World) (hr0 : Kd.C k32 w A0 l0.length l0) (hc0 : l0.length ≤ c0) (h : tables_grammar_trees.f l0 a1 a2 = some r) :
    Calls Tryd.prog 17 #[.slice A0 l0.length c0, .string a1, .int .i64 a2] w fun e w' => e = .returned (.int .i64 r) ∧ Below w.heap.size w w' := by
  unfold tables_grammar_trees.f at h
  split at h
  · rename_i hc
    simp only [Bool.and_eq_true, beq_iff_eq] at hc
    obtain ⟨h1, h2, rfl⟩ := hc
    obtain rfl := isR_eq h1
    cases h
    obtain ⟨n, m, T, hT, h3⟩ := trees8 h2
    rw [← h3]
    exact treesW.calls A0 c0 a1 n m T hT w hr0
  · cases h
end Go.Proofs.YtmlbdkkdejecmaaDoor.X
