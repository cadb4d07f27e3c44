/- Plain laws of turned plans: a turned plan is valid; turned twice it does what it does. -/
import Derived.Test.YtdppnmfljfdhaaaMRun
set_option linter.unusedVariables false
set_option linter.unusedSimpArgs false
namespace Go.Proofs.Ytdppnmfljfdhaaa.Pure
open Go.RowKit Go.Proofs.Ytdppnmfljfdhaaa.X Go.Proofs.YtdppnmfljfdhaaaW.PrintWords Go.Proofs.YtdppnmfljfdhaaaW.PrintLast Go.Proofs.YtdppnmfljfdhaaaW.PrintMore

theorem rd_rangeMap (n i : Nat) (g : Nat → Int) (h : i < n) : rd ((List.range n).map g) (i : Int) = g i := by
  unfold rd
  simp [h]
def tuT (l0 l1 : List Int) : List Int := (List.range l0.length).map (turnT l1)
def tuL (l0 : List Int) : List Int := (List.range l0.length).map (turnL l0)
section
variable {l0 l1 : List Int}
theorem tuT_length : (tuT l0 l1).length = l0.length := by simp [tuT]
theorem tuL_length : (tuL l0).length = l0.length := by simp [tuL]
theorem tuT_rd (i : Nat) (h : i < l0.length) : rd (tuT l0 l1) (i : Int) = turnT l1 i := rd_rangeMap _ _ _ h
theorem tuL_rd (i : Nat) (h : i < l0.length) : rd (tuL l0) (i : Int) = turnL l0 i := rd_rangeMap _ _ _ h
theorem Ok_turn (h : Ok l0 l1) : Ok (tuT l0 l1) (tuL l0) where
  pos := by rw [tuT_length]; exact h.pos
  most := by rw [tuT_length]; exact h.most
  same := by rw [tuT_length, tuL_length]
  at_ := by
    intro j hj
    rw [tuT_length] at hj ⊢
    rw [tuT_rd j hj, tuL_rd j hj]
    have ha := h.at_ j hj
    unfold turnT turnL mx mn
    repeat' split
    all_goals omega
  last := by
    have hp := h.pos
    have hl := h.last
    have hj : l0.length - 1 < l0.length := by omega
    have ha := h.at_ (l0.length - 1) hj
    rw [tuT_length, show ((l0.length : Int) - 1) = ((l0.length - 1 : Nat) : Int) by omega, tuT_rd _ hj, tuL_rd _ hj]
    rw [show ((l0.length : Int) - 1) = ((l0.length - 1 : Nat) : Int) by omega] at hl
    unfold turnT turnL mx mn
    repeat' split
    all_goals omega
theorem run_twice (h : Ok l0 l1) : ∀ (it : List Bool) (i : Nat) (b : Int), i + it.length = l0.length → 0 ≤ b → b ≤ i →
    run (tuT (tuT l0 l1) (tuL l0)) (tuL (tuT l0 l1)) it i b = run l0 l1 it i b
  | [], _, _, _, _, _ => rfl
  | x :: xs, i, b, hl, hb, hbi => by
    simp only [List.length_cons] at hl
    have hi : i < l0.length := by omega
    have hi' : i < (tuT l0 l1).length := by rw [tuT_length]; exact hi
    have ha := h.at_ i hi
    have hmr : 0 ≤ more x b ∧ more x b ≤ (i : Int) + 1 := by unfold more; split <;> omega
    have e0 : rd (tuT (tuT l0 l1) (tuL l0)) (i : Int) = mx ((i : Int) + 1 - turnL l0 i) (-1) := by rw [tuT_rd i hi']; unfold turnT; rw [tuL_rd i hi]
    have e1 : rd (tuL (tuT l0 l1)) (i : Int) = mn (mx ((i : Int) + 1 - turnT l1 i) 0) ((l0.length : Int) + 1) := by rw [tuL_rd i hi']; unfold turnL; rw [tuT_rd i hi, tuT_length]
    have c0 : (more x b ≤ mx ((i : Int) + 1 - turnL l0 i) (-1)) ↔ (more x b ≤ rd l0 i) := by
      unfold turnL mx mn
      repeat' split
      all_goals omega
    have c1 : (more x b ≥ mn (mx ((i : Int) + 1 - turnT l1 i) 0) ((l0.length : Int) + 1)) ↔ (more x b ≥ rd l1 i) := by
      unfold turnT mx mn
      repeat' split
      all_goals omega
    unfold run
    rw [e0, e1]
    simp only [c0, c1]
    split
    · rfl
    · split
      · rfl
      · exact run_twice h xs (i + 1) (more x b) (by omega) hmr.1 (by omega)
end
theorem Ev.both {α β : Type} {g : Nat → Option α} {f : Nat → Option β} {v : α} {u : β} (h : Ev g v) (h' : Ev f u) : ∃ k0, ∀ k, k0 ≤ k → g k = some v ∧ f k = some u := by
  obtain ⟨a, ha⟩ := h
  obtain ⟨b, hb⟩ := h'
  exact ⟨max a b, fun k hk => ⟨ha k (by omega), hb k (by omega)⟩⟩
end Go.Proofs.Ytdppnmfljfdhaaa.Pure
