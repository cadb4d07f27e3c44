/- Plain laws of turned plans: with good and bad exchanged the turned plan is taken just where the plan is left. -/
import Derived.Test.YtdppnmfljfdhaaaMTurn
import Derived.Test.YtdppnmfljfdhaaaMChance
set_option linter.unusedVariables false
set_option linter.unusedSimpArgs false
namespace Go.Proofs.Ytdppnmfljfdhaaa.Pure
open Go.RowKit Go.Proofs.Ytdppnmfljfdhaaa.X Go.Proofs.YtdppnmfljfdhaaaW.PrintWords Go.Proofs.YtdppnmfljfdhaaaW.PrintLast Go.Proofs.YtdppnmfljfdhaaaW.PrintMore

/-- What is done, exchanged. -/
def swp (a : Int) : Int := if a = 1 then 2 else if a = 2 then 1 else 0
theorem sI_rev (f : Nat → Int) : ∀ m : Nat, sI (fun b => f (m - b)) (m + 1) = sI f (m + 1)
  | 0 => rfl
  | m + 1 => by
    rw [sI_head, sI_congr (g := fun b => f (m - b)) (m + 1) (fun k _ => by congr 1; omega), sI_rev f m]
    simp only [sI, Nat.sub_zero]
    omega
section
variable {l0 l1 : List Int} {y o : Int}
theorem aft_turn (h : Ok l0 l1) (k : Nat) (hk : k < l0.length) (b : Nat) (hb : b ≤ k + 1) : aft (tuT l0 l1) (tuL l0) ((k : Int) + 1) b = swp (aft l0 l1 ((k : Int) + 1) ((k + 1 - b : Nat) : Int)) := by
  have ha := h.at_ k hk
  unfold aft swp
  rw [show (k : Int) + 1 - 1 = k by omega, tuT_rd k hk, tuL_rd k hk]
  unfold turnT turnL mx mn
  repeat' split
  all_goals omega
theorem nxm_turn (M M' : Nat → Int) (k : Nat) (hM : M (k + 1) = 0) (hM' : M' (k + 1) = 0) (h : ∀ b : Nat, b ≤ k → M' b = M (k - b)) (b : Nat) (hb : b ≤ k + 1) : nxm (o - y) o M' b = nxm y o M (k + 1 - b) := by
  cases b with
  | zero =>
    rw [show k + 1 - 0 = k + 1 by omega, nxm_succ, hM, show nxm (o - y) o M' 0 = M' 0 * (o - (o - y)) from rfl, h 0 (by omega), Nat.sub_zero]
    grind
  | succ c =>
    rw [nxm_succ, h c (by omega), show k + 1 - (c + 1) = k - c by omega]
    by_cases hc : c = k
    · subst hc
      rw [hM', Nat.sub_self, show nxm y o M 0 = M 0 * (o - y) from rfl]
      grind
    · rw [h (c + 1) (by omega), show k - c = (k - (c + 1)) + 1 by omega, nxm_succ]
      grind
theorem mm_turn (h : Ok l0 l1) : ∀ k : Nat, k ≤ l0.length → ∀ b : Nat, b ≤ k → mm (tuT l0 l1) (tuL l0) (o - y) o k b = mm l0 l1 y o k (k - b) := by
  intro k
  induction k with
  | zero =>
    intro _ b hb
    obtain rfl : b = 0 := by omega
    rfl
  | succ k ih =>
    intro hk b hb
    have hn := nxm_turn (y := y) (o := o) (mm l0 l1 y o k) (mm (tuT l0 l1) (tuL l0) (o - y) o k) k (mm_out _ _ _ _ k (k + 1) (by omega)) (mm_out _ _ _ _ k (k + 1) (by omega)) (ih (by omega)) b hb
    have ha := aft_turn h k (by omega) b hb
    unfold mm
    rw [ha, hn]
    have hs : swp (aft l0 l1 ((k : Int) + 1) ((k + 1 - b : Nat) : Int)) ≠ 0 ↔ aft l0 l1 ((k : Int) + 1) ((k + 1 - b : Nat) : Int) ≠ 0 := by
      unfold swp aft
      repeat' split
      all_goals simp_all
    by_cases hz : aft l0 l1 ((k : Int) + 1) ((k + 1 - b : Nat) : Int) ≠ 0
    · rw [if_pos (hs.2 hz), if_pos hz]
    · rw [if_neg (fun hh => hz (hs.1 hh)), if_neg hz]
theorem all_ends (h : Ok l0 l1) : sI (fun k => ended l0 l1 y o k * o ^ (l0.length - k - 1)) l0.length = o ^ l0.length := by
  have h1 : sI (fun k => ended l0 l1 y o k * o ^ (l0.length - k - 1)) l0.length = sI (fun k => gg l0 l1 y o l0.length k - gg l0 l1 y o l0.length (k + 1)) l0.length :=
    sI_congr _ (fun k hk => by rw [gg_step _ _ _ _ _ _ hk])
  rw [h1, sI_tele, gg_zero, gg_last h]
  omega
theorem sTaken_turn (h : Ok l0 l1) : sTaken (tuT l0 l1) (tuL l0) (o - y) o = o ^ l0.length - sTaken l0 l1 y o := by
  rw [← all_ends (y := y) (o := o) h]
  unfold sTaken
  rw [← sI_sub, tuT_length]
  refine sI_congr _ (fun k hk => ?_)
  unfold ended
  rw [← Int.sub_mul, ← sI_sub]
  congr 1
  rw [← sI_rev (fun b => (if aft l0 l1 ((k : Int) + 1) b ≠ 0 then nxm y o (mm l0 l1 y o k) b else 0) - (if aft l0 l1 ((k : Int) + 1) b = 1 then nxm y o (mm l0 l1 y o k) b else 0)) (k + 1)]
  refine sI_congr _ (fun b hb => ?_)
  rw [aft_turn h k hk b (by omega), nxm_turn (y := y) (o := o) (mm l0 l1 y o k) (mm (tuT l0 l1) (tuL l0) (o - y) o k) k (mm_out _ _ _ _ k (k + 1) (by omega)) (mm_out _ _ _ _ k (k + 1) (by omega)) (mm_turn h k (by omega)) b (by omega)]
  generalize nxm y o (mm l0 l1 y o k) (k + 1 - b) = v
  unfold swp aft
  repeat' split
  all_goals simp_all
/-- The run of the turned plan over the exchanged items. -/
theorem run_turn (h : Ok l0 l1) : ∀ (it : List Bool) (i : Nat) (b : Int), i + it.length = l0.length → it ≠ [] → 0 ≤ b → b ≤ i →
    run (tuT l0 l1) (tuL l0) (it.map (fun x => !x)) i ((i : Int) - b) = ((run l0 l1 it i b).1, !(run l0 l1 it i b).2)
  | [], _, _, _, hne, _, _ => absurd rfl hne
  | x :: xs, i, b, hl, _, hb, hbi => by
    simp only [List.length_cons] at hl
    have hi : i < l0.length := by omega
    have ha := h.at_ i hi
    have hmr : 0 ≤ more x b ∧ more x b ≤ (i : Int) + 1 := by unfold more; split <;> omega
    have hm : more (!x) ((i : Int) - b) = (i : Int) + 1 - more x b := by unfold more; cases x <;> simp <;> omega
    simp only [List.map_cons]
    unfold run
    rw [tuT_rd i hi, tuL_rd i hi, hm]
    have c0 : ((i : Int) + 1 - more x b ≤ turnT l1 i) ↔ (more x b ≥ rd l1 i) := by unfold turnT mx; split <;> omega
    have c1 : ((i : Int) + 1 - more x b ≥ turnL l0 i) ↔ (more x b ≤ rd l0 i) := by
      unfold turnL mx mn
      repeat' split
      all_goals omega
    simp only [c0, c1]
    by_cases h1 : more x b ≤ rd l0 i
    · rw [if_neg (by omega), if_pos h1, if_pos h1]; rfl
    · by_cases h2 : more x b ≥ rd l1 i
      · rw [if_pos h2, if_neg h1, if_pos h2]; rfl
      · rw [if_neg h2, if_neg h1, if_neg h1, if_neg h2]
        have hxs : xs ≠ [] := by
          intro e
          rw [e] at hl
          simp at hl
          have hlast := h.last
          rw [show (l0.length : Int) - 1 = (i : Int) by omega] at hlast
          omega
        have := run_turn h xs (i + 1) (more x b) (by omega) hxs hmr.1 (by omega)
        rw [show ((i + 1 : Nat) : Int) - more x b = (i : Int) + 1 - more x b by omega] at this
        exact this
end
/-- Two chances that sum to one, in lowest terms. -/
theorem fr_turn (a b : Int) (hb : 0 < b) (h0 : 0 ≤ a) (h1 : a ≤ b) : (fr (Rat.divInt (b - a) b)).2 = (fr (Rat.divInt a b)).2 ∧ (fr (Rat.divInt a b)).1 + (fr (Rat.divInt (b - a) b)).1 = (fr (Rat.divInt a b)).2 ∧
    1 ≤ (fr (Rat.divInt a b)).2 ∧ (fr (Rat.divInt a b)).2 ≤ b ∧ 0 ≤ (fr (Rat.divInt a b)).1 ∧ (fr (Rat.divInt a b)).1 ≤ (fr (Rat.divInt a b)).2 := by
  have hg : Int.gcd (b - a) b = Int.gcd a b := by
    rw [Int.gcd_self_sub_left]
  rw [fr_divInt _ _ hb, fr_divInt _ _ hb, hg]
  obtain ⟨p, hp⟩ : ((Int.gcd a b : Int)) ∣ a := Int.gcd_dvd_left ..
  obtain ⟨q, hq⟩ : ((Int.gcd a b : Int)) ∣ b := Int.gcd_dvd_right ..
  have hpos : (0 : Int) < (Int.gcd a b : Int) := by
    have := gcd_ne a b hb
    omega
  generalize (Int.gcd a b : Int) = g at *
  subst hp hq
  have e1 : Int.tdiv (g * p) g = p := Int.mul_tdiv_cancel_left _ (by omega)
  have e2 : Int.tdiv (g * q) g = q := Int.mul_tdiv_cancel_left _ (by omega)
  have e3 : Int.tdiv (g * q - g * p) g = q - p := by rw [← Int.mul_sub]; exact Int.mul_tdiv_cancel_left _ (by omega)
  rw [e1, e2, e3]
  have hq0 : 0 < q := Int.pos_of_mul_pos_right hb hpos
  have hp0 : 0 ≤ p := Int.nonneg_of_mul_nonneg_right h0 hpos
  have hpq : p ≤ q := Int.le_of_mul_le_mul_left h1 hpos
  have hgq : q ≤ g * q := by
    have := Int.mul_le_mul_of_nonneg_right (show 1 ≤ g by omega) (show 0 ≤ q by omega)
    omega
  dsimp only
  refine ⟨rfl, by omega, by omega, hgq, hp0, hpq⟩
end Go.Proofs.Ytdppnmfljfdhaaa.Pure
