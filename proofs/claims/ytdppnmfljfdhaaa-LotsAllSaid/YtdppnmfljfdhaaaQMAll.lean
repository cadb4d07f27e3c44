/- Plain laws: Taken's and Looks' sums are the averages of Run over all items. -/
import Derived.Test.YtdppnmfljfdhaaaQMChance
import Derived.Test.YtdppnmfljfdhaaaQMRun
set_option linter.unusedVariables false
set_option linter.unusedSimpArgs false
namespace Go.Proofs.Ytdppnmfljfdhaaa.Pure
open Go.RowKit Go.Proofs.Ytdppnmfljfdhaaa.X Go.Proofs.YtdppnmfljfdhaaaW.PrintWords Go.Proofs.YtdppnmfljfdhaaaW.PrintLast Go.Proofs.YtdppnmfljfdhaaaW.PrintMore

/-- What an end gives from a place on, of o to the power of d, where going on has the value u. -/
def wvR (R : Nat → Int → Int) (l0 l1 : List Int) (o : Int) (d k : Nat) (b u : Int) : Int := if aft l0 l1 (k : Int) b ≠ 0 then R k (aft l0 l1 (k : Int) b) * o ^ d else u
/-- What the ends give after k items, b of them bad, where it goes on, d items still to come. -/
def uvR (R : Nat → Int → Int) (l0 l1 : List Int) (y o : Int) : Nat → Nat → Int → Int
  | 0, _, _ => 0
  | d + 1, k, b => (o - y) * wvR R l0 l1 o d (k + 1) b (uvR R l0 l1 y o d (k + 1) b) + y * wvR R l0 l1 o d (k + 1) (b + 1) (uvR R l0 l1 y o d (k + 1) (b + 1))
section
variable {R : Nat → Int → Int} {l0 l1 : List Int} {y o : Int}
theorem sI_shift3 (M f : Nat → Int) (m : Nat) : sI (fun b => M b * ((o - y) * f b + y * f (b + 1))) m + M m * (o - y) * f m = sI (fun b => nxm y o M b * f b) (m + 1) := by
  induction m with
  | zero => simp [sI, nxm]
  | succ m ih =>
    rw [sI, sI, ← ih, nxm_succ]
    generalize sI (fun b => M b * ((o - y) * f b + y * f (b + 1))) m = s
    generalize M m = a
    generalize M (m + 1) = c
    generalize f m = x
    generalize f (m + 1) = z
    grind
/-- What the ends at item k + 1 give. -/
def tkR (R : Nat → Int → Int) (l0 l1 : List Int) (y o : Int) (n k : Nat) : Int := sI (fun b => if aft l0 l1 ((k : Int) + 1) b ≠ 0 then nxm y o (mm l0 l1 y o k) b * R (k + 1) (aft l0 l1 ((k : Int) + 1) b) else 0) (k + 2) * o ^ (n - k - 1)
def potR (R : Nat → Int → Int) (l0 l1 : List Int) (y o : Int) (n k : Nat) : Int := sI (fun b => mm l0 l1 y o k b * uvR R l0 l1 y o (n - k) k b) (k + 1) + sI (tkR R l0 l1 y o n) k
theorem potR_step (n k : Nat) (hk : k < n) : potR R l0 l1 y o n k = potR R l0 l1 y o n (k + 1) := by
  have hd : n - k = (n - (k + 1)) + 1 := by omega
  have hd' : n - k - 1 = n - (k + 1) := by omega
  have hs : sI (tkR R l0 l1 y o n) (k + 1) = sI (tkR R l0 l1 y o n) k + tkR R l0 l1 y o n k := rfl
  unfold potR
  rw [hs, show tkR R l0 l1 y o n k = sI (fun b => if aft l0 l1 ((k : Int) + 1) b ≠ 0 then nxm y o (mm l0 l1 y o k) b * R (k + 1) (aft l0 l1 ((k : Int) + 1) b) else 0) (k + 2) * o ^ (n - k - 1) from rfl, hd']
  have h2 := sI_shift3 (y := y) (o := o) (mm l0 l1 y o k) (fun b : Nat => wvR R l0 l1 o (n - (k + 1)) (k + 1) b (uvR R l0 l1 y o (n - (k + 1)) (k + 1) b)) (k + 1)
  rw [mm_out _ _ _ _ k (k + 1) (by omega), Int.zero_mul, Int.zero_mul, Int.add_zero] at h2
  have h1 : sI (fun b => mm l0 l1 y o k b * uvR R l0 l1 y o (n - k) k b) (k + 1) = sI (fun b => mm l0 l1 y o k b * ((o - y) * wvR R l0 l1 o (n - (k + 1)) (k + 1) (b : Nat) (uvR R l0 l1 y o (n - (k + 1)) (k + 1) (b : Nat)) + y * wvR R l0 l1 o (n - (k + 1)) (k + 1) ((b + 1 : Nat) : Int) (uvR R l0 l1 y o (n - (k + 1)) (k + 1) ((b + 1 : Nat) : Int)))) (k + 1) := by
    refine sI_congr _ (fun b _ => ?_)
    rw [hd]
    rfl
  rw [h1, h2, ← sI_mul]
  have h3 : sI (fun b => nxm y o (mm l0 l1 y o k) b * wvR R l0 l1 o (n - (k + 1)) (k + 1) (b : Nat) (uvR R l0 l1 y o (n - (k + 1)) (k + 1) (b : Nat))) (k + 1 + 1) = sI (fun b => mm l0 l1 y o (k + 1) b * uvR R l0 l1 y o (n - (k + 1)) (k + 1) b + (if aft l0 l1 ((k : Int) + 1) b ≠ 0 then nxm y o (mm l0 l1 y o k) b * R (k + 1) (aft l0 l1 ((k : Int) + 1) b) else 0) * o ^ (n - (k + 1))) (k + 1 + 1) := by
    refine sI_congr _ (fun b _ => ?_)
    have em : mm l0 l1 y o (k + 1) b = if aft l0 l1 ((k : Int) + 1) b ≠ 0 then 0 else nxm y o (mm l0 l1 y o k) b := rfl
    rw [em]
    unfold wvR
    rw [show ((k + 1 : Nat) : Int) = (k : Int) + 1 from rfl]
    by_cases h : aft l0 l1 ((k : Int) + 1) b ≠ 0
    · simp only [if_pos h, Int.zero_mul, Int.zero_add]
      rw [Int.mul_assoc]
    · simp only [if_neg h, Int.zero_mul, Int.add_zero]
  rw [show k + 2 = k + 1 + 1 from rfl, h3, sI_add]
  generalize sI (fun b => (if aft l0 l1 ((k : Int) + 1) b ≠ 0 then nxm y o (mm l0 l1 y o k) b * R (k + 1) (aft l0 l1 ((k : Int) + 1) b) else 0) * o ^ (n - (k + 1))) (k + 1 + 1) = q
  omega
theorem sum_uvR (n : Nat) : sI (tkR R l0 l1 y o n) n = uvR R l0 l1 y o n 0 0 := by
  have hp : ∀ k : Nat, k ≤ n → potR R l0 l1 y o n 0 = potR R l0 l1 y o n k := by
    intro k
    induction k with
    | zero => intro _; rfl
    | succ k ih => intro hk; rw [ih (by omega), potR_step _ _ (by omega)]
  have h0 : potR R l0 l1 y o n 0 = uvR R l0 l1 y o n 0 0 := by
    unfold potR
    simp [sI, mm]
  have hn : potR R l0 l1 y o n n = sI (tkR R l0 l1 y o n) n := by
    unfold potR
    rw [sI_zero, Int.zero_add]
    intro b _
    rw [Nat.sub_self]
    simp [uvR]
  rw [← h0, ← hn, hp _ (Nat.le_refl _)]
/-! ### All items -/
/-- The items of a set. -/
def bl (d s : Nat) : List Bool := (List.range d).map fun j => s.testBit j
/-- How often they come. -/
def wt (y o : Int) : List Bool → Int
  | [] => 1
  | x :: r => (if x = true then y else o - y) * wt y o r
theorem bl_zero (s : Nat) : bl 0 s = [] := rfl
theorem bl_even (d s : Nat) : bl (d + 1) (2 * s) = false :: bl d s := by
  unfold bl
  rw [List.range_succ_eq_map, List.map_cons, List.map_map]
  congr 1
  · simp [Nat.testBit_zero]
  · refine List.map_congr_left (fun j _ => ?_)
    simp [Nat.testBit_succ]
theorem bl_odd (d s : Nat) : bl (d + 1) (2 * s + 1) = true :: bl d s := by
  unfold bl
  rw [List.range_succ_eq_map, List.map_cons, List.map_map]
  congr 1
  · simp [Nat.testBit_zero]
  · refine List.map_congr_left (fun j _ => ?_)
    simp [Nat.testBit_succ]
    try (congr 1; omega)
theorem sI_two (f : Nat → Int) : ∀ m : Nat, sI f (2 * m) = sI (fun s => f (2 * s) + f (2 * s + 1)) m
  | 0 => rfl
  | m + 1 => by
    rw [show 2 * (m + 1) = 2 * m + 1 + 1 by omega, sI, sI, sI, sI_two f m]
    omega
/-- The sum over all items. -/
def sB (d : Nat) (f : List Bool → Int) : Int := sI (fun s => f (bl d s)) (2 ^ d)
theorem sB_succ (d : Nat) (f : List Bool → Int) : sB (d + 1) f = sB d (fun r => f (false :: r)) + sB d (fun r => f (true :: r)) := by
  unfold sB
  rw [Nat.pow_succ, Nat.mul_comm, sI_two, ← sI_add]
  refine sI_congr _ (fun s _ => ?_)
  rw [bl_even, bl_odd]
theorem sB_congr (d : Nat) {f g : List Bool → Int} (h : ∀ r : List Bool, r.length = d → f r = g r) : sB d f = sB d g := by
  unfold sB
  exact sI_congr _ (fun s _ => h _ (by simp [bl]))
theorem sB_mul (d : Nat) (f : List Bool → Int) (c : Int) : sB d (fun r => c * f r) = c * sB d f := by
  unfold sB
  have := sI_mul (fun s => f (bl d s)) c (2 ^ d)
  rw [Int.mul_comm c, ← this]
  exact sI_congr _ (fun s _ => Int.mul_comm ..)
theorem sB_wt (y o : Int) : ∀ d : Nat, sB d (wt y o) = o ^ d
  | 0 => by simp [sB, sI, wt, bl]
  | d + 1 => by
    rw [sB_succ]
    have e1 : sB d (fun r => wt y o (false :: r)) = (o - y) * o ^ d := by
      rw [← sB_wt y o d, ← sB_mul]
      exact sB_congr d (fun r _ => by simp [wt])
    have e2 : sB d (fun r => wt y o (true :: r)) = y * o ^ d := by
      rw [← sB_wt y o d, ← sB_mul]
      exact sB_congr d (fun r _ => by simp [wt])
    rw [e1, e2, Int.pow_succ]
    generalize o ^ d = q
    grind
/-- What a run gives. -/
def giv (R : Nat → Int → Int) (p : Int × Bool) : Int := R p.1.toNat (if p.2 = true then 1 else 2)
theorem run_sum (h : Ok l0 l1) : ∀ (d i : Nat) (b : Int), i + (d + 1) = l0.length → sB (d + 1) (fun r => wt y o r * giv R (run l0 l1 r i b)) = uvR R l0 l1 y o (d + 1) i b := by
  intro d
  induction d with
  | zero =>
    intro i b hi
    have hl := h.last
    rw [show (l0.length : Int) - 1 = (i : Int) by omega] at hl
    have key : ∀ (x : Bool), giv R (run l0 l1 [x] i b) = wvR R l0 l1 o 0 (i + 1) (more x b) 0 := by
      intro x
      unfold run wvR giv aft
      rw [show ((i + 1 : Nat) : Int) - 1 = (i : Int) by omega]
      by_cases h1 : more x b ≤ rd l0 i
      · simp only [if_pos h1]
        simp
        try rw [show ((i : Int) + 1).toNat = i + 1 by omega]
      · have h2 : more x b ≥ rd l1 i := by omega
        simp only [if_neg h1, if_pos h2]
        simp
        try rw [show ((i : Int) + 1).toNat = i + 1 by omega]
    rw [sB_succ]
    simp only [sB, sI, bl_zero, Nat.pow_zero, key, wt]
    simp only [uvR]
    unfold more
    simp
  | succ d ih =>
    intro i b hi
    have key : ∀ x : Bool, sB (d + 1) (fun r => wt y o (x :: r) * giv R (run l0 l1 (x :: r) i b)) = (if x = true then y else o - y) * wvR R l0 l1 o (d + 1) (i + 1) (more x b) (uvR R l0 l1 y o (d + 1) (i + 1) (more x b)) := by
      intro x
      have e1 : sB (d + 1) (fun r => wt y o (x :: r) * giv R (run l0 l1 (x :: r) i b)) = (if x = true then y else o - y) * sB (d + 1) (fun r => wt y o r * giv R (run l0 l1 (x :: r) i b)) := by
        rw [← sB_mul]
        refine sB_congr _ (fun r _ => ?_)
        rw [wt, Int.mul_assoc]
      rw [e1]
      congr 1
      unfold wvR aft
      rw [show ((i + 1 : Nat) : Int) - 1 = (i : Int) by omega]
      by_cases h1 : more x b ≤ rd l0 i
      · simp only [if_pos h1]
        have e2 : sB (d + 1) (fun r => wt y o r * giv R (run l0 l1 (x :: r) i b)) = R (i + 1) 1 * sB (d + 1) (wt y o) := by
          rw [← sB_mul]
          refine sB_congr _ (fun r _ => ?_)
          rw [run, if_pos h1, giv]
          simp only [if_true]
          rw [show ((i : Int) + 1).toNat = i + 1 by omega, Int.mul_comm]
        rw [e2, sB_wt]
        simp
      · by_cases h2 : more x b ≥ rd l1 i
        · simp only [if_neg h1, if_pos h2]
          have e2 : sB (d + 1) (fun r => wt y o r * giv R (run l0 l1 (x :: r) i b)) = R (i + 1) 2 * sB (d + 1) (wt y o) := by
            rw [← sB_mul]
            refine sB_congr _ (fun r _ => ?_)
            rw [run, if_neg h1, if_pos h2, giv]
            simp only [Bool.false_eq_true, if_false]
            rw [show ((i : Int) + 1).toNat = i + 1 by omega, Int.mul_comm]
          rw [e2, sB_wt]
          simp
        · simp only [if_neg h1, if_neg h2]
          rw [← ih (i + 1) (more x b) (by omega)]
          simp only [ne_eq, not_true_eq_false, if_false]
          refine sB_congr _ (fun r _ => ?_)
          rw [run, if_neg h1, if_neg h2]
    rw [sB_succ, key, key]
    rw [show uvR R l0 l1 y o (d + 1 + 1) i b = (o - y) * wvR R l0 l1 o (d + 1) (i + 1) b (uvR R l0 l1 y o (d + 1) (i + 1) b) + y * wvR R l0 l1 o (d + 1) (i + 1) (b + 1) (uvR R l0 l1 y o (d + 1) (i + 1) (b + 1)) from rfl]
    unfold more
    simp
theorem run_all (h : Ok l0 l1) : sB l0.length (fun r => wt y o r * giv R (run l0 l1 r 0 0)) = sI (tkR R l0 l1 y o l0.length) l0.length := by
  obtain ⟨d, hd⟩ : ∃ d, l0.length = d + 1 := ⟨l0.length - 1, by have := h.pos; omega⟩
  rw [sum_uvR, hd]
  exact run_sum h d 0 0 (by omega)
theorem taken_all (h : Ok l0 l1) : sB l0.length (fun r => if (run l0 l1 r 0 0).2 = true then wt y o r else 0) = sTaken l0 l1 y o := by
  have e : sTaken l0 l1 y o = sI (tkR (fun _ a => if a = 1 then 1 else 0) l0 l1 y o l0.length) l0.length := by
    unfold sTaken
    refine sI_congr _ (fun k _ => ?_)
    unfold tkR
    congr 1
    refine sI_congr _ (fun b _ => ?_)
    by_cases h1 : aft l0 l1 ((k : Int) + 1) b = 1
    · rw [h1]; simp
    · simp only [if_neg h1]
      split <;> simp
  rw [e, ← run_all h]
  refine sB_congr _ (fun r _ => ?_)
  unfold giv
  cases (run l0 l1 r 0 0).2 <;> simp
theorem run_range : ∀ (r : List Bool) (i : Nat) (b : Int), r ≠ [] → (i : Int) + 1 ≤ (run l0 l1 r i b).1 ∧ (run l0 l1 r i b).1 ≤ (i : Int) + r.length
  | [], _, _, h => absurd rfl h
  | x :: xs, i, b, _ => by
    unfold run
    by_cases h1 : more x b ≤ rd l0 i
    · rw [if_pos h1]; simp only [List.length_cons]; omega
    · by_cases h2 : more x b ≥ rd l1 i
      · rw [if_neg h1, if_pos h2]; simp only [List.length_cons]; omega
      · rw [if_neg h1, if_neg h2]
        cases xs with
        | nil => simp [run]
        | cons z zs =>
          have := run_range (z :: zs) (i + 1) (more x b) (by simp)
          simp only [List.length_cons] at this ⊢
          omega
theorem looks_all (h : Ok l0 l1) : sB l0.length (fun r => wt y o r * (run l0 l1 r 0 0).1) = sLooks l0 l1 y o := by
  have e : sLooks l0 l1 y o = sI (tkR (fun k _ => (k : Int)) l0 l1 y o l0.length) l0.length := by
    rw [← looks_parts h]
    refine sI_congr _ (fun k _ => ?_)
    unfold tkR ended
    dsimp only
    rw [show ((k + 1 : Nat) : Int) = (k : Int) + 1 from rfl]
    have e1 : sI (fun b => if aft l0 l1 ((k : Int) + 1) b ≠ 0 then nxm y o (mm l0 l1 y o k) b * ((k : Int) + 1) else 0) (k + 2) = sI (fun b => if aft l0 l1 ((k : Int) + 1) b ≠ 0 then nxm y o (mm l0 l1 y o k) b else 0) (k + 2) * ((k : Int) + 1) := by
      rw [← sI_mul]
      refine sI_congr _ (fun b _ => ?_)
      split <;> simp
    rw [e1]
    generalize sI (fun b => if aft l0 l1 ((k : Int) + 1) b ≠ 0 then nxm y o (mm l0 l1 y o k) b else 0) (k + 2) = s
    generalize o ^ (l0.length - k - 1) = q
    grind
  rw [e, ← run_all h]
  refine sB_congr _ (fun r hr => ?_)
  unfold giv
  have := run_range (l0 := l0) (l1 := l1) r 0 0 (by rintro rfl; have := h.pos; simp at hr; omega)
  dsimp only
  congr 1
  omega
theorem wt_snoc (r : List Bool) (x : Bool) : wt y o (r ++ [x]) = wt y o r * (if x = true then y else o - y) := by
  induction r with
  | nil => simp [wt]
  | cons z zs ih => rw [List.cons_append, wt, wt, ih, Int.mul_assoc]
theorem wt_bound (hy : 0 ≤ y) (hyo : y ≤ o) : ∀ r : List Bool, 0 ≤ wt y o r ∧ wt y o r ≤ o ^ r.length
  | [] => by simp [wt]
  | x :: r => by
    have := wt_bound hy hyo r
    rw [wt, List.length_cons, Int.pow_succ, Int.mul_comm (o ^ r.length)]
    have hx : 0 ≤ (if x = true then y else o - y) ∧ (if x = true then y else o - y) ≤ o := by split <;> omega
    refine ⟨Int.mul_nonneg hx.1 this.1, Int.le_trans (Int.mul_le_mul_of_nonneg_right hx.2 this.1) (Int.mul_le_mul_of_nonneg_left this.2 (by omega))⟩
theorem sI_part (f : Nat → Int) (n : Nat) (h : ∀ s, s < n → 0 ≤ f s) : ∀ m : Nat, m ≤ n → sI f m ≤ sI f n := by
  intro m hm
  induction hm with
  | refl => exact Int.le_refl _
  | @step n' hn ih =>
    rw [sI]
    have := ih (fun s hs => h s (by omega))
    have := h n' (by omega)
    omega
end
end Go.Proofs.Ytdppnmfljfdhaaa.Pure
