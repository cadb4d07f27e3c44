/- Plain laws of a plan's chances: a table of what goes on, what Taken and Looks sum, and its bounds. -/
import Derived.Test.YtdppnmfljfdhaaaQMPlan
import Derived.Test.YtdppnmfljfdhaaaQHTaken
set_option linter.unusedVariables false
set_option linter.unusedSimpArgs false
namespace Go.Proofs.Ytdppnmfljfdhaaa.Pure
open Go.RowKit Go.Proofs.Ytdppnmfljfdhaaa.X Go.Proofs.YtdppnmfljfdhaaaW.PrintWords Go.Proofs.YtdppnmfljfdhaaaW.PrintLast Go.Proofs.YtdppnmfljfdhaaaW.PrintMore

/-! ### Sums -/
/-- The sum of f below i. -/
def sI (f : Nat → Int) : Nat → Int
  | 0 => 0
  | i + 1 => sI f i + f i
theorem sI_congr {f g : Nat → Int} : ∀ i, (∀ k, k < i → f k = g k) → sI f i = sI g i
  | 0, _ => rfl
  | i + 1, h => by rw [sI, sI, sI_congr i (fun k hk => h k (by omega)), h i (by omega)]
theorem sI_add (f g : Nat → Int) : ∀ i, sI (fun k => f k + g k) i = sI f i + sI g i
  | 0 => rfl
  | i + 1 => by rw [sI, sI, sI, sI_add f g i]; omega
theorem sI_sub (f g : Nat → Int) : ∀ i, sI (fun k => f k - g k) i = sI f i - sI g i
  | 0 => rfl
  | i + 1 => by rw [sI, sI, sI, sI_sub f g i]; omega
theorem sI_mul (f : Nat → Int) (c : Int) : ∀ i, sI (fun k => f k * c) i = sI f i * c
  | 0 => by simp [sI]
  | i + 1 => by rw [sI, sI, sI_mul f c i, Int.add_mul]
theorem sI_nonneg {f : Nat → Int} : ∀ i, (∀ k, k < i → 0 ≤ f k) → 0 ≤ sI f i
  | 0, _ => by simp [sI]
  | i + 1, h => by rw [sI]; have := sI_nonneg i (fun k hk => h k (by omega)); have := h i (by omega); omega
theorem sI_le {f g : Nat → Int} : ∀ i, (∀ k, k < i → f k ≤ g k) → sI f i ≤ sI g i
  | 0, _ => by simp [sI]
  | i + 1, h => by rw [sI, sI]; have := sI_le i (fun k hk => h k (by omega)); have := h i (by omega); omega
theorem sI_zero {f : Nat → Int} : ∀ i, (∀ k, k < i → f k = 0) → sI f i = 0
  | 0, _ => rfl
  | i + 1, h => by rw [sI, sI_zero i (fun k hk => h k (by omega)), h i (by omega)]; rfl
theorem sI_head (f : Nat → Int) : ∀ i, sI f (i + 1) = f 0 + sI (fun k => f (k + 1)) i
  | 0 => by simp [sI]
  | i + 1 => by rw [sI, sI_head f i]; simp only [sI]; omega
/-- A sum by parts. -/
theorem sI_parts (G : Nat → Int) : ∀ n : Nat, sI (fun k => (G k - G (k + 1)) * ((k : Int) + 1)) n = sI G n - (n : Int) * G n
  | 0 => by simp [sI]
  | n + 1 => by
    rw [sI, sI, sI_parts G n]
    push_cast
    grind
theorem sI_tele (G : Nat → Int) : ∀ n : Nat, sI (fun k => G k - G (k + 1)) n = G 0 - G n
  | 0 => by simp [sI]
  | n + 1 => by rw [sI, sI_tele G n]; omega

section
variable (l0 l1 : List Int) (y o : Int)
/-- One more item: V good ones of all, y bad ones. -/
def nxm (M : Nat → Int) : Nat → Int
  | 0 => M 0 * (o - y)
  | b + 1 => M (b + 1) * (o - y) + M b * y
theorem nxm_succ (M : Nat → Int) (b : Nat) : nxm y o M (b + 1) = M (b + 1) * (o - y) + M b * y := rfl
/-- What goes on after k items, b of them bad, of o to the power of k. -/
def mm : Nat → Nat → Int
  | 0, b => if b = 0 then 1 else 0
  | k + 1, b => if aft l0 l1 ((k : Int) + 1) b ≠ 0 then 0 else nxm y o (mm k) b
theorem mm_out : ∀ k b : Nat, k < b → mm l0 l1 y o k b = 0
  | 0, b, h => by unfold mm; rw [if_neg (by omega)]
  | k + 1, b, h => by
    obtain ⟨c, rfl⟩ : ∃ c, b = c + 1 := ⟨b - 1, by omega⟩
    show (if aft l0 l1 ((k : Int) + 1) ((c + 1 : Nat) : Int) ≠ 0 then 0 else nxm y o (mm l0 l1 y o k) (c + 1)) = 0
    rw [nxm_succ, mm_out k (c + 1) (by omega), mm_out k c (by omega)]
    simp
theorem nxm_nonneg (hy : 0 ≤ y) (hyo : y ≤ o) {M : Nat → Int} (h : ∀ b, 0 ≤ M b) : ∀ b, 0 ≤ nxm y o M b
  | 0 => Int.mul_nonneg (h 0) (by omega)
  | b + 1 => Int.add_nonneg (Int.mul_nonneg (h _) (by omega)) (Int.mul_nonneg (h _) hy)
theorem mm_nonneg (hy : 0 ≤ y) (hyo : y ≤ o) : ∀ k b : Nat, 0 ≤ mm l0 l1 y o k b
  | 0, b => by unfold mm; split <;> omega
  | k + 1, b => by
    unfold mm
    split
    · omega
    · exact nxm_nonneg y o hy hyo (mm_nonneg hy hyo k) b
theorem sum_nxm (M : Nat → Int) : ∀ i : Nat, M i = 0 → sI (nxm y o M) (i + 1) = o * sI M (i + 1) := by
  intro i hi
  have h : ∀ j, sI (nxm y o M) (j + 1) = (o - y) * sI M (j + 1) + y * sI M j := by
    intro j
    induction j with
    | zero => simp [sI, nxm]; grind
    | succ j ih => rw [sI, ih]; simp only [nxm, sI]; grind
  rw [h, sI, hi]
  grind
/-- All that goes on after k items. -/
def mass (k : Nat) : Int := sI (mm l0 l1 y o k) (k + 1)
/-- What ends at item k + 1. -/
def ended (k : Nat) : Int := sI (fun b => if aft l0 l1 ((k : Int) + 1) b ≠ 0 then nxm y o (mm l0 l1 y o k) b else 0) (k + 2)
theorem mass_step (k : Nat) : mass l0 l1 y o (k + 1) = o * mass l0 l1 y o k - ended l0 l1 y o k := by
  have h1 : sI (nxm y o (mm l0 l1 y o k)) (k + 1 + 1) = o * sI (mm l0 l1 y o k) (k + 1 + 1) := sum_nxm y o _ (k + 1) (mm_out _ _ _ _ k (k + 1) (by omega))
  have h2 : sI (mm l0 l1 y o k) (k + 1 + 1) = mass l0 l1 y o k := by unfold mass; rw [sI, mm_out _ _ _ _ k (k + 1) (by omega)]; omega
  unfold ended
  rw [← h2, ← h1, ← sI_sub]
  unfold mass
  refine sI_congr _ (fun b _ => ?_)
  show mm l0 l1 y o (k + 1) b = _
  unfold mm
  split <;> omega
/-- What goes on, of o to the power of n. -/
def gg (n k : Nat) : Int := mass l0 l1 y o k * o ^ (n - k)
theorem gg_step (n k : Nat) (h : k < n) : gg l0 l1 y o n k - gg l0 l1 y o n (k + 1) = ended l0 l1 y o k * o ^ (n - k - 1) := by
  unfold gg
  obtain ⟨d, hd⟩ : ∃ d, n - k = d + 1 := ⟨n - k - 1, by omega⟩
  rw [mass_step, hd, show n - (k + 1) = d by omega, show d + 1 - 1 = d by omega, Int.pow_succ]
  generalize o ^ d = q
  grind
theorem gg_zero (n : Nat) : gg l0 l1 y o n 0 = o ^ n := by simp [gg, mass, sI, mm]
variable {l0 l1 y o}
theorem aft_last (h : Ok l0 l1) (b : Int) : aft l0 l1 (l0.length : Int) b ≠ 0 := by
  unfold aft
  have hl := h.last
  split
  · decide
  · rw [if_pos (by omega)]; decide
theorem gg_last (h : Ok l0 l1) : gg l0 l1 y o l0.length l0.length = 0 := by
  unfold gg mass
  have hp := h.pos
  rw [sI_zero, Int.zero_mul]
  intro b _
  obtain ⟨k, hk⟩ : ∃ k, l0.length = k + 1 := ⟨l0.length - 1, by omega⟩
  rw [hk, mm, if_pos]
  have := aft_last h b
  rw [hk] at this
  exact_mod_cast this

/-! ### What is summed -/
/-- Taken's sum, of o to the power of n. -/
def sTaken (l0 l1 : List Int) (y o : Int) : Int := sI (fun k => sI (fun b => if aft l0 l1 ((k : Int) + 1) b = 1 then nxm y o (mm l0 l1 y o k) b else 0) (k + 2) * o ^ (l0.length - k - 1)) l0.length
/-- Looks' sum. -/
def sLooks (l0 l1 : List Int) (y o : Int) : Int := sI (gg l0 l1 y o l0.length) l0.length
theorem ended_nonneg (hy : 0 ≤ y) (hyo : y ≤ o) (k : Nat) : 0 ≤ ended l0 l1 y o k :=
  sI_nonneg _ (fun b _ => by split; exact nxm_nonneg y o hy hyo (mm_nonneg l0 l1 y o hy hyo k) b; omega)
theorem pow_nonneg' (o : Int) (h : 0 ≤ o) : ∀ n : Nat, 0 ≤ o ^ n
  | 0 => by simp
  | n + 1 => by rw [Int.pow_succ]; exact Int.mul_nonneg (pow_nonneg' o h n) h
theorem sTaken_bound (h : Ok l0 l1) (hy : 0 ≤ y) (hyo : y ≤ o) : 0 ≤ sTaken l0 l1 y o ∧ sTaken l0 l1 y o ≤ o ^ l0.length := by
  have hn := fun k => mm_nonneg l0 l1 y o hy hyo k
  constructor
  · exact sI_nonneg _ (fun k _ => Int.mul_nonneg (sI_nonneg _ (fun b _ => by split; exact nxm_nonneg y o hy hyo (hn k) b; omega)) (pow_nonneg' o (by omega) _))
  · have h1 : sTaken l0 l1 y o ≤ sI (fun k => gg l0 l1 y o l0.length k - gg l0 l1 y o l0.length (k + 1)) l0.length := by
      refine sI_le _ (fun k hk => ?_)
      rw [gg_step _ _ _ _ _ _ hk]
      refine Int.mul_le_mul_of_nonneg_right (sI_le _ (fun b _ => ?_)) (pow_nonneg' o (by omega) _)
      have := nxm_nonneg y o hy hyo (hn k) b
      split
      · rename_i e; rw [e, if_pos (by decide)]; omega
      · split <;> omega
    rw [sI_tele, gg_zero, gg_last h] at h1
    omega
theorem gg_bound (hy : 0 ≤ y) (hyo : y ≤ o) (n : Nat) : ∀ k : Nat, k ≤ n → 0 ≤ gg l0 l1 y o n k ∧ gg l0 l1 y o n k ≤ o ^ n := by
  intro k hk
  have hnn : 0 ≤ gg l0 l1 y o n k := Int.mul_nonneg (sI_nonneg _ (fun b _ => mm_nonneg l0 l1 y o hy hyo k b)) (pow_nonneg' o (by omega) _)
  refine ⟨hnn, ?_⟩
  clear hnn
  induction k with
  | zero => rw [gg_zero]; omega
  | succ k ih =>
    have h1 := gg_step l0 l1 y o n k (by omega)
    have h2 := Int.mul_nonneg (ended_nonneg (l0 := l0) (l1 := l1) hy hyo k) (pow_nonneg' o (by omega) (n - k - 1))
    have := ih (by omega)
    omega
theorem sLooks_bound (h : Ok l0 l1) (hy : 0 ≤ y) (hyo : y ≤ o) : o ^ l0.length ≤ sLooks l0 l1 y o ∧ sLooks l0 l1 y o ≤ l0.length * o ^ l0.length := by
  have hp := h.pos
  constructor
  · unfold sLooks
    obtain ⟨n, hn⟩ : ∃ n, l0.length = n + 1 := ⟨l0.length - 1, by omega⟩
    rw [hn, sI_head, gg_zero]
    have := sI_nonneg (f := fun k => gg l0 l1 y o (n + 1) (k + 1)) n (fun k hk => (gg_bound hy hyo (n + 1) (k + 1) (by omega)).1)
    omega
  · have h1 : sLooks l0 l1 y o ≤ sI (fun _ => o ^ l0.length) l0.length := sI_le _ (fun k hk => (gg_bound hy hyo l0.length k (by omega)).2)
    have h2 : ∀ (c : Int) (n : Nat), sI (fun _ => c) n = n * c := by
      intro c n
      induction n with
      | zero => simp [sI]
      | succ n ih => rw [sI, ih]; push_cast; grind
    rw [h2] at h1
    exact h1
theorem looks_parts (h : Ok l0 l1) : sI (fun k => ended l0 l1 y o k * o ^ (l0.length - k - 1) * ((k : Int) + 1)) l0.length = sLooks l0 l1 y o := by
  have h1 : sI (fun k => ended l0 l1 y o k * o ^ (l0.length - k - 1) * ((k : Int) + 1)) l0.length = sI (fun k => (gg l0 l1 y o l0.length k - gg l0 l1 y o l0.length (k + 1)) * ((k : Int) + 1)) l0.length :=
    sI_congr _ (fun k hk => by rw [gg_step _ _ _ _ _ _ hk])
  rw [h1, sI_parts, gg_last h]
  unfold sLooks
  omega
end

/-! ### The program's table, by ways -/
section
variable {l0 l1 : List Int} {y o : Int}
theorem wy_succ (l0 l1 : List Int) (k : Nat) (z : Int) : wy l0 l1 (k + 1) z = if (0 ≤ z ∧ z < (k : Int) + 2) ∧ aft l0 l1 (k + 1) z ≠ 0 ∧ 0 < nx (wy l0 l1 k) z then 0 else nx (wy l0 l1 k) z := rfl
theorem enK_succ (l0 l1 : List Int) (k m : Nat) : enK l0 l1 k (m + 1) = if aft l0 l1 (k + 1) m ≠ 0 ∧ 0 < nx (wy l0 l1 k) m then enK l0 l1 k m ++ [⟨(k : Int) + 1, m, aft l0 l1 (k + 1) m, nx (wy l0 l1 k) m⟩] else enK l0 l1 k m := rfl
theorem wy_range (l0 l1 : List Int) : ∀ k : Nat, k ≤ 12 → ∀ z : Int, 0 ≤ wy l0 l1 k z ∧ wy l0 l1 k z ≤ 2 ^ k := by
  intro k
  induction k with
  | zero => intro _ z; unfold wy; split <;> simp
  | succ k ih =>
    intro hk z
    have a := ih (by omega) z
    have b := ih (by omega) (z - 1)
    have hp : (2 : Int) ^ (k + 1) = 2 ^ k * 2 := Int.pow_succ ..
    have hb : (2 : Int) ^ k ≤ 2 ^ 12 := by exact_mod_cast Nat.pow_le_pow_right (by omega) (show k ≤ 12 by omega)
    have e : nx (wy l0 l1 k) z = wy l0 l1 k z + wy l0 l1 k (z - 1) := by unfold nx; exact w_in (by omega) (by omega)
    unfold wy
    rw [e]
    split <;> omega
theorem nx_eq (l0 l1 : List Int) (k : Nat) (hk : k ≤ 12) (z : Int) : nx (wy l0 l1 k) z = wy l0 l1 k z + wy l0 l1 k (z - 1) := by
  have a := wy_range l0 l1 k hk z
  have b := wy_range l0 l1 k hk (z - 1)
  have hb : (2 : Int) ^ k ≤ 2 ^ 12 := by exact_mod_cast Nat.pow_le_pow_right (by omega) hk
  unfold nx
  exact w_in (by omega) (by omega)
theorem nx_mm (l0 l1 : List Int) (y o : Int) (k : Nat) (hk : k ≤ 12) (hm : ∀ b : Nat, b ≤ k → wy l0 l1 k b * y ^ b * (o - y) ^ (k - b) = mm l0 l1 y o k b) (b : Nat) (hb : b ≤ k + 1) : nx (wy l0 l1 k) b * y ^ b * (o - y) ^ (k + 1 - b) = nxm y o (mm l0 l1 y o k) b := by
  rw [nx_eq l0 l1 k hk]
  cases b with
  | zero =>
    have h0 : wy l0 l1 k ((0 : Nat) - 1 : Int) = 0 := wy_out l0 l1 k _ (by omega)
    rw [h0]
    show _ = mm l0 l1 y o k 0 * (o - y)
    rw [← hm 0 (by omega), show k + 1 - 0 = (k - 0) + 1 by omega, Int.pow_succ]
    grind
  | succ c =>
    rw [show ((c + 1 : Nat) : Int) - 1 = (c : Int) by omega]
    rw [nxm_succ, ← hm c (by omega), show k + 1 - (c + 1) = k - c by omega]
    by_cases hc : c + 1 ≤ k
    · rw [← hm (c + 1) hc, show k - c = (k - (c + 1)) + 1 by omega, Int.pow_succ, Int.pow_succ]
      grind
    · have h1 : wy l0 l1 k ((c + 1 : Nat) : Int) = 0 := wy_out l0 l1 k _ (by omega)
      rw [h1, mm_out _ _ _ _ k (c + 1) (by omega), Int.pow_succ]
      grind
theorem wy_mm (l0 l1 : List Int) (y o : Int) : ∀ k : Nat, k ≤ 12 → ∀ b : Nat, b ≤ k → wy l0 l1 k b * y ^ b * (o - y) ^ (k - b) = mm l0 l1 y o k b := by
  intro k
  induction k with
  | zero =>
    intro _ b hb
    obtain rfl : b = 0 := by omega
    simp [wy, mm]
  | succ k ih =>
    intro hk b hb
    have hnx := nx_mm l0 l1 y o k (by omega) (ih (by omega)) b hb
    unfold mm
    by_cases ha : aft l0 l1 ((k : Int) + 1) b = 0
    · rw [if_neg (by simpa using ha), ← hnx]
      rw [wy_succ, if_neg (by simp [ha])]
    · rw [if_pos ha]
      rw [wy_succ]
      by_cases hv : 0 < nx (wy l0 l1 k) b
      · rw [if_pos ⟨by omega, ha, hv⟩]; simp
      · have hz : nx (wy l0 l1 k) b = 0 := by
          have a := wy_range l0 l1 k (by omega) b
          have c := wy_range l0 l1 k (by omega) ((b : Int) - 1)
          have e := nx_eq l0 l1 k (by omega) (b : Int)
          omega
        rw [if_neg (by simp [hv]), hz]; simp
/-- An end's weight times its number, as integers. -/
def wE (y o : Int) (n : Nat) (f : S81 → Int) (e : S81) : Int := e.f3 * y ^ e.f1.toNat * (o - y) ^ (e.f0 - e.f1).toNat * o ^ (n - e.f0.toNat) * f e
def wL (y o : Int) (n : Nat) (f : S81 → Int) : List S81 → Int
  | [] => 0
  | e :: L => wE y o n f e + wL y o n f L
theorem wL_append (y o : Int) (n : Nat) (f : S81 → Int) : ∀ L M : List S81, wL y o n f (L ++ M) = wL y o n f L + wL y o n f M
  | [], M => by simp [wL]
  | e :: L, M => by simp only [List.cons_append, wL]; rw [wL_append y o n f L M]; omega
/-- The end at item k + 1 with b bad ones. -/
def eAt (l0 l1 : List Int) (k b : Nat) : S81 := ⟨(k : Int) + 1, b, aft l0 l1 ((k : Int) + 1) b, nx (wy l0 l1 k) b⟩
theorem wE_at (l0 l1 : List Int) (y o : Int) (n : Nat) (f : S81 → Int) (k : Nat) (hk : k < n) (hn : n ≤ 12) (b : Nat) (hb : b ≤ k + 1) : wE y o n f (eAt l0 l1 k b) = nxm y o (mm l0 l1 y o k) b * o ^ (n - k - 1) * f (eAt l0 l1 k b) := by
  unfold wE
  show nx (wy l0 l1 k) b * y ^ (b : Int).toNat * (o - y) ^ ((k : Int) + 1 - b).toNat * o ^ (n - ((k : Int) + 1).toNat) * f (eAt l0 l1 k b) = _
  rw [show (b : Int).toNat = b by omega, show ((k : Int) + 1 - b).toNat = k + 1 - b by omega, show n - ((k : Int) + 1).toNat = n - k - 1 by omega, nx_mm l0 l1 y o k (by omega) (wy_mm l0 l1 y o k (by omega)) b hb]
theorem wL_enK (l0 l1 : List Int) (y o : Int) (n : Nat) (f : S81 → Int) (k : Nat) (hk : k < n) (hn : n ≤ 12) : ∀ m : Nat, m ≤ k + 2 →
    wL y o n f (enK l0 l1 k m) = sI (fun b => if aft l0 l1 ((k : Int) + 1) b ≠ 0 then nxm y o (mm l0 l1 y o k) b * o ^ (n - k - 1) * f (eAt l0 l1 k b) else 0) m := by
  intro m
  induction m with
  | zero => intro _; rfl
  | succ m ih =>
    intro hm
    rw [sI, ← ih (by omega)]
    have hE := wE_at l0 l1 y o n f k hk hn m (by omega)
    rw [enK_succ]
    by_cases ha : aft l0 l1 ((k : Int) + 1) m ≠ 0
    · by_cases hv : 0 < nx (wy l0 l1 k) m
      · rw [if_pos ⟨ha, hv⟩, wL_append, if_pos ha, ← hE]
        simp [wL, eAt]
      · have hz : nx (wy l0 l1 k) m = 0 := by
          have a := wy_range l0 l1 k (by omega) m
          have c := wy_range l0 l1 k (by omega) ((m : Int) - 1)
          have e := nx_eq l0 l1 k (by omega) (m : Int)
          omega
        rw [if_neg (fun h => hv h.2), if_pos ha, ← hE]
        simp [wE, eAt, hz]
    · rw [if_neg (fun h => ha h.1), if_neg ha]
      omega
theorem wL_ends (l0 l1 : List Int) (y o : Int) (n : Nat) (f : S81 → Int) (hn : n ≤ 12) : ∀ k : Nat, k ≤ n →
    wL y o n f (ends l0 l1 k) = sI (fun j => sI (fun b => if aft l0 l1 ((j : Int) + 1) b ≠ 0 then nxm y o (mm l0 l1 y o j) b * o ^ (n - j - 1) * f (eAt l0 l1 j b) else 0) (j + 2)) k := by
  intro k
  induction k with
  | zero => intro _; rfl
  | succ k ih =>
    intro hk
    rw [sI, ← ih (by omega), ← wL_enK l0 l1 y o n f k (by omega) hn (k + 2) (by omega)]
    exact wL_append ..
theorem wL_taken (l0 l1 : List Int) (y o : Int) (hn : l0.length ≤ 12) : wL y o l0.length ofTaken (ends l0 l1 l0.length) = sTaken l0 l1 y o := by
  rw [wL_ends l0 l1 y o _ _ hn _ (Nat.le_refl _)]
  unfold sTaken
  refine sI_congr _ (fun k hk => ?_)
  rw [← sI_mul]
  refine sI_congr _ (fun b _ => ?_)
  unfold ofTaken eAt
  dsimp only
  by_cases h1 : aft l0 l1 ((k : Int) + 1) b = 1
  · rw [h1]; simp
  · rw [if_neg h1, if_neg h1]
    split <;> simp
theorem wL_looks {l0 l1 : List Int} (h : Ok l0 l1) (y o : Int) : wL y o l0.length ofLooks (ends l0 l1 l0.length) = sLooks l0 l1 y o := by
  rw [wL_ends l0 l1 y o _ _ h.most _ (Nat.le_refl _), ← looks_parts h]
  refine sI_congr _ (fun k hk => ?_)
  unfold ended
  rw [← sI_mul, ← sI_mul]
  refine sI_congr _ (fun b _ => ?_)
  unfold ofLooks eAt
  dsimp only
  split <;> simp
end
end Go.Proofs.Ytdppnmfljfdhaaa.Pure
