/- Plain laws: with fewer bad items a lot is taken no less often, by every plan; all items are looked at by the plan of n and c. -/
import Derived.Test.YtdppnmfljfdhaaaQMChance
import Derived.Test.YtdppnmfljfdhaaaQMSingle
set_option linter.unusedVariables false
set_option linter.unusedSimpArgs false
namespace Go.Proofs.Ytdppnmfljfdhaaa.Pure
open Go.RowKit Go.Proofs.Ytdppnmfljfdhaaa.X Go.Proofs.YtdppnmfljfdhaaaW.PrintWords Go.Proofs.YtdppnmfljfdhaaaW.PrintLast Go.Proofs.YtdppnmfljfdhaaaW.PrintMore

/-- What is taken from a place on, of o to the power of d, where going on has the value u. -/
def wv (l0 l1 : List Int) (o : Int) (d : Nat) (k b : Int) (u : Int) : Int := if aft l0 l1 k b = 1 then o ^ d else if aft l0 l1 k b = 2 then 0 else u
/-- What is taken after k items, b of them bad, where it goes on, d items still to come. -/
def uv (l0 l1 : List Int) (y o : Int) : Nat → Int → Int → Int
  | 0, _, _ => 0
  | d + 1, k, b => (o - y) * wv l0 l1 o d (k + 1) b (uv l0 l1 y o d (k + 1) b) + y * wv l0 l1 o d (k + 1) (b + 1) (uv l0 l1 y o d (k + 1) (b + 1))
section
variable {l0 l1 : List Int} {y o : Int}
theorem wv_range (ho : 0 ≤ o) (d : Nat) (k b u : Int) (h : 0 ≤ u ∧ u ≤ o ^ d) : 0 ≤ wv l0 l1 o d k b u ∧ wv l0 l1 o d k b u ≤ o ^ d := by
  have := pow_nonneg' o ho d
  unfold wv
  repeat' split
  all_goals omega
theorem uv_range (hy : 0 ≤ y) (hyo : y ≤ o) : ∀ (d : Nat) (k b : Int), 0 ≤ uv l0 l1 y o d k b ∧ uv l0 l1 y o d k b ≤ o ^ d
  | 0, _, _ => by simp [uv]
  | d + 1, k, b => by
    have h1 := wv_range (l0 := l0) (l1 := l1) (show 0 ≤ o by omega) d (k + 1) b _ (uv_range hy hyo d (k + 1) b)
    have h2 := wv_range (l0 := l0) (l1 := l1) (show 0 ≤ o by omega) d (k + 1) (b + 1) _ (uv_range hy hyo d (k + 1) (b + 1))
    have a1 := Int.mul_nonneg (show 0 ≤ o - y by omega) h1.1
    have a2 := Int.mul_nonneg hy h2.1
    have b1 := Int.mul_le_mul_of_nonneg_left h1.2 (show 0 ≤ o - y by omega)
    have b2 := Int.mul_le_mul_of_nonneg_left h2.2 hy
    have e : (o - y) * o ^ d + y * o ^ d = o ^ (d + 1) := by rw [Int.pow_succ]; generalize o ^ d = p; grind
    unfold uv
    omega
/-- One bad item more is taken no more often. -/
theorem wv_down (ho : 0 ≤ o) (d : Nat) (k b u u' : Int) (h : 0 ≤ u ∧ u ≤ o ^ d) (h' : 0 ≤ u' ∧ u' ≤ o ^ d) (hu : u' ≤ u) : wv l0 l1 o d k (b + 1) u' ≤ wv l0 l1 o d k b u := by
  have := pow_nonneg' o ho d
  unfold wv aft
  by_cases h1 : b ≤ rd l0 (k - 1)
  · rw [if_pos (show (if b ≤ rd l0 (k - 1) then (1 : Int) else if b ≥ rd l1 (k - 1) then 2 else 0) = 1 by rw [if_pos h1])]
    repeat' split
    all_goals omega
  · have h3 : ¬ b + 1 ≤ rd l0 (k - 1) := by omega
    simp only [if_neg h1, if_neg h3]
    by_cases h2 : b ≥ rd l1 (k - 1)
    · have h4 : b + 1 ≥ rd l1 (k - 1) := by omega
      simp only [if_pos h2, if_pos h4]
      simp
    · simp only [if_neg h2]
      by_cases h4 : b + 1 ≥ rd l1 (k - 1)
      · simp only [if_pos h4]; simp; omega
      · simp only [if_neg h4]; simp; omega
theorem uv_down (hy : 0 ≤ y) (hyo : y ≤ o) : ∀ (d : Nat) (k b : Int), uv l0 l1 y o d k (b + 1) ≤ uv l0 l1 y o d k b
  | 0, _, _ => by simp [uv]
  | d + 1, k, b => by
    have h1 := wv_down (l0 := l0) (l1 := l1) (show 0 ≤ o by omega) d (k + 1) b _ _ (uv_range hy hyo d (k + 1) b) (uv_range hy hyo d (k + 1) (b + 1)) (uv_down hy hyo d (k + 1) b)
    have h2 := wv_down (l0 := l0) (l1 := l1) (show 0 ≤ o by omega) d (k + 1) (b + 1) _ _ (uv_range hy hyo d (k + 1) (b + 1)) (uv_range hy hyo d (k + 1) (b + 1 + 1)) (uv_down hy hyo d (k + 1) (b + 1))
    have b1 := Int.mul_le_mul_of_nonneg_left h1 (show 0 ≤ o - y by omega)
    have b2 := Int.mul_le_mul_of_nonneg_left h2 hy
    unfold uv
    omega
theorem wv_mono (d : Nat) (k b u u' : Int) (hu : u ≤ u') : wv l0 l1 o d k b u ≤ wv l0 l1 o d k b u' := by
  unfold wv
  repeat' split
  all_goals omega
/-- With fewer bad items more is taken. -/
theorem uv_fewer {y' : Int} (hy' : 0 ≤ y') (hyy : y' ≤ y) (hyo : y ≤ o) : ∀ (d : Nat) (k b : Int), uv l0 l1 y o d k b ≤ uv l0 l1 y' o d k b
  | 0, _, _ => by simp [uv]
  | d + 1, k, b => by
    have h1 := wv_mono (l0 := l0) (l1 := l1) (o := o) d (k + 1) b _ _ (uv_fewer hy' hyy hyo d (k + 1) b)
    have h2 := wv_mono (l0 := l0) (l1 := l1) (o := o) d (k + 1) (b + 1) _ _ (uv_fewer hy' hyy hyo d (k + 1) (b + 1))
    have h3 := wv_down (l0 := l0) (l1 := l1) (show 0 ≤ o by omega) d (k + 1) b (uv l0 l1 y' o d (k + 1) b) (uv l0 l1 y' o d (k + 1) (b + 1)) (uv_range hy' (by omega) d (k + 1) b) (uv_range hy' (by omega) d (k + 1) (b + 1)) (uv_down hy' (by omega) d (k + 1) b)
    have b1 := Int.mul_le_mul_of_nonneg_left h1 (show 0 ≤ o - y by omega)
    have b2 := Int.mul_le_mul_of_nonneg_left h2 (show 0 ≤ y by omega)
    have b3 := Int.mul_le_mul_of_nonneg_left h3 (show 0 ≤ y - y' by omega)
    unfold uv
    generalize wv l0 l1 o d (k + 1) b (uv l0 l1 y o d (k + 1) b) = A at *
    generalize wv l0 l1 o d (k + 1) (b + 1) (uv l0 l1 y o d (k + 1) (b + 1)) = B at *
    generalize wv l0 l1 o d (k + 1) b (uv l0 l1 y' o d (k + 1) b) = A' at *
    generalize wv l0 l1 o d (k + 1) (b + 1) (uv l0 l1 y' o d (k + 1) (b + 1)) = B' at *
    have e1 : (o - y') * A' + y' * B' = (o - y) * A' + y * B' + ((y - y') * A' - (y - y') * B') := by grind
    omega
theorem sI_shift2 (M f : Nat → Int) (m : Nat) : sI (fun b => M b * ((o - y) * f b + y * f (b + 1))) m + M m * (o - y) * f m = sI (fun b => nxm y o M b * f b) (m + 1) := by
  induction m with
  | zero => simp [sI, nxm]
  | succ m ih =>
    rw [sI, sI, ← ih, nxm_succ]
    generalize sI (fun b => M b * ((o - y) * f b + y * f (b + 1))) m = s
    generalize M m = a
    generalize M (m + 1) = c
    generalize f m = x
    generalize f (m + 1) = z
    grind
/-- What is taken at item k + 1. -/
def tkf (l0 l1 : List Int) (y o : Int) (n k : Nat) : Int := sI (fun b => if aft l0 l1 ((k : Int) + 1) b = 1 then nxm y o (mm l0 l1 y o k) b else 0) (k + 2) * o ^ (n - k - 1)
/-- What was taken by the k-th item, and what is still to be. -/
def potT (l0 l1 : List Int) (y o : Int) (n k : Nat) : Int := sI (fun b => mm l0 l1 y o k b * uv l0 l1 y o (n - k) k b) (k + 1) + sI (tkf l0 l1 y o n) k
theorem potT_step (n k : Nat) (hk : k < n) : potT l0 l1 y o n k = potT l0 l1 y o n (k + 1) := by
  have hd : n - k = (n - (k + 1)) + 1 := by omega
  have hd' : n - k - 1 = n - (k + 1) := by omega
  have hs : sI (tkf l0 l1 y o n) (k + 1) = sI (tkf l0 l1 y o n) k + tkf l0 l1 y o n k := rfl
  unfold potT
  rw [hs, show tkf l0 l1 y o n k = sI (fun b => if aft l0 l1 ((k : Int) + 1) b = 1 then nxm y o (mm l0 l1 y o k) b else 0) (k + 2) * o ^ (n - k - 1) from rfl, hd']
  have h2 := sI_shift2 (y := y) (o := o) (mm l0 l1 y o k) (fun b : Nat => wv l0 l1 o (n - (k + 1)) ((k : Int) + 1) b (uv l0 l1 y o (n - (k + 1)) ((k : Int) + 1) b)) (k + 1)
  rw [mm_out _ _ _ _ k (k + 1) (by omega), Int.zero_mul, Int.zero_mul, Int.add_zero] at h2
  have h1 : sI (fun b => mm l0 l1 y o k b * uv l0 l1 y o (n - k) k b) (k + 1) = sI (fun b => mm l0 l1 y o k b * ((o - y) * wv l0 l1 o (n - (k + 1)) ((k : Int) + 1) (b : Nat) (uv l0 l1 y o (n - (k + 1)) ((k : Int) + 1) (b : Nat)) + y * wv l0 l1 o (n - (k + 1)) ((k : Int) + 1) ((b + 1 : Nat) : Int) (uv l0 l1 y o (n - (k + 1)) ((k : Int) + 1) ((b + 1 : Nat) : Int)))) (k + 1) := by
    refine sI_congr _ (fun b _ => ?_)
    rw [hd]
    rfl
  rw [h1, h2, ← sI_mul]
  have h3 : sI (fun b => nxm y o (mm l0 l1 y o k) b * wv l0 l1 o (n - (k + 1)) ((k : Int) + 1) (b : Nat) (uv l0 l1 y o (n - (k + 1)) ((k : Int) + 1) (b : Nat))) (k + 1 + 1) = sI (fun b => mm l0 l1 y o (k + 1) b * uv l0 l1 y o (n - (k + 1)) ((k + 1 : Nat) : Int) b + (if aft l0 l1 ((k : Int) + 1) b = 1 then nxm y o (mm l0 l1 y o k) b else 0) * o ^ (n - (k + 1))) (k + 1 + 1) := by
    refine sI_congr _ (fun b _ => ?_)
    have em : mm l0 l1 y o (k + 1) b = if aft l0 l1 ((k : Int) + 1) b ≠ 0 then 0 else nxm y o (mm l0 l1 y o k) b := rfl
    rw [em, show ((k + 1 : Nat) : Int) = (k : Int) + 1 from rfl]
    unfold wv
    have h012 : aft l0 l1 ((k : Int) + 1) b = 0 ∨ aft l0 l1 ((k : Int) + 1) b = 1 ∨ aft l0 l1 ((k : Int) + 1) b = 2 := by
      unfold aft
      repeat' split
      all_goals simp
    rcases h012 with h | h | h
    · rw [h]; simp
    · rw [h]; simp
    · rw [h]; simp
  rw [show k + 2 = k + 1 + 1 from rfl, h3, sI_add]
  generalize sI (fun b => (if aft l0 l1 ((k : Int) + 1) b = 1 then nxm y o (mm l0 l1 y o k) b else 0) * o ^ (n - (k + 1))) (k + 1 + 1) = q
  omega
theorem sTaken_uv (h : Ok l0 l1) : sTaken l0 l1 y o = uv l0 l1 y o l0.length 0 0 := by
  have hp : ∀ k : Nat, k ≤ l0.length → potT l0 l1 y o l0.length 0 = potT l0 l1 y o l0.length k := by
    intro k
    induction k with
    | zero => intro _; rfl
    | succ k ih => intro hk; rw [ih (by omega), potT_step _ _ (by omega)]
  have h0 : potT l0 l1 y o l0.length 0 = uv l0 l1 y o l0.length 0 0 := by
    unfold potT
    simp [sI, mm]
  have hn : potT l0 l1 y o l0.length l0.length = sTaken l0 l1 y o := by
    unfold potT
    rw [sI_zero, Int.zero_add]
    · rfl
    · intro b _
      rw [Nat.sub_self]
      simp [uv]
  rw [← h0, ← hn, hp _ (Nat.le_refl _)]
theorem sTaken_fewer (h : Ok l0 l1) {y' : Int} (hy' : 0 ≤ y') (hyy : y' ≤ y) (hyo : y ≤ o) : sTaken l0 l1 y o ≤ sTaken l0 l1 y' o := by
  rw [sTaken_uv h, sTaken_uv h]
  exact uv_fewer hy' hyy hyo _ _ _
end
theorem single_dec : ∀ n : Fin 13, ∀ c : Fin 12, isS (n.val : Int) (c.val : Int) = true → (singleT (n.val : Int) (c.val : Int)).length = n.val ∧ (shT (n.val : Int) (c.val : Int) (n.val : Int).toNat).length = n.val ∧
    ∀ j : Fin 12, j.val + 1 < n.val → rd (singleT (n.val : Int) (c.val : Int)) (j.val : Int) = -1 ∧ rd (singleL (n.val : Int) (c.val : Int)) (j.val : Int) = (n.val : Int) + 1 := by decide +kernel
theorem single_at {n c : Int} (h : isS n c = true) : (singleT n c).length = n.toNat ∧ (shT n c n.toNat).length = n.toNat ∧ ∀ j : Nat, (j : Int) + 1 < n → rd (singleT n c) j = -1 ∧ rd (singleL n c) j = n + 1 := by
  obtain ⟨h1, h2, h3, h4⟩ := (isS_iff n c).1 h
  obtain ⟨m, rfl⟩ := Int.eq_ofNat_of_zero_le (by omega : 0 ≤ n)
  obtain ⟨d, rfl⟩ := Int.eq_ofNat_of_zero_le h3
  obtain ⟨a, b, c⟩ := single_dec ⟨m, by omega⟩ ⟨d, by omega⟩ h
  exact ⟨a, b, fun j hj => c ⟨j, by omega⟩ (by show j + 1 < m; omega)⟩
theorem sLooks_single {n c : Int} (h : isS n c = true) (y o : Int) : sLooks (singleT n c) (singleL n c) y o = n * o ^ n.toNat := by
  obtain ⟨h1, h2, h3, h4⟩ := (isS_iff n c).1 h
  obtain ⟨hl, _, ha⟩ := single_at h
  have hg : ∀ k : Nat, (k : Int) < n → gg (singleT n c) (singleL n c) y o n.toNat k = o ^ n.toNat := by
    intro k
    induction k with
    | zero => intro _; exact gg_zero ..
    | succ k ih =>
      intro hk
      have hs := gg_step (singleT n c) (singleL n c) y o n.toNat k (by omega)
      have he : ended (singleT n c) (singleL n c) y o k = 0 := by
        unfold ended
        refine sI_zero _ (fun b hb => ?_)
        obtain ⟨r0, r1⟩ := ha k (by omega)
        have : aft (singleT n c) (singleL n c) ((k : Int) + 1) b = 0 := by
          unfold aft
          rw [show (k : Int) + 1 - 1 = (k : Int) by omega, r0, r1, if_neg (by omega), if_neg (by omega)]
        rw [this, if_neg (by decide)]
      rw [he, Int.zero_mul] at hs
      have := ih (by omega)
      omega
  unfold sLooks
  rw [hl, sI_congr _ (fun k hk => hg k (by omega))]
  have h2 : ∀ (c : Int) (n : Nat), sI (fun _ => c) n = n * c := by
    intro c n
    induction n with
    | zero => simp [sI]
    | succ n ih => rw [sI, ih]; push_cast; grind
  rw [h2, show ((n.toNat : Nat) : Int) = n by omega]
theorem fr_int (n D : Int) (hD : 0 < D) : fr (Rat.divInt (n * D) D) = (n, 1) := by
  have h := divInt_cancel n 1 D (by omega) hD
  rw [Int.one_mul] at h
  rw [h, fr_divInt _ _ (by omega)]
  simp
end Go.Proofs.Ytdppnmfljfdhaaa.Pure
