/- Plain laws of finite lots: Pascal's numbers, their sums, and what Finite answers. -/
import Derived.Test.YtdppnmfljfdhaaaMBase
import Derived.Test.YtdppnmfljfdhaaaXlotsFinite
import Derived.Test.YtdppnmfljfdhaaaXcomfitref02Finite
set_option linter.unusedVariables false
set_option linter.unusedSimpArgs false
namespace Go.Proofs.Ytdppnmfljfdhaaa.Pure
open Go.RowKit Go.Proofs.Ytdppnmfljfdhaaa.X Go.Proofs.YtdppnmfljfdhaaaW.PrintWords Go.Proofs.YtdppnmfljfdhaaaW.PrintLast Go.Proofs.YtdppnmfljfdhaaaW.PrintMore

/-- Pascal's numbers. -/
def pas : Nat → Nat → Nat
  | _, 0 => 1
  | 0, _ + 1 => 0
  | n + 1, k + 1 => pas n k + pas n (k + 1)
def nextRow : List Nat → List Nat
  | [] => []
  | [a] => [a]
  | a :: b :: r => (a + b) :: nextRow (b :: r)
def row : Nat → List Nat
  | 0 => [1]
  | n + 1 => 1 :: nextRow (row n)
theorem nextRow_at : ∀ (l : List Nat) (k : Nat), (nextRow l).getD k 0 = l.getD k 0 + l.getD (k + 1) 0
  | [], k => by simp [nextRow]
  | [a], 0 => by simp [nextRow]
  | [a], k + 1 => by simp [nextRow]
  | a :: b :: r, 0 => by simp [nextRow]
  | a :: b :: r, k + 1 => by
    have := nextRow_at (b :: r) k
    simp only [nextRow, List.getD_cons_succ] at this ⊢
    rw [this]
theorem row_at : ∀ n k : Nat, (row n).getD k 0 = pas n k
  | 0, 0 => rfl
  | 0, k + 1 => by simp [row, pas]
  | n + 1, 0 => by simp [row, pas]
  | n + 1, k + 1 => by
    show (1 :: nextRow (row n)).getD (k + 1) 0 = pas n k + pas n (k + 1)
    rw [List.getD_cons_succ, nextRow_at, row_at n k, row_at n (k + 1)]
theorem pas_zero : ∀ n k : Nat, n < k → pas n k = 0
  | _, 0, h => by omega
  | 0, k + 1, _ => rfl
  | n + 1, k + 1, h => by rw [pas, pas_zero n k (by omega), pas_zero n (k + 1) (by omega)]
theorem pas_pos : ∀ n k : Nat, k ≤ n → 0 < pas n k
  | _, 0, _ => by simp [pas]
  | 0, k + 1, h => by omega
  | n + 1, k + 1, h => by rw [pas]; have := pas_pos n k (by omega); omega
theorem choose_dec : ∀ n k : Fin 41, lots_choose.f 60 (n.val : Int) (k.val : Int) = some ((row n.val).getD k.val 0 : Int) ∧ comfitref02_choose.f 60 (n.val : Int) (k.val : Int) = some ((row n.val).getD k.val 0 : Int) ∧ (row n.val).getD k.val 0 ≤ 137846528820 := by decide +kernel
theorem choose_ev (n k : Nat) (hn : n ≤ 40) (hk : k ≤ 40) : Ev (fun r => lots_choose.f r (n : Int) (k : Int)) (pas n k : Int) :=
  (Ev.of (fun r => lots_choose.mono _ _ r) 60 (choose_dec ⟨n, by omega⟩ ⟨k, by omega⟩).1).cast (by rw [row_at])
theorem ref_choose_ev (n k : Nat) (hn : n ≤ 40) (hk : k ≤ 40) : Ev (fun r => comfitref02_choose.f r (n : Int) (k : Int)) (pas n k : Int) :=
  (Ev.of (fun r => comfitref02_choose.mono _ _ r) 60 (choose_dec ⟨n, by omega⟩ ⟨k, by omega⟩).2.1).cast (by rw [row_at])
theorem pas_le (n k : Nat) (hn : n ≤ 40) (hk : k ≤ 40) : pas n k ≤ 137846528820 := by
  have := (choose_dec ⟨n, by omega⟩ ⟨k, by omega⟩).2.2
  rwa [row_at] at this

/-! ### Vandermonde's sum -/
/-- The sum of f below i. -/
def su (f : Nat → Nat) : Nat → Nat
  | 0 => 0
  | i + 1 => su f i + f i
theorem su_congr {f g : Nat → Nat} : ∀ i, (∀ k, k < i → f k = g k) → su f i = su g i
  | 0, _ => rfl
  | i + 1, h => by rw [su, su, su_congr i (fun k hk => h k (by omega)), h i (by omega)]
theorem su_add (f g : Nat → Nat) : ∀ i, su (fun k => f k + g k) i = su f i + su g i
  | 0 => rfl
  | i + 1 => by rw [su, su, su, su_add f g i]; omega
theorem su_head (f : Nat → Nat) : ∀ i, su f (i + 1) = f 0 + su (fun k => f (k + 1)) i
  | 0 => by simp [su]
  | i + 1 => by rw [su, su_head f i]; simp only [su]; omega
theorem su_zero {f : Nat → Nat} : ∀ i, (∀ k, k < i → f k = 0) → su f i = 0
  | 0, _ => rfl
  | i + 1, h => by rw [su, su_zero i (fun k hk => h k (by omega)), h i (by omega)]
theorem su_mono (f : Nat → Nat) : ∀ {i j : Nat}, i ≤ j → su f i ≤ su f j := by
  intro i j h
  induction h with
  | refl => exact Nat.le_refl _
  | step h ih => exact Nat.le_trans ih (by rw [su]; omega)
theorem su_mul (f : Nat → Nat) (c : Nat) : ∀ i, su f i * c = su (fun k => f k * c) i
  | 0 => by simp [su]
  | i + 1 => by rw [su, su, Nat.add_mul, su_mul f c i]
/-- The ways to take m of b bad and a good ones, k of them bad. -/
def tm (b a m k : Nat) : Nat := pas b k * pas a (m - k)
theorem vander : ∀ (b a m : Nat), su (tm b a m) (m + 1) = pas (b + a) m := by
  intro b
  induction b with
  | zero =>
    intro a m
    rw [su_head, su_zero]
    · simp [tm, pas]
    · intro k _
      simp [tm, pas]
  | succ b ih =>
    intro a m
    cases m with
    | zero => simp [su, tm, pas]
    | succ m =>
      rw [su_head]
      have e1 : su (fun k => tm (b + 1) a (m + 1) (k + 1)) (m + 1) = su (tm b a m) (m + 1) + su (fun k => tm b a (m + 1) (k + 1)) (m + 1) := by
        rw [← su_add]
        refine su_congr _ (fun k _ => ?_)
        show (pas b k + pas b (k + 1)) * pas a (m + 1 - (k + 1)) = pas b k * pas a (m - k) + pas b (k + 1) * pas a (m + 1 - (k + 1))
        rw [Nat.add_mul, show m + 1 - (k + 1) = m - k by omega]
      have e2 : tm (b + 1) a (m + 1) 0 + su (fun k => tm b a (m + 1) (k + 1)) (m + 1) = su (tm b a (m + 1)) (m + 1 + 1) := by
        rw [su_head (tm b a (m + 1)) (m + 1), show tm (b + 1) a (m + 1) 0 = tm b a (m + 1) 0 by simp [tm, pas]]
      rw [e1, show b + 1 + a = (b + a) + 1 by omega]
      show _ = pas (b + a) m + pas (b + a) (m + 1)
      rw [← ih a m, ← ih a (m + 1), ← e2]
      omega
/-- The sum that Finite takes. -/
def fin (n b m i : Nat) : Nat := su (tm b (n - b) m) i
theorem fin_le (n b m i : Nat) (hb : b ≤ n) (hi : i ≤ m + 1) : fin n b m i ≤ pas n m := by
  have h := su_mono (tm b (n - b) m) hi
  rw [vander, show b + (n - b) = n by omega] at h
  exact h
theorem tm_le (n b m i : Nat) (hb : b ≤ n) (hi : i ≤ m) : tm b (n - b) m i ≤ pas n m := by
  have h := fin_le n b m (i + 1) hb (by omega)
  have : fin n b m (i + 1) = fin n b m i + tm b (n - b) m i := rfl
  omega

/-! ### What Finite answers -/
theorem finite_go (n b m c : Nat) (hn : n ≤ 40) (hb : b ≤ n) (hm : m ≤ n) (hc : c ≤ m) : ∀ d i : Nat, i + d = c + 1 →
    Ev (fun k => lots_Finite.l0 k n b m (fin n b m i : Int) ((c : Int) + 1) i) ((fr (Rat.divInt (fin n b m (c + 1)) (pas n m))).1, (fr (Rat.divInt (fin n b m (c + 1)) (pas n m))).2, 0) ∧
    Ev (fun k => comfitref02_Finite.l0 k n b m (fin n b m i : Int) ((c : Int) + 1) i) (fr (Rat.divInt (fin n b m (c + 1)) (pas n m))) := by
  have hp := pas_le n m hn (by omega)
  have hp0 := pas_pos n m hm
  intro d
  induction d with
  | zero =>
    intro i hi
    obtain rfl : i = c + 1 := by omega
    have hf := fin_le n b m (c + 1) hb (by omega)
    refine ⟨Ev.succ (g := fun k => (lots_choose.f k n m).bind fun t231 => ((lots_frac.f k (fin n b m (c + 1) : Int) t231).bind fun bt232 => (some (bt232.1, bt232.2, 0)))) ?_ (fun k => by rw [lots_Finite.l0, if_neg (by omega)]),
      Ev.succ (g := fun k => (comfitref02_choose.f k n m).bind fun t237 => ((comfitref02_frac.f k (fin n b m (c + 1) : Int) t237).bind fun bt238 => (some (bt238.1, bt238.2)))) ?_ (fun k => by rw [comfitref02_Finite.l0, if_neg (by omega)])⟩
    · exact Ev.bind (choose_ev n m hn (by omega)) (Ev.bind (lots_frac_ev _ _ (by omega) (by omega) (by omega) (by omega)) (Ev.const rfl))
    · exact Ev.bind (ref_choose_ev n m hn (by omega)) (Ev.bind (ref_frac_ev _ _ (by omega) (by omega) (by omega) (by omega)) (Ev.const rfl))
  | succ d ih =>
    intro i hi
    have h1 := ih (i + 1) (by omega)
    have hf := fin_le n b m (i + 1) hb (by omega)
    have ht := tm_le n b m i hb (by omega)
    have e : fin n b m (i + 1) = fin n b m i + tm b (n - b) m i := rfl
    have ea : ((n : Int) - b) = ((n - b : Nat) : Int) := by omega
    have eb : ((m : Int) - i) = ((m - i : Nat) : Int) := by omega
    have em : (pas b i : Int) * (pas (n - b) (m - i) : Int) = ((tm b (n - b) m i : Nat) : Int) := by unfold tm; rw [Int.natCast_mul]
    have step : (wrap64 ((fin n b m i : Int) + wrap64 ((pas b i : Int) * (pas (n - b) (m - i) : Int)))) = (fin n b m (i + 1) : Int) := by
      rw [em, w_in (n := ((tm b (n - b) m i : Nat) : Int)) (by omega) (by omega), w_in (by omega) (by omega)]
      omega
    refine ⟨Ev.succ (g := fun k => (lots_choose.f k b i).bind fun t229 => ((lots_choose.f k (n - b : Nat) (m - i : Nat)).bind fun t230 => (lots_Finite.l0 k n b m (wrap64 ((fin n b m i : Int) + (wrap64 (t229 * t230)))) ((c : Int) + 1) ((i : Int) + 1)))) ?_ (fun k => by
        rw [lots_Finite.l0, if_pos (by omega), w_in (n := (n : Int) - b) (by omega) (by omega), w_in (n := (m : Int) - i) (by omega) (by omega), w_in (n := (i : Int) + 1) (by omega) (by omega), ea, eb]),
      Ev.succ (g := fun k => (comfitref02_choose.f k b i).bind fun t229 => ((comfitref02_choose.f k (n - b : Nat) (m - i : Nat)).bind fun t230 => (comfitref02_Finite.l0 k n b m (wrap64 ((fin n b m i : Int) + (wrap64 (t229 * t230)))) ((c : Int) + 1) ((i : Int) + 1)))) ?_ (fun k => by
        rw [comfitref02_Finite.l0, if_pos (by omega), w_in (n := (n : Int) - b) (by omega) (by omega), w_in (n := (m : Int) - i) (by omega) (by omega), w_in (n := (i : Int) + 1) (by omega) (by omega), ea, eb])⟩
    · refine Ev.bind (choose_ev b i (by omega) (by omega)) (Ev.bind (choose_ev (n - b) (m - i) (by omega) (by omega)) ?_)
      rw [step]
      exact h1.1
    · refine Ev.bind (ref_choose_ev b i (by omega) (by omega)) (Ev.bind (ref_choose_ev (n - b) (m - i) (by omega) (by omega)) ?_)
      rw [step]
      exact h1.2
/-- Numbers of a finite lot. -/
def okL (n b m c : Int) : Prop := 1 ≤ n ∧ n ≤ 40 ∧ 0 ≤ b ∧ b ≤ n ∧ 0 ≤ m ∧ m ≤ n ∧ 0 ≤ c ∧ c ≤ m
instance (n b m c : Int) : Decidable (okL n b m c) := by unfold okL; infer_instance
theorem Lot_ok (n b m c : Int) : comfitref02_Lot.f n b m c = some (decide (okL n b m c)) := by
  unfold comfitref02_Lot.f okL
  repeat' split
  all_goals simp only [Option.some.injEq]
  all_goals first
    | (symm; apply decide_eq_false; omega)
    | (apply decide_eq_decide.2; omega)
/-- What Finite answers to a finite lot. -/
def finA (n b m c : Int) : Int × Int := fr (Rat.divInt (fin n.toNat b.toNat m.toNat (c.toNat + 1)) (pas n.toNat m.toNat))
theorem Finite_ev (n b m c : Int) (h : okL n b m c) : Ev (fun k => lots_Finite.f k n b m c) ((finA n b m c).1, (finA n b m c).2, 0) := by
  obtain ⟨h1, h2, h3, h4, h5, h6, h7, h8⟩ := h
  obtain ⟨n, rfl⟩ := Int.eq_ofNat_of_zero_le (by omega : 0 ≤ n)
  obtain ⟨b, rfl⟩ := Int.eq_ofNat_of_zero_le h3
  obtain ⟨m, rfl⟩ := Int.eq_ofNat_of_zero_le h5
  obtain ⟨c, rfl⟩ := Int.eq_ofNat_of_zero_le h7
  refine Ev.succ (g := fun k => lots_Finite.l0 k n b m 0 ((c : Int) + 1) 0) ((finite_go n b m c (by omega) (by omega) (by omega) (by omega) (c + 1) 0 (by omega)).1) (fun k => ?_)
  unfold lots_Finite.f
  rw [if_neg (by omega), if_neg (by omega), if_neg (by omega), if_neg (by omega), if_neg (by omega), if_neg (by omega), if_neg (by omega), decide_eq_false (by omega), lots_Finite.j0, if_neg (by decide), w_in (n := (c : Int) + 1) (by omega) (by omega)]
theorem ref_Finite_ev (n b m c : Int) (h : okL n b m c) : Ev (fun k => comfitref02_Finite.f k n b m c) (finA n b m c) := by
  obtain ⟨h1, h2, h3, h4, h5, h6, h7, h8⟩ := h
  obtain ⟨n, rfl⟩ := Int.eq_ofNat_of_zero_le (by omega : 0 ≤ n)
  obtain ⟨b, rfl⟩ := Int.eq_ofNat_of_zero_le h3
  obtain ⟨m, rfl⟩ := Int.eq_ofNat_of_zero_le h5
  obtain ⟨c, rfl⟩ := Int.eq_ofNat_of_zero_le h7
  have e : (fun k => comfitref02_Finite.f k n b m c) = fun k => comfitref02_Finite.l0 k n b m 0 ((c : Int) + 1) 0 := by
    funext k
    unfold comfitref02_Finite.f
    rw [w_in (n := (c : Int) + 1) (by omega) (by omega)]
  rw [e]
  exact (finite_go n b m c (by omega) (by omega) (by omega) (by omega) (c + 1) 0 (by omega)).2
theorem Finite_no (n b m c : Int) (h : ¬ okL n b m c) : Ev (fun k => lots_Finite.f k n b m c) (0, 0, 2) := by
  have hj : ∀ k, lots_Finite.j0 (k + 1) n b m c true = some (0, 0, 2) := fun k => by rw [lots_Finite.j0, if_pos rfl]
  refine Ev.succ (g := fun k => lots_Finite.j0 (k + 1) n b m c true) ⟨0, fun k _ => hj k⟩ (fun k => ?_)
  unfold lots_Finite.f okL at *
  repeat' split
  all_goals first
    | rfl
    | (rw [decide_eq_true (by omega)])
end Go.Proofs.Ytdppnmfljfdhaaa.Pure
