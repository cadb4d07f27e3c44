/- Plain laws for the least price: all bounds for taking and leaving, place by place, give the same least price. -/
import Derived.Test.YtdppnmfljfdhaaaQMThresh
set_option linter.unusedVariables false
set_option linter.unusedSimpArgs false
namespace Go.Proofs.Ytdppnmfljfdhaaa.Pure
open Go.RowKit Go.Proofs.Ytdppnmfljfdhaaa.X Go.Proofs.YtdppnmfljfdhaaaW.PrintWords Go.Proofs.YtdppnmfljfdhaaaW.PrintLast Go.Proofs.YtdppnmfljfdhaaaW.PrintMore

/-! ### The program's least price, by masses -/
theorem mn_shift (z a b : Int) : mn (z + a) (z + b) = z + mn a b := by unfold mn; repeat' split; all_goals omega
section
variable {t : T8}
def T8.mU (t : T8) (n k b : Nat) : Int := t.py * t.bo ^ n * t.gy ^ b * (t.go - t.gy) ^ (k - b)
def T8.mV (t : T8) (n k b : Nat) : Int := (t.po - t.py) * t.go ^ n * t.by_ ^ b * (t.bo - t.by_) ^ (k - b)
theorem T8.mU_zero (n k b : Nat) (h : b ≤ k) : t.mU n (k + 1) b = t.mU n k b * (t.go - t.gy) := by
  unfold T8.mU
  rw [show k + 1 - b = (k - b) + 1 by omega, Int.pow_succ, ← Int.mul_assoc]
theorem T8.mU_one (n k b : Nat) : t.mU n (k + 1) (b + 1) = t.mU n k b * t.gy := by
  unfold T8.mU
  rw [show k + 1 - (b + 1) = k - b by omega, Int.pow_succ]
  generalize t.gy ^ b = p
  generalize (t.go - t.gy) ^ (k - b) = q
  generalize t.bo ^ n = r
  grind
theorem T8.mV_zero (n k b : Nat) (h : b ≤ k) : t.mV n (k + 1) b = t.mV n k b * (t.bo - t.by_) := by
  unfold T8.mV
  rw [show k + 1 - b = (k - b) + 1 by omega, Int.pow_succ, ← Int.mul_assoc]
theorem T8.mV_one (n k b : Nat) : t.mV n (k + 1) (b + 1) = t.mV n k b * t.by_ := by
  unfold T8.mV
  rw [show k + 1 - (b + 1) = k - b by omega, Int.pow_succ]
  generalize t.by_ ^ b = p
  generalize (t.bo - t.by_) ^ (k - b) = q
  generalize t.go ^ n = r
  grind
theorem T8.wOI_U (n k b : Nat) : wOI t.gy t.go t.bo t.py n k b = t.mU n k b * t.go ^ (n - k) := by
  unfold wOI T8.mU
  generalize t.gy ^ b = p
  generalize (t.go - t.gy) ^ (k - b) = q
  generalize t.bo ^ n = r
  generalize t.go ^ (n - k) = s
  grind
theorem T8.wOI_V (n k b : Nat) : wOI t.by_ t.bo t.go (t.po - t.py) n k b = t.mV n k b * t.bo ^ (n - k) := by
  unfold wOI T8.mV
  generalize t.by_ ^ b = p
  generalize (t.bo - t.by_) ^ (k - b) = q
  generalize t.go ^ n = r
  generalize t.bo ^ (n - k) = s
  grind
theorem T8.mI_eq (n k b : Nat) : t.mI n k b = (t.mU n k b * t.go ^ (n - k) + t.mV n k b * t.bo ^ (n - k)) * k + mn (t.tk * t.mV n k b * t.bo ^ (n - k)) (t.lv * t.mU n k b * t.go ^ (n - k)) := by
  unfold T8.mI
  rw [T8.cA_eq, T8.cA_eq, if_pos rfl, if_neg (by decide), T8.wOI_U, T8.wOI_V, mn_shift]
  congr 2
  · rw [Int.mul_comm t.tk, Int.mul_assoc, Int.mul_assoc, Int.mul_comm t.tk]
  · rw [Int.mul_comm t.lv, Int.mul_assoc, Int.mul_assoc, Int.mul_comm t.lv]
theorem T8.wI_E (n : Nat) : ∀ d k b : Nat, k + d = n → 1 ≤ k → b ≤ k → t.wI n d k b = (t.mU n k b * t.go ^ d + t.mV n k b * t.bo ^ d) * k + t.E d (t.mU n k b) (t.mV n k b) := by
  intro d
  induction d with
  | zero =>
    intro k b hk h1 hb
    show t.mI n k b = _
    rw [T8.mI_eq, show n - k = 0 by omega]
    simp [T8.E]
  | succ d ih =>
    intro k b hk h1 hb
    have a := ih (k + 1) b (by omega) (by omega) (by omega)
    have c := ih (k + 1) (b + 1) (by omega) (by omega) (by omega)
    rw [T8.mU_zero n k b hb, T8.mV_zero n k b hb] at a
    rw [T8.mU_one, T8.mV_one] at c
    have hc : t.wI n d (k + 1) b + t.wI n d (k + 1) (b + 1) = (t.mU n k b * t.go ^ (d + 1) + t.mV n k b * t.bo ^ (d + 1)) * k + t.C d (t.mU n k b) (t.mV n k b) := by
      rw [a, c]
      unfold T8.C
      rw [Int.pow_succ, Int.pow_succ]
      generalize t.E d (t.mU n k b * (t.go - t.gy)) (t.mV n k b * (t.bo - t.by_)) = e1
      generalize t.E d (t.mU n k b * t.gy) (t.mV n k b * t.by_) = e2
      generalize t.mU n k b = U
      generalize t.mV n k b = V
      generalize t.go ^ d = p
      generalize t.bo ^ d = q
      push_cast
      grind
    have hm := T8.mI_eq (t := t) n k b
    rw [show n - k = d + 1 by omega] at hm
    rw [T8.wI_succ, if_neg (by omega), hc, hm, T8.E_succ]
    exact mn_shift _ _ _
theorem T8.wI_top (n : Nat) (hn : 1 ≤ n) : t.wI n n 0 0 = t.C (n - 1) (t.py * t.bo ^ n) ((t.po - t.py) * t.go ^ n) := by
  obtain ⟨d, rfl⟩ : ∃ d, n = d + 1 := ⟨n - 1, by omega⟩
  have a := T8.wI_E (t := t) (d + 1) d 1 0 (by omega) (by omega) (by omega)
  have c := T8.wI_E (t := t) (d + 1) d 1 1 (by omega) (by omega) (by omega)
  have u0 : t.mU (d + 1) 0 0 = t.py * t.bo ^ (d + 1) := by simp [T8.mU]
  have v0 : t.mV (d + 1) 0 0 = (t.po - t.py) * t.go ^ (d + 1) := by simp [T8.mV]
  rw [show (1 : Nat) = 0 + 1 from rfl, T8.mU_zero _ 0 0 (by omega), T8.mV_zero _ 0 0 (by omega), u0, v0] at a
  have c' : t.wI (d + 1) d 1 1 = (t.py * t.bo ^ (d + 1) * t.gy * t.go ^ d + (t.po - t.py) * t.go ^ (d + 1) * t.by_ * t.bo ^ d) * (1 : Nat) + t.E d (t.py * t.bo ^ (d + 1) * t.gy) ((t.po - t.py) * t.go ^ (d + 1) * t.by_) := by
    have e1 : t.mU (d + 1) 1 1 = t.py * t.bo ^ (d + 1) * t.gy := by rw [← u0]; exact T8.mU_one (d + 1) 0 0
    have e2 : t.mV (d + 1) 1 1 = (t.po - t.py) * t.go ^ (d + 1) * t.by_ := by rw [← v0]; exact T8.mV_one (d + 1) 0 0
    rw [← e1, ← e2]
    exact c
  rw [T8.wI_succ, if_pos rfl, a, show (0 : Nat) + 1 = 1 from rfl, c', show d + 1 - 1 = d by omega]
  unfold T8.C
  rw [Int.pow_succ t.go d, Int.pow_succ t.bo d]
  generalize t.E d (t.py * (t.bo ^ d * t.bo) * (t.go - t.gy)) ((t.po - t.py) * (t.go ^ d * t.go) * (t.bo - t.by_)) = e1
  generalize t.E d (t.py * (t.bo ^ d * t.bo) * t.gy) ((t.po - t.py) * (t.go ^ d * t.go) * t.by_) = e2
  generalize t.go ^ d = p
  generalize t.bo ^ d = q
  push_cast
  grind
end
/-! ### What one level's bounds give -/
/-- One item more: the masses by bad items. -/
def nxX (y o : Int) (x : Nat → Int) (b : Nat) : Int := x b * (o - y) + (if b = 0 then 0 else x (b - 1) * y)
/-- What goes on. -/
def midF (f : Nat → Int) (m l : Nat) (b : Nat) : Int := if b < m then 0 else if l ≤ b then 0 else f b
section
variable {t : T8}
/-- What is paid from the k-th item on at least, where d more may follow: x and y are the masses by bad items ahead of it. -/
def T8.V (t : T8) (d k : Nat) (x y : Nat → Int) : Int := sI (fun i => x i * t.go * t.go ^ d + y i * t.bo * t.bo ^ d) k + sI (fun b => t.E d (nxX t.gy t.go x b) (nxX t.by_ t.bo y b)) (k + 1)
/-- What is paid at the places below m (taking) and from l on (leaving). -/
def T8.stop (t : T8) (d k : Nat) (u v : Nat → Int) (m l : Nat) : Int := sI (fun b => if b < m then t.tk * v b * t.bo ^ d else if l ≤ b then t.lv * u b * t.go ^ d else 0) (k + 1)
/-- Masses as they come. -/
structure T8.Form (t : T8) (k : Nat) (u v : Nat → Int) : Prop where
  ex : ∃ (w : Nat → Int) (P Q : Int), (∀ b, 0 ≤ w b) ∧ 0 ≤ P ∧ 0 ≤ Q ∧ (∀ b, k < b → w b = 0) ∧ (∀ b, u b = w b * (P * t.gy ^ b * (t.go - t.gy) ^ (k - b))) ∧ (∀ b, v b = w b * (Q * t.by_ ^ b * (t.bo - t.by_) ^ (k - b)))
theorem T8.Form.mid {k : Nat} {u v : Nat → Int} (h : t.Form k u v) (m l : Nat) : t.Form k (midF u m l) (midF v m l) := by
  obtain ⟨w, P, Q, h1, h2, h3, h4, h5, h6⟩ := h.ex
  refine ⟨midF w m l, P, Q, fun b => ?_, h2, h3, fun b hb => ?_, fun b => ?_, fun b => ?_⟩
  · unfold midF; split; · exact Int.le_refl _
    split; · exact Int.le_refl _
    exact h1 b
  · unfold midF; split; · rfl
    split; · rfl
    exact h4 b hb
  · unfold midF; split; · simp
    split; · simp
    exact h5 b
  · unfold midF; split; · simp
    split; · simp
    exact h6 b
theorem T8.Form.next {k : Nat} {u v : Nat → Int} (h : t.Form k u v) : t.Form (k + 1) (nxX t.gy t.go u) (nxX t.by_ t.bo v) := by
  obtain ⟨w, P, Q, h1, h2, h3, h4, h5, h6⟩ := h.ex
  have key : ∀ (y o R : Int) (f : Nat → Int), (∀ b, f b = w b * (R * y ^ b * (o - y) ^ (k - b))) → ∀ b, nxX y o f b = (w b + (if b = 0 then 0 else w (b - 1))) * (R * y ^ b * (o - y) ^ (k + 1 - b)) := by
    intro y o R f hf b
    unfold nxX
    rw [hf b]
    have e1 : w b * (R * y ^ b * (o - y) ^ (k - b)) * (o - y) = w b * (R * y ^ b * (o - y) ^ (k + 1 - b)) := by
      by_cases hb : b ≤ k
      · rw [show k + 1 - b = (k - b) + 1 by omega, Int.pow_succ]
        generalize y ^ b = p
        generalize (o - y) ^ (k - b) = q
        grind
      · rw [h4 b (by omega)]; simp
    rw [e1, Int.add_mul]
    congr 1
    by_cases h0 : b = 0
    · rw [if_pos h0, if_pos h0, Int.zero_mul]
    · rw [if_neg h0, if_neg h0, hf (b - 1)]
      obtain ⟨c, rfl⟩ : ∃ c, b = c + 1 := ⟨b - 1, by omega⟩
      rw [show c + 1 - 1 = c by omega, show k + 1 - (c + 1) = k - c by omega, Int.pow_succ]
      generalize y ^ c = p
      generalize (o - y) ^ (k - c) = q
      grind
  refine ⟨fun b => w b + (if b = 0 then 0 else w (b - 1)), P, Q, fun b => ?_, h2, h3, fun b hb => ?_, key _ _ _ u h5, key _ _ _ v h6⟩
  · have := h1 b
    dsimp only
    split
    · omega
    · have := h1 (b - 1); omega
  · have a := h4 b (by omega)
    have c := h4 (b - 1) (by omega)
    simp only [a, c]
    split <;> rfl
theorem T8.Form.nonneg (hO : t.Ok) {k : Nat} {u v : Nat → Int} (h : t.Form k u v) : (∀ b, 0 ≤ u b) ∧ ∀ b, 0 ≤ v b := by
  obtain ⟨w, P, Q, h1, h2, h3, h4, h5, h6⟩ := h.ex
  have hg := hO.g
  have hb := hO.b
  constructor
  · intro b
    rw [h5 b]
    exact Int.mul_nonneg (h1 b) (Int.mul_nonneg (Int.mul_nonneg h2 (pow_nonneg' _ hg.2.2.1 _)) (pow_nonneg' _ (by have := hg.2.2.2; omega) _))
  · intro b
    rw [h6 b]
    exact Int.mul_nonneg (h1 b) (Int.mul_nonneg (Int.mul_nonneg h3 (pow_nonneg' _ hb.2.2.1 _)) (pow_nonneg' _ (by have := hb.2.2.2; omega) _))
/-- The bad lots' share grows with the bad items. -/
theorem T8.Form.ratio (hO : t.Ok) (hm : t.gy * t.bo ≤ t.by_ * t.go) {k : Nat} {u v : Nat → Int} (h : t.Form k u v) : ∀ i j, i < j → v i * u j ≤ v j * u i := by
  obtain ⟨w, P, Q, h1, h2, h3, h4, h5, h6⟩ := h.ex
  intro i j hij
  have hg := hO.g
  have hb := hO.b
  by_cases hj : k < j
  · rw [h5 j, h6 j, h4 j hj]; simp
  · rw [h5 i, h5 j, h6 i, h6 j]
    have e1 : t.by_ ^ j = t.by_ ^ i * t.by_ ^ (j - i) := by rw [← Int.pow_add]; congr 1; omega
    have e2 : t.gy ^ j = t.gy ^ i * t.gy ^ (j - i) := by rw [← Int.pow_add]; congr 1; omega
    have e3 : (t.go - t.gy) ^ (k - i) = (t.go - t.gy) ^ (k - j) * (t.go - t.gy) ^ (j - i) := by rw [← Int.pow_add]; congr 1; omega
    have e4 : (t.bo - t.by_) ^ (k - i) = (t.bo - t.by_) ^ (k - j) * (t.bo - t.by_) ^ (j - i) := by rw [← Int.pow_add]; congr 1; omega
    rw [e1, e2, e3, e4]
    have hr : (t.gy * (t.bo - t.by_)) ^ (j - i) ≤ (t.by_ * (t.go - t.gy)) ^ (j - i) := by
      refine (pow_mono' (Int.mul_nonneg hg.2.2.1 (by have := hb.2.2.2; omega)) ?_ _).2
      rw [Int.mul_sub, Int.mul_sub, Int.mul_comm t.by_ t.gy]
      omega
    rw [Int.mul_pow, Int.mul_pow] at hr
    have c1 : 0 ≤ w i * w j * P * Q * (t.by_ ^ i) * (t.gy ^ i) * ((t.go - t.gy) ^ (k - j)) * ((t.bo - t.by_) ^ (k - j)) := by
      refine Int.mul_nonneg (Int.mul_nonneg (Int.mul_nonneg (Int.mul_nonneg (Int.mul_nonneg (Int.mul_nonneg (Int.mul_nonneg (h1 i) (h1 j)) h2) h3) ?_) ?_) ?_) ?_
      · exact pow_nonneg' _ hb.2.2.1 _
      · exact pow_nonneg' _ hg.2.2.1 _
      · exact pow_nonneg' _ (by have := hg.2.2.2; omega) _
      · exact pow_nonneg' _ (by have := hb.2.2.2; omega) _
    have c2 := Int.mul_le_mul_of_nonneg_left hr c1
    generalize t.by_ ^ i = a1 at *
    generalize t.gy ^ i = a2 at *
    generalize (t.go - t.gy) ^ (k - j) = a3 at *
    generalize (t.bo - t.by_) ^ (k - j) = a4 at *
    generalize t.by_ ^ (j - i) = a5 at *
    generalize t.gy ^ (j - i) = a6 at *
    generalize (t.go - t.gy) ^ (j - i) = a7 at *
    generalize (t.bo - t.by_) ^ (j - i) = a8 at *
    generalize w i = wi at *
    generalize w j = wj at *
    have l1 : wi * (Q * a1 * (a4 * a8)) * (wj * (P * (a2 * a6) * a3)) = wi * wj * P * Q * a1 * a2 * a3 * a4 * (a6 * a8) := by grind
    have l2 : wj * (Q * (a1 * a5) * a4) * (wi * (P * a2 * (a3 * a7))) = wi * wj * P * Q * a1 * a2 * a3 * a4 * (a5 * a7) := by grind
    rw [l1, l2]
    exact c2
theorem sI_next (F : Nat → Int) (G : Nat → Int) (k : Nat) (hF : F (k + 1) = 0) : sI (fun b => F b + (if b = 0 then 0 else G (b - 1))) (k + 1 + 1) = sI (fun b => F b + G b) (k + 1) := by
  rw [sI_add, sI_add, show sI F (k + 1 + 1) = sI F (k + 1) + F (k + 1) from rfl, hF, sI_head (fun b => if b = 0 then 0 else G (b - 1)) (k + 1)]
  simp
/-- What goes on costs what going on costs at each place. -/
theorem T8.V_next {k : Nat} {u v : Nat → Int} (h : t.Form k u v) (e : Nat) : t.V e (k + 1) u v = sI (fun b => t.C e (u b) (v b)) (k + 1) := by
  obtain ⟨w, P, Q, h1, h2, h3, h4, h5, h6⟩ := h.ex
  have hE : ∀ b, t.E e (nxX t.gy t.go u b) (nxX t.by_ t.bo v b) = t.E e (u b * (t.go - t.gy)) (v b * (t.bo - t.by_)) + (if b = 0 then 0 else t.E e (u (b - 1) * t.gy) (v (b - 1) * t.by_)) := by
    intro b
    unfold nxX
    by_cases h0 : b = 0
    · simp only [if_pos h0, Int.add_zero]
    · simp only [if_neg h0]
      obtain ⟨c, rfl⟩ : ∃ c, b = c + 1 := ⟨b - 1, by omega⟩
      rw [show c + 1 - 1 = c by omega]
      by_cases hc : c + 1 ≤ k
      · have a1 : u (c + 1) * (t.go - t.gy) = w (c + 1) * (P * t.gy ^ (c + 1) * (t.go - t.gy) ^ (k - c)) := by
          rw [h5, show (t.go - t.gy) ^ (k - c) = (t.go - t.gy) ^ (k - (c + 1)) * (t.go - t.gy) by rw [← Int.pow_succ]; congr 1; omega]
          generalize t.gy ^ (c + 1) = p
          generalize (t.go - t.gy) ^ (k - (c + 1)) = q
          grind
        have a2 : v (c + 1) * (t.bo - t.by_) = w (c + 1) * (Q * t.by_ ^ (c + 1) * (t.bo - t.by_) ^ (k - c)) := by
          rw [h6, show (t.bo - t.by_) ^ (k - c) = (t.bo - t.by_) ^ (k - (c + 1)) * (t.bo - t.by_) by rw [← Int.pow_succ]; congr 1; omega]
          generalize t.by_ ^ (c + 1) = p
          generalize (t.bo - t.by_) ^ (k - (c + 1)) = q
          grind
        have a3 : u c * t.gy = w c * (P * t.gy ^ (c + 1) * (t.go - t.gy) ^ (k - c)) := by
          rw [h5, Int.pow_succ]
          generalize t.gy ^ c = p
          generalize (t.go - t.gy) ^ (k - c) = q
          grind
        have a4 : v c * t.by_ = w c * (Q * t.by_ ^ (c + 1) * (t.bo - t.by_) ^ (k - c)) := by
          rw [h6, Int.pow_succ]
          generalize t.by_ ^ c = p
          generalize (t.bo - t.by_) ^ (k - c) = q
          grind
        rw [a1, a2, a3, a4, ← Int.add_mul, ← Int.add_mul, T8.E_scale _ (by have := h1 c; have := h1 (c + 1); omega), T8.E_scale _ (h1 _), T8.E_scale _ (h1 _), Int.add_mul]
      · have z1 : u (c + 1) = 0 := by rw [h5, h4 (c + 1) (by omega), Int.zero_mul]
        have z2 : v (c + 1) = 0 := by rw [h6, h4 (c + 1) (by omega), Int.zero_mul]
        rw [z1, z2]
        simp [T8.E_zero]
  have z1 : u (k + 1) = 0 := by rw [h5, h4 (k + 1) (by omega), Int.zero_mul]
  have z2 : v (k + 1) = 0 := by rw [h6, h4 (k + 1) (by omega), Int.zero_mul]
  unfold T8.V
  rw [sI_congr (k + 1 + 1) (fun b _ => hE b), sI_next (fun b => t.E e (u b * (t.go - t.gy)) (v b * (t.bo - t.by_))) (fun b => t.E e (u b * t.gy) (v b * t.by_)) k (by rw [z1, z2]; simp [T8.E_zero]), ← sI_add]
  refine sI_congr _ (fun b _ => ?_)
  unfold T8.C
  rw [Int.pow_succ, Int.pow_succ]
  generalize t.E e (u b * (t.go - t.gy)) (v b * (t.bo - t.by_)) = x1
  generalize t.E e (u b * t.gy) (v b * t.by_) = x2
  generalize t.go ^ e = p
  generalize t.bo ^ e = q
  grind
/-- With bounds m and l the cost is at least the least one ... -/
theorem T8.Ok.cand_ge (hO : t.Ok) {k : Nat} {u v : Nat → Int} (h : t.Form k u v) (e m l : Nat) : sI (fun b => t.E (e + 1) (u b) (v b)) (k + 1) ≤ t.stop (e + 1) k u v m l + t.V e (k + 1) (midF u m l) (midF v m l) := by
  rw [T8.V_next (h.mid m l)]
  unfold T8.stop
  rw [← sI_add]
  refine sI_le _ (fun b _ => ?_)
  unfold midF
  by_cases h1 : b < m
  · simp only [if_pos h1, T8.C_zero, Int.add_zero]; exact T8.E_take _ _ _
  · by_cases h2 : l ≤ b
    · simp only [if_neg h1, if_pos h2, T8.C_zero, Int.add_zero]; exact T8.E_leave _ _ _
    · simp only [if_neg h1, if_neg h2, Int.zero_add]; exact T8.E_go _ _ _
theorem T8.Ok.cand0_ge (hO : t.Ok) {k : Nat} {u v : Nat → Int} (h : t.Form k u v) (m : Nat) : sI (fun b => t.E 0 (u b) (v b)) (k + 1) ≤ t.stop 0 k u v m m := by
  unfold T8.stop
  refine sI_le _ (fun b _ => ?_)
  by_cases h1 : b < m
  · rw [if_pos h1]; exact T8.E_take _ _ _
  · rw [if_neg h1, if_pos (by omega)]; exact T8.E_leave _ _ _
/-- ... and some bounds reach it. -/
theorem T8.Ok.cand_eq (hO : t.Ok) (hm : t.gy * t.bo ≤ t.by_ * t.go) {k : Nat} {u v : Nat → Int} (h : t.Form k u v) (e : Nat) : ∃ m l : Nat, m ≤ l ∧ l ≤ k + 1 ∧ t.stop (e + 1) k u v m l + t.V e (k + 1) (midF u m l) (midF v m l) = sI (fun b => t.E (e + 1) (u b) (v b)) (k + 1) := by
  obtain ⟨h1, h2⟩ := h.nonneg hO
  obtain ⟨m, l, a1, a2, _, a4, a5, a6⟩ := hO.bounds (e + 1) k u v h1 h2 (h.ratio hO hm)
  refine ⟨m, l, a1, a2, ?_⟩
  rw [T8.V_next (h.mid m l)]
  unfold T8.stop
  rw [← sI_add]
  refine sI_congr _ (fun b hb => ?_)
  unfold midF
  by_cases h3 : b < m
  · simp only [if_pos h3, T8.C_zero, Int.add_zero]; exact (a4 b h3).symm
  · by_cases h4 : l ≤ b
    · simp only [if_neg h3, if_pos h4, T8.C_zero, Int.add_zero]; exact (a5 b h4 hb).symm
    · simp only [if_neg h3, if_neg h4, Int.zero_add]; exact (a6 e b rfl (by omega) (by omega)).symm
theorem T8.Ok.cand0_eq (hO : t.Ok) (hm : t.gy * t.bo ≤ t.by_ * t.go) {k : Nat} {u v : Nat → Int} (h : t.Form k u v) : ∃ m : Nat, m ≤ k + 1 ∧ t.stop 0 k u v m m = sI (fun b => t.E 0 (u b) (v b)) (k + 1) := by
  obtain ⟨h1, h2⟩ := h.nonneg hO
  obtain ⟨m, l, a1, a2, a3, a4, a5, _⟩ := hO.bounds 0 k u v h1 h2 (h.ratio hO hm)
  obtain rfl := a3 rfl
  refine ⟨l, a2, ?_⟩
  unfold T8.stop
  refine sI_congr _ (fun b hb => ?_)
  by_cases h3 : b < l
  · rw [if_pos h3]; exact (a4 b h3).symm
  · rw [if_neg h3, if_pos (by omega)]; exact (a5 b (by omega) hb).symm
end
end Go.Proofs.Ytdppnmfljfdhaaa.Pure
