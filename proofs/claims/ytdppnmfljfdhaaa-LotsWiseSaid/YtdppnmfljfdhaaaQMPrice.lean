/- Plain laws: what a plan's price is, the program's and the reference's. -/
import Derived.Test.YtdppnmfljfdhaaaQMChance
import Derived.Test.YtdppnmfljfdhaaaQHChances
import Derived.Test.YtdppnmfljfdhaaaQX0
import Derived.Test.YtdppnmfljfdhaaaQXP
import Derived.Test.YtdppnmfljfdhaaaQXlotstestcost
import Derived.Test.YtdppnmfljfdhaaaQXlotstestvalid
import Derived.Test.YtdppnmfljfdhaaaQXlotstestwhole
import Derived.Test.YtdppnmfljfdhaaaQHEnds
import Derived.Test.YtdppnmfljfdhaaaQXR
set_option linter.unusedVariables false
set_option linter.unusedSimpArgs false
namespace Go.Proofs.Ytdppnmfljfdhaaa.Pure
open Go.RowKit Go.Proofs.Ytdppnmfljfdhaaa.X Go.Proofs.YtdppnmfljfdhaaaW.PrintWords Go.Proofs.YtdppnmfljfdhaaaW.PrintLast Go.Proofs.YtdppnmfljfdhaaaW.PrintMore

section
variable {l0 l1 : List Int} {y o : Int}
end

/-! ### The cost of an end -/
section
variable {gy go by_ bo wy wo tk lv : Int}
def wOI (y o o' part : Int) (n k b : Nat) : Int := part * y ^ b * (o - y) ^ (k - b) * o ^ (n - k) * o' ^ n
theorem wOf_ev (y o y' o' part : Int) (n k b : Nat) (hn : n ≤ 12) (hbk : b ≤ k) (hkn : k ≤ n) (ho : 0 ≤ o ∧ o ≤ 12) (hy : 0 ≤ y ∧ y ≤ o) : Ev (fun r => wOf.f r y o y' o' part k b n) (wrap64 (wOI y o o' part n k b)) := by
  have a1 : wrap64 (o - y) = o - y := w_in (by omega) (by omega)
  have a2 : wrap64 ((k : Int) - b) = ((k - b : Nat) : Int) := by rw [w_in (by omega) (by omega)]; omega
  have a3 : wrap64 ((n : Int) - k) = ((n - k : Nat) : Int) := by rw [w_in (by omega) (by omega)]; omega
  unfold wOf.f
  rw [a1, a2, a3]
  refine Ev.bind (lots_power_ev y b (by omega) (by omega)) (Ev.bind (lots_power_ev (o - y) _ (by omega) (by omega)) (Ev.bind (lots_power_ev o _ (by omega) (by omega)) (Ev.bind (lots_power_ev o' n (by omega) (by omega)) (Ev.const ?_))))
  have key : ∀ a b c d e : Int, wrap64 (wrap64 (wrap64 (wrap64 (a * wrap64 b) * wrap64 c) * wrap64 d) * wrap64 e) = wrap64 (a * b * c * d * e) := fun a b c d e => by rw [w_mulr a b, w_mul (a * b) c, w_mul (a * b * c) d, w_mul (a * b * c * d) e]
  rw [key, show ((b : Int)).toNat = b by omega, show (((k - b : Nat) : Int)).toNat = k - b by omega, show (((n - k : Nat) : Int)).toNat = n - k by omega, show ((n : Int)).toNat = n by omega]
  rfl
def costI (gy go by_ bo wy wo tk lv : Int) (n : Nat) (e : S81) : Int :=
  (wOI gy go bo wy n e.f0.toNat e.f1.toNat + wOI by_ bo go (wo - wy) n e.f0.toNat e.f1.toNat) * e.f0 + (if e.f2 = 1 then wOI by_ bo go (wo - wy) n e.f0.toNat e.f1.toNat * tk else wOI gy go bo wy n e.f0.toNat e.f1.toNat * lv)
theorem cost_ev (n : Nat) (hn : n ≤ 12) (hg : okC gy go) (hb : okC by_ bo) (hw : okC wy wo) (e : S81) (he : Good n e) : Ev (fun r => lots_test_cost.f r gy go by_ bo wy wo tk lv e.f0 e.f1 e.f2 e.f3 n) (wrap64 (costI gy go by_ bo wy wo tk lv n e)) := by
  obtain ⟨k, b, e0, e1, hbk, hkn⟩ := he
  obtain ⟨g1, g2, g3, g4⟩ := hg
  obtain ⟨b1, b2, b3, b4⟩ := hb
  obtain ⟨w1, w2, w3, w4⟩ := hw
  have a1 : wrap64 (wo - wy) = wo - wy := w_in (by omega) (by omega)
  unfold lots_test_cost.f lots_test_weights.f costI
  rw [e0, e1, a1, show ((b : Int)).toNat = b by omega, show ((k : Int)).toNat = k by omega]
  have hu := wOf_ev gy go by_ bo wy n k b hn hbk hkn ⟨by omega, g2⟩ ⟨g3, g4⟩
  have hv := wOf_ev by_ bo gy go (wo - wy) n k b hn hbk hkn ⟨by omega, b2⟩ ⟨b3, b4⟩
  refine Ev.bind (Ev.bind hu (Ev.bind hv (f := fun _ v => some (wrap64 (wOI gy go bo wy n k b), v)) (Ev.const rfl))) ?_
  generalize wOI gy go bo wy n k b = u
  generalize wOI by_ bo go (wo - wy) n k b = v
  by_cases h1 : e.f2 = 1
  · refine Ev.ifPos h1 (Ev.const ?_)
    rw [if_pos h1, w_add u v, w_mull (u + v), w_mull v, w_add]
  · refine Ev.ifNeg h1 (Ev.const ?_)
    rw [if_neg h1, w_add u v, w_mull (u + v), w_mull u, w_add]
def okW (tk lv : Int) : Prop := 0 ≤ tk ∧ tk ≤ 100 ∧ 0 ≤ lv ∧ lv ≤ 100
instance (tk lv : Int) : Decidable (okW tk lv) := by unfold okW; infer_instance
theorem pow6 (o : Int) (h1 : 1 ≤ o) (h : o ≤ 12) (n : Nat) (hn : n ≤ 6) : 1 ≤ o ^ n ∧ o ^ n ≤ 2985984 := by
  refine ⟨pow_pos' o h1 n, Int.le_trans (pow_le12 o (by omega) h n) ?_⟩
  have h : (12 : Nat) ^ n ≤ 12 ^ 6 := Nat.pow_le_pow_right (by omega) hn
  have e : ((12 ^ n : Nat) : Int) = (12 : Int) ^ n := by push_cast; rfl
  rw [← e]
  have : (12 : Nat) ^ 6 = 2985984 := by decide
  omega
theorem mul_le_of {a b c d : Int} (h0 : 0 ≤ a) (h1 : a ≤ c) (h2 : 0 ≤ b) (h3 : b ≤ d) : 0 ≤ a * b ∧ a * b ≤ c * d :=
  ⟨Int.mul_nonneg h0 h2, Int.le_trans (Int.mul_le_mul_of_nonneg_right h1 h2) (Int.mul_le_mul_of_nonneg_left h3 (by omega))⟩
theorem whole_bound (n : Nat) (hn : n ≤ 6) (hg : okC gy go) (hb : okC by_ bo) (hw : okC wy wo) : 1 ≤ wo * go ^ n * bo ^ n ∧ wo * go ^ n * bo ^ n ≤ 106993205379072 := by
  have pg := pow6 go hg.1 hg.2.1 n hn
  have pb := pow6 bo hb.1 hb.2.1 n hn
  have h1 := mul_le_of (show 0 ≤ wo by have := hw.1; omega) hw.2.1 (show 0 ≤ go ^ n by omega) pg.2
  have h2 := mul_le_of h1.1 h1.2 (show 0 ≤ bo ^ n by omega) pb.2
  have h3 : 0 < wo * go ^ n * bo ^ n := Int.mul_pos (Int.mul_pos (by have := hw.1; omega) (by omega)) (by omega)
  omega
theorem whole_ev (n : Nat) (hn : n ≤ 12) : Ev (fun r => lots_test_whole.f r gy go by_ bo wy wo tk lv n) (wrap64 (wo * go ^ n * bo ^ n)) := by
  unfold lots_test_whole.f
  refine Ev.bind (lots_power_ev go n (by omega) (by omega)) (Ev.bind (lots_power_ev bo n (by omega) (by omega)) (Ev.const ?_))
  rw [show ((n : Int)).toNat = n by omega, w_mulr wo, w_mul]
theorem test_ok : lots_test_valid.f gy go by_ bo wy wo tk lv = some (decide (okC gy go ∧ okC by_ bo ∧ okC wy wo ∧ okW tk lv)) := by
  unfold lots_test_valid.f lots_chances.f
  simp only [Option.bind_some, List.all_cons, List.all_nil, Bool.and_true]
  have e : ∀ y o : Int, okCb y o = decide (okC y o) := fun y o => rfl
  rw [e, e, e]
  by_cases h1 : okC gy go ∧ okC by_ bo ∧ okC wy wo
  · obtain ⟨h1, h2, h3⟩ := h1
    rw [decide_eq_true h1, decide_eq_true h2, decide_eq_true h3]
    simp only [Bool.and_true, if_true]
    unfold mn mx okW
    by_cases h4 : 0 ≤ tk ∧ tk ≤ 100 ∧ 0 ≤ lv ∧ lv ≤ 100
    · rw [if_pos (by split <;> omega), decide_eq_true (by split <;> omega), decide_eq_true ⟨h1, h2, h3, h4⟩]
    · rw [decide_eq_false (p := okC gy go ∧ _) (fun h => h4 h.2.2.2)]
      repeat' split
      all_goals first
        | rfl
        | (simp only [Option.some.injEq]; apply decide_eq_false; omega)
  · rw [if_neg, decide_eq_false (fun h => h1 ⟨h.1, h.2.1, h.2.2.1⟩)]
    simp only [Bool.and_eq_true, decide_eq_true_eq]
    exact h1
theorem Cost_ok (tk lv : Int) : comfitref02_Cost.f tk lv = some (decide (okW tk lv)) := by
  unfold comfitref02_Cost.f okW
  repeat' split
  all_goals simp only [Option.some.injEq]
  all_goals first
    | (symm; apply decide_eq_false; omega)
    | (apply decide_eq_decide.2; omega)
end
end Go.Proofs.Ytdppnmfljfdhaaa.Pure
