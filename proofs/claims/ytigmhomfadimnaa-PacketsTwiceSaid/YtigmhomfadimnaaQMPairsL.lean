/- Plain laws of Pairs: what the program answers. No conditions but the sizes that the arguments have. -/
import Derived.Test.YtigmhomfadimnaaQMPairsR
import Derived.Test.YtigmhomfadimnaaQMTab
set_option linter.unusedVariables false
set_option linter.unusedSimpArgs false
namespace Go.Proofs.Ytigmhomfadimnaa.Pure
open Go.RowKit Go.Proofs.Ytigmhomfadimnaa.X Go.Proofs.YtigmhomfadimnaaW.PrintWords Go.Proofs.YtigmhomfadimnaaW.PrintLast Go.Proofs.YtigmhomfadimnaaW.PrintMore
theorem need_top {m : Nat} (hm : m ≤ 3) : (2 : Int) ^ m - 1 = ((2 ^ m - 1 : Nat) : Int) ∧ 2 ^ m - 1 < 8 := by
  have : m = 0 ∨ m = 1 ∨ m = 2 ∨ m = 3 := by omega
  rcases this with e | e | e | e <;> rw [e] <;> decide
theorem Pairs_ok {l : List Nat} (h : Small l) {T : List (Nat × Nat)} (hT : tabN l (3 ^ l.length) = some T) (hW : okW (cl l) = true) (s : Nat) (hs : s < 2 ^ l.length) : Ev (fun k => packets_Pairs.f k (cl l) (s : Int)) (((vT l T s).1 : Int), ((vT l T s).2 : Int), 0) := by
  obtain ⟨-, hT⟩ := tabN_is l _ T hT
  have hl := h.len
  obtain ⟨e1, e2⟩ := need_top hl
  have hs8 : s < 8 := Nat.lt_of_lt_of_le hs (Nat.le_trans (Nat.pow_le_pow_right (by omega) hl) (by decide))
  have hp := prog_ev h hT (need (2 ^ l.length - 1) s) (2 ^ l.length - 1) s e2 hs8 rfl (need_lt hl hs)
  unfold packets_Pairs.f
  have hS : okS (cl l) (s : Int) = true := (okS_iff _ _).2 ⟨hW, by omega, by rw [cl_len]; exact_mod_cast hs⟩
  refine Ev.bind (isSet_ev (cl l) (s : Int)) (Ev.ifPos hS (Ev.ifNeg (by rw [cl_len]; omega) ?_))
  rw [all_ok (cl l) (by rw [cl_len]; omega), cl_len, e1]
  exact Ev.bind (g := fun _ => some _) (Ev.const rfl) (Ev.bind hp (Ev.const rfl))
theorem Pairs_bad (l : List Int) (s : Int) (h : okS l s = false ∨ l.length > 3) : Ev (fun k => packets_Pairs.f k l s) (0, 0, 2) := by
  unfold packets_Pairs.f
  refine Ev.bind (isSet_ev l s) ?_
  cases hS : okS l s with
  | false => exact Ev.ifNeg (by simp) (Ev.const rfl)
  | true =>
    have : l.length > 3 := by simpa [hS] using h
    exact Ev.ifPos rfl (Ev.ifPos (by omega) (Ev.const rfl))
end Go.Proofs.Ytigmhomfadimnaa.Pure
