/- The law of brackets at all piles of at most 7 leaves, reckoned by the kernel. -/
import Derived.Test.YtmlbdkkdejecmaaDoorQMBase
import Derived.Test.YtmlbdkkdejecmaaDoorQXcomfittopTopBrackets
set_option linter.unusedVariables false
set_option linter.unusedSimpArgs false
namespace Go.Proofs.YtmlbdkkdejecmaaDoor.Pure
open Go.RowKit Go.Proofs.YtmlbdkkdejecmaaDoor.X Go.Proofs.YtmlbdkkdejecmaaDoorW.PrintWords Go.Proofs.YtmlbdkkdejecmaaDoorW.PrintLast
/-- Does the law hold of a pile? -/
def chk (p : List Nat) : Bool := comfittop_TopBrackets.f 300 (p.map fun x : Nat => (x : Int)) == some true
/-- Does it of all that go on so, with d leaves more? -/
def allP (n : Nat) : Nat → List Nat → Bool
  | 0, p => chk p
  | d + 1, p => (List.range n).all fun x => p.contains x || allP n d (p ++ [x])
theorem allP_spec (n : Nat) : ∀ (d : Nat) (p : List Nat), allP n d p = true → ∀ q : List Nat, q.length = d → (∀ x ∈ q, x < n) → (p ++ q).Nodup → chk (p ++ q) = true := by
  intro d
  induction d with
  | zero =>
    intro p h q hq _ _
    obtain rfl := List.length_eq_zero_iff.mp hq
    rw [List.append_nil]
    exact h
  | succ d ih =>
    intro p h q hq hr hn
    match q, hq with
    | x :: q, hq =>
      have hx := hr x (by simp)
      have h1 := List.all_eq_true.mp h x (List.mem_range.mpr hx)
      have hxp : p.contains x = false := by
        rw [Bool.eq_false_iff]
        intro hc
        have hm : x ∈ p := by simpa using hc
        exact (List.nodup_append.mp hn).2.2 x hm x (by simp) rfl
      rw [hxp, Bool.false_or] at h1
      have := ih (p ++ [x]) h1 q (by simpa using hq) (fun y hy => hr y (by simp [hy])) (by simpa using hn)
      simpa using this
theorem piles1 : allP 1 1 [] = true := by decide +kernel
theorem piles2 : allP 2 2 [] = true := by decide +kernel
theorem piles3 : allP 3 3 [] = true := by decide +kernel
theorem piles4 : allP 4 4 [] = true := by decide +kernel
theorem piles5 : allP 5 5 [] = true := by decide +kernel
theorem piles6 : allP 6 6 [] = true := by decide +kernel
end Go.Proofs.YtmlbdkkdejecmaaDoor.Pure
