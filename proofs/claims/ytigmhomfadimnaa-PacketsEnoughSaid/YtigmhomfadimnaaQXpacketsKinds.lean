/- Written by a program of this session (wip/tools/xprint.py, which calls the kit's print): Go functions as Lean functions, and for each the proof that the machine's call does what it says; no conditions but those that each theorem names. -/
import Derived.Test.YtigmhomfadimnaaQX0
import Derived.Test.YtigmhomfadimnaaQXP
import Derived.Test.YtigmhomfadimnaaQXV
import Derived.Test.YtigmhomfadimnaaQHDone
namespace Go.Proofs.Ytigmhomfadimnaa.X
open Go.RowKit Go.Proofs.YtigmhomfadimnaaW.PrintWords Go.Proofs.YtigmhomfadimnaaW.PrintLast Go.Proofs.YtigmhomfadimnaaW.PrintMore
attribute [local go_sem] max2_int min2_int max_two min_two max_three min_three max_four min_four   -- for this text's walks alone
set_option linter.unusedVariables false
set_option linter.unusedSimpArgs false

/-! ### packets_Kinds: function 32 -/
mutual
def packets_Kinds.j0 : Nat → List Int → Int → List Int → Bool → Option (Int × Int × Int)
 | 0, _, _, _, _ => none
 | k + 1, x0, x1, x6, x17 => if x17 = true then (some (0, 0, 2)) else (packets_Kinds.l0 k x1 x6 0 (x0.length : Int) 0)
def packets_Kinds.l0 : Nat → Int → List Int → Int → Int → Int → Option (Int × Int × Int)
 | 0, _, _, _, _, _ => none
 | k + 1, x1, x6, x7, x20, x21 => if x21 < x20 then (if 0 ≤ x21 then ((packets_weights_done.f k x6 (shl .i64 1 x21) x1).bind fun t352 => (packets_Kinds.l0 k x1 x6 (wrap64 (x7 + t352)) x20 (wrap64 (x21 + 1)))) else (none)) else ((packets_weights_all.f x6).bind fun t353 => ((packets_weights_of.f k x6 t353).bind fun t354 => ((packets_power.f k t354 x1).bind fun t355 => ((packets_frac.f k x7 t355).bind fun bt356 => (some (bt356.1, bt356.2, 0))))))
end
def packets_Kinds.f (k : Nat) (l0 : List Int) (a1 : Int) : Option (Int × Int × Int) := (packets_weights_valid.f k l0).bind fun t350 => (if t350 = true then ((packets_isCount.f a1).bind fun t351 => (packets_Kinds.j0 k l0 a1 l0 (!t351))) else (packets_Kinds.j0 k l0 a1 l0 true))
end Go.Proofs.Ytigmhomfadimnaa.X
