/- Written by a program of this session (wip/tools/xprint.py, which calls the kit's print): Go functions as Lean functions, and for each the proof that the machine's call does what it says; no conditions but those that each theorem names. -/
import Derived.Test.YtigmhomfadimnaaQX0
import Derived.Test.YtigmhomfadimnaaQXL
import Derived.Test.YtigmhomfadimnaaQXS
import Derived.Test.YtigmhomfadimnaaQXSL
import Derived.Test.YtigmhomfadimnaaQXcomfitlaw04awake
import Derived.Test.YtigmhomfadimnaaQXcomfitlaw04list
import Derived.Test.YtigmhomfadimnaaQXpacketsDone
import Derived.Test.YtigmhomfadimnaaQXpacketsKinds
namespace Go.Proofs.Ytigmhomfadimnaa.X
open Go.RowKit Go.Proofs.YtigmhomfadimnaaW.PrintWords Go.Proofs.YtigmhomfadimnaaW.PrintLast Go.Proofs.YtigmhomfadimnaaW.PrintMore
attribute [local go_sem] max2_int min2_int max_two min_two max_three min_three max_four min_four   -- for this text's walks alone
set_option linter.unusedVariables false
set_option linter.unusedSimpArgs false

/-! ### comfitlaw04_PacketsGrow: function 11 -/
mutual
def comfitlaw04_PacketsGrow.j0 : Nat → List Int → Int → Int → Int → Int → Bool → Int → Int → Option (Bool)
 | 0, _, _, _, _, _, _, _, _ => none
 | k + 1, x0, x1, x2, x3, x10, x42, x480000, x480001 => if x42 = true then (if x10 = 2 then ((comfitlaw04_awake.f k).bind fun t481 => (some t481)) else (some false)) else (if (shl .u64 1 (x0.length : Int)) = 0 then (none) else ((comfitlaw04_list.f x0).bind fun t482 => ((packets_Done.f k t482 (Go.bits .or .i64 x1 (wrap64 (Int.tmod (IntKind.u64.wrap (x3)) (shl .u64 1 (x0.length : Int))))) x2).bind fun bt485 => (if bt485.2.2 = 0 then ((comfitlaw04_right.f x480000 x480001 1).bind fun t489 => (if t489 = true then ((comfitlaw04_right.f bt485.1 bt485.2.1 1).bind fun t490 => (if t490 = true then ((comfitref04_Less.f k x480000 x480001 bt485.1 bt485.2.1).bind fun t491 => (comfitlaw04_PacketsGrow.j1 k x0 x1 x2 t491 x480000 x480001)) else (comfitlaw04_PacketsGrow.j1 k x0 x1 x2 true x480000 x480001))) else (comfitlaw04_PacketsGrow.j1 k x0 x1 x2 true x480000 x480001))) else (comfitlaw04_PacketsGrow.j1 k x0 x1 x2 true x480000 x480001)))))
def comfitlaw04_PacketsGrow.j1 : Nat → List Int → Int → Int → Bool → Int → Int → Option (Bool)
 | 0, _, _, _, _, _, _ => none
 | k + 1, x0, x1, x2, x81, x480000, x480001 => if x81 = true then (some false) else (if x2 = 8 then ((comfitlaw04_awake.f k).bind fun t492 => (some t492)) else ((comfitlaw04_list.f x0).bind fun t493 => ((packets_Done.f k t493 x1 (wrap64 (x2 + 1))).bind fun bt496 => ((comfitlaw04_list.f x0).bind fun t500 => ((packets_Kinds.f k t500 x2).bind fun bt503 => ((comfitlaw04_list.f x0).bind fun t507 => ((packets_Kinds.f k t507 (wrap64 (x2 + 1))).bind fun bt510 => (if bt496.2.2 = 0 then (if bt503.2.2 = 0 then (if bt510.2.2 = 0 then ((comfitlaw04_right.f bt496.1 bt496.2.1 1).bind fun t514 => (if t514 = true then ((comfitlaw04_right.f bt503.1 bt503.2.1 6).bind fun t515 => (if t515 = true then ((comfitlaw04_right.f bt510.1 bt510.2.1 6).bind fun t516 => (if t516 = true then ((comfitref04_Less.f k bt496.1 bt496.2.1 x480000 x480001).bind fun t517 => (if t517 = true then (some false) else ((comfitref04_Less.f k bt510.1 bt510.2.1 bt503.1 bt503.2.1).bind fun t518 => (if t518 = true then (some false) else ((comfitlaw04_awake.f k).bind fun t519 => (some t519)))))) else (some false))) else (some false))) else (some false))) else (some false)) else (some false)) else (some false)))))))))
end
def comfitlaw04_PacketsGrow.f (k : Nat) (l0 : List Int) (a1 : Int) (a2 : Int) (a3 : Int) : Option (Bool) := (comfitlaw04_list.f l0).bind fun t473 => ((packets_Done.f k t473 a1 a2).bind fun bt476 => (if bt476.2.2 = 0 then ((comfitref04_Set.f k l0 a1).bind fun t480 => (if t480 = true then (if a2 < 0 then (comfitlaw04_PacketsGrow.j0 k l0 a1 a2 a3 bt476.2.2 true bt476.1 bt476.2.1) else (comfitlaw04_PacketsGrow.j0 k l0 a1 a2 a3 bt476.2.2 (decide (a2 > 8)) bt476.1 bt476.2.1)) else (comfitlaw04_PacketsGrow.j0 k l0 a1 a2 a3 bt476.2.2 true bt476.1 bt476.2.1))) else (comfitlaw04_PacketsGrow.j0 k l0 a1 a2 a3 bt476.2.2 true bt476.1 bt476.2.1)))
/-- THE ONE PURE STATEMENT of comfitlaw04_PacketsGrow: yours. -/
def comfitlaw04_PacketsGrow.Pure : Prop := ∀ (l0 : List Int) (a1 : Int) (a2 : Int) (a3 : Int), l0.length ≤ maxLen → l0.length * 8 ≤ 140737488351232 → (∀ x ∈ l0, (Lit.int .i64 x).wf = true) → (Lit.int .i64 a1).wf = true → (Lit.int .i64 a2).wf = true → (Lit.int .i64 a3).wf = true → ∃ k, comfitlaw04_PacketsGrow.f k l0 a1 a2 a3 = some true
end Go.Proofs.Ytigmhomfadimnaa.X
