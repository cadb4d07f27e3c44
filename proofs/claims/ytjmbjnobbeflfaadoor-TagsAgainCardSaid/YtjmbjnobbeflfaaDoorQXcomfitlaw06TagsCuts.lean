/- Written by a program of this session (wip/tools/xprint.py, which calls the kit's print): Go functions as Lean functions, and for each the proof that the machine's call does what it says; no conditions but those that each theorem names. -/
import Derived.Test.YtjmbjnobbeflfaaDoorQX0
import Derived.Test.YtjmbjnobbeflfaaDoorQXC
import Derived.Test.YtjmbjnobbeflfaaDoorQXE
import Derived.Test.YtjmbjnobbeflfaaDoorQXRC
import Derived.Test.YtjmbjnobbeflfaaDoorQXT
import Derived.Test.YtjmbjnobbeflfaaDoorQHCutter
import Derived.Test.YtjmbjnobbeflfaaDoorQHRun
namespace Go.Proofs.YtjmbjnobbeflfaaDoor.X
open Go.RowKit Go.Proofs.YtjmbjnobbeflfaaDoorW.PrintWords Go.Proofs.YtjmbjnobbeflfaaDoorW.PrintLast Go.Proofs.YtjmbjnobbeflfaaDoorW.PrintMore
attribute [local go_sem] max2_int min2_int max_two min_two max_three min_three max_four min_four   -- for this text's walks alone
set_option linter.unusedVariables false
set_option linter.unusedSimpArgs false

/-! ### comfitlaw06_TagsCuts: function 4 -/
def comfitlaw06_TagsCuts.j0 : Nat → Int → ByteArray → Int → ByteArray → Int → Int → Bool → ByteArray → ByteArray → ByteArray → ByteArray → Option (Bool)
 | 0, _, _, _, _, _, _, _, _, _, _, _ => none
 | k + 1, x0, x2, x3, x11, x12, x13, x81, x173000, x173001, x173002, x173003 => if x81 = true then (none) else (if x3 < 0 then (if x11.toList = ([] : List UInt8) then (if x12 = 0 then (some (x13 == 2)) else (none)) else (none)) else (if x3 > 1000 then (if x11.toList = ([] : List UInt8) then (if x12 = 0 then (some (x13 == 2)) else (none)) else (none)) else ((comfitref06_Run.f k x0 x173000 x173001 x173002 x173003 x2 x3).bind fun bt185 => (if x11.toList = bt185.1.toList then (if x12 = bt185.2.1 then (some (x13 == bt185.2.2)) else (none)) else (none)))))
def comfitlaw06_TagsCuts.f (k : Nat) (a0 : Int) (a1_0 : ByteArray) (a1_1 : ByteArray) (a1_2 : ByteArray) (a1_3 : ByteArray) (a2 : ByteArray) (a3 : Int) : Option (Bool) := (comfitlaw06_text.f a2).bind fun t173 => ((tags_Cut.f a0 a1_0 a1_1 a1_2 a1_3 t173).bind fun bt174 => ((comfitlaw06_text.f a2).bind fun t176 => ((tags_Run.f a0 a1_0 a1_1 a1_2 a1_3 t176 a3).bind fun bt177 => ((comfitref06_Cutter.f a0 a1_0 a1_1 a1_2 a1_3 a2).bind fun t180 => (if t180 = true then ((comfitref06_Cut.f a0 a1_0 a1_1 a1_2 a1_3 a2).bind fun bt182 => (if bt174.1.toList = bt182.1.toList then (if bt174.2 = bt182.2 then ((comfitlaw06_awake.f k).bind fun t184 => (comfitlaw06_TagsCuts.j0 k a0 a2 a3 bt177.1 bt177.2.1 bt177.2.2 (!t184) a1_0 a1_1 a1_2 a1_3)) else (comfitlaw06_TagsCuts.j0 k a0 a2 a3 bt177.1 bt177.2.1 bt177.2.2 true a1_0 a1_1 a1_2 a1_3)) else (comfitlaw06_TagsCuts.j0 k a0 a2 a3 bt177.1 bt177.2.1 bt177.2.2 true a1_0 a1_1 a1_2 a1_3))) else (if bt174.1.toList = ([] : List UInt8) then (if bt177.1.toList = ([] : List UInt8) then (if bt177.2.1 = 0 then (if bt174.2 = 2 then (if bt177.2.2 = 2 then ((comfitlaw06_awake.f k).bind fun t181 => (some t181)) else (none)) else (none)) else (none)) else (none)) else (none)))))))
end Go.Proofs.YtjmbjnobbeflfaaDoor.X
