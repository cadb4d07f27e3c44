/- Written by a program of this session (wip/tools/xprint.py, which calls the kit's print): Go functions as Lean functions, and for each the proof that the machine's call does what it says; no conditions but those that each theorem names. -/
import Derived.Test.YtjmbjnobbeflfaaDoorQX0
import Derived.Test.YtjmbjnobbeflfaaDoorQXC
import Derived.Test.YtjmbjnobbeflfaaDoorQXE
import Derived.Test.YtjmbjnobbeflfaaDoorQXT
import Derived.Test.YtjmbjnobbeflfaaDoorQHCutter
import Derived.Test.YtjmbjnobbeflfaaDoorQHRun
namespace Go.Proofs.YtjmbjnobbeflfaaDoor.X
open Go.RowKit Go.Proofs.YtjmbjnobbeflfaaDoorW.PrintWords Go.Proofs.YtjmbjnobbeflfaaDoorW.PrintLast Go.Proofs.YtjmbjnobbeflfaaDoorW.PrintMore
attribute [local go_sem] max2_int min2_int max_two min_two max_three min_three max_four min_four   -- for this text's walks alone
set_option linter.unusedVariables false
set_option linter.unusedSimpArgs false

/-! ### comfitlaw06_TagsParts: function 5 -/
def comfitlaw06_TagsParts.j0 : Nat → Int → ByteArray → ByteArray → Bool → ByteArray → ByteArray → ByteArray → ByteArray → Option (Bool)
 | 0, _, _, _, _, _, _, _, _ => none
 | k + 1, x0, x2, x13, x143, x189000, x189001, x189002, x189003 => if x143 = true then (some false) else ((tags_Cut.f x0 x189000 x189001 x189002 x189003 x2).bind fun bt204 => (if (x2.size : Int) < x0 then (if bt204.2 = 4 then (if x13.toList = x2.toList then ((comfitlaw06_awake.f k).bind fun t206 => (some t206)) else (some false)) else (some false)) else (if 0 < (x2.size : Int) then (if (((bt x2 0) - 97) % 256) = 0 then (if bt204.2 = 0 then (if (bt204.1.size : Int) = (wrap64 ((wrap64 ((x2.size : Int) - x0)) + (x189000.size : Int))) then ((comfitlaw06_awake.f k).bind fun t207 => (some t207)) else (if bt204.2 = 6 then (if (wrap64 ((wrap64 ((x2.size : Int) - x0)) + (x189000.size : Int))) > 200 then ((comfitlaw06_awake.f k).bind fun t208 => (some t208)) else (some false)) else (some false))) else (if bt204.2 = 6 then (if (wrap64 ((wrap64 ((x2.size : Int) - x0)) + (x189000.size : Int))) > 200 then ((comfitlaw06_awake.f k).bind fun t209 => (some t209)) else (some false)) else (some false))) else (if (((bt x2 0) - 97) % 256) = 1 then (if bt204.2 = 0 then (if (bt204.1.size : Int) = (wrap64 ((wrap64 ((x2.size : Int) - x0)) + (x189001.size : Int))) then ((comfitlaw06_awake.f k).bind fun t210 => (some t210)) else (if bt204.2 = 6 then (if (wrap64 ((wrap64 ((x2.size : Int) - x0)) + (x189001.size : Int))) > 200 then ((comfitlaw06_awake.f k).bind fun t211 => (some t211)) else (some false)) else (some false))) else (if bt204.2 = 6 then (if (wrap64 ((wrap64 ((x2.size : Int) - x0)) + (x189001.size : Int))) > 200 then ((comfitlaw06_awake.f k).bind fun t212 => (some t212)) else (some false)) else (some false))) else (if (((bt x2 0) - 97) % 256) = 2 then (if bt204.2 = 0 then (if (bt204.1.size : Int) = (wrap64 ((wrap64 ((x2.size : Int) - x0)) + (x189002.size : Int))) then ((comfitlaw06_awake.f k).bind fun t213 => (some t213)) else (if bt204.2 = 6 then (if (wrap64 ((wrap64 ((x2.size : Int) - x0)) + (x189002.size : Int))) > 200 then ((comfitlaw06_awake.f k).bind fun t214 => (some t214)) else (some false)) else (some false))) else (if bt204.2 = 6 then (if (wrap64 ((wrap64 ((x2.size : Int) - x0)) + (x189002.size : Int))) > 200 then ((comfitlaw06_awake.f k).bind fun t215 => (some t215)) else (some false)) else (some false))) else (if (((bt x2 0) - 97) % 256) = 3 then (if bt204.2 = 0 then (if (bt204.1.size : Int) = (wrap64 ((wrap64 ((x2.size : Int) - x0)) + (x189003.size : Int))) then ((comfitlaw06_awake.f k).bind fun t216 => (some t216)) else (if bt204.2 = 6 then (if (wrap64 ((wrap64 ((x2.size : Int) - x0)) + (x189003.size : Int))) > 200 then ((comfitlaw06_awake.f k).bind fun t217 => (some t217)) else (some false)) else (some false))) else (if bt204.2 = 6 then (if (wrap64 ((wrap64 ((x2.size : Int) - x0)) + (x189003.size : Int))) > 200 then ((comfitlaw06_awake.f k).bind fun t218 => (some t218)) else (some false)) else (some false))) else (none))))) else (none))))
def comfitlaw06_TagsParts.f (k : Nat) (a0 : Int) (a1_0 : ByteArray) (a1_1 : ByteArray) (a1_2 : ByteArray) (a1_3 : ByteArray) (a2 : ByteArray) (a3 : Int) (a4 : Int) : Option (Bool) := (comfitref06_Cutter.f a0 a1_0 a1_1 a1_2 a1_3 a2).bind fun t189 => (if t189 = true then ((tags_Run.f a0 a1_0 a1_1 a1_2 a1_3 a2 (wrap64 (Int.tmod (IntKind.u64.wrap (a3)) 500))).bind fun bt194 => ((tags_Run.f a0 a1_0 a1_1 a1_2 a1_3 a2 (wrap64 ((wrap64 (Int.tmod (IntKind.u64.wrap (a3)) 500)) + (wrap64 (Int.tmod (IntKind.u64.wrap (a4)) 500))))).bind fun bt197 => (if bt194.2.2 = 0 then ((tags_Run.f a0 a1_0 a1_1 a1_2 a1_3 bt194.1 (wrap64 (Int.tmod (IntKind.u64.wrap (a4)) 500))).bind fun bt201 => (if bt201.2.2 = bt197.2.2 then (if bt194.2.1 = (wrap64 (Int.tmod (IntKind.u64.wrap (a3)) 500)) then (if bt201.2.2 = 0 then (if bt201.1.toList = bt197.1.toList then (if (wrap64 (bt194.2.1 + bt201.2.1)) = bt197.2.1 then (if bt194.2.1 < (wrap64 (Int.tmod (IntKind.u64.wrap (a3)) 500)) then (if bt201.1.toList = bt194.1.toList then (if bt201.2.1 = 0 then (if bt197.1.toList = bt194.1.toList then (comfitlaw06_TagsParts.j0 k a0 a2 bt194.1 (bt197.2.1 != bt194.2.1) a1_0 a1_1 a1_2 a1_3) else (comfitlaw06_TagsParts.j0 k a0 a2 bt194.1 true a1_0 a1_1 a1_2 a1_3)) else (comfitlaw06_TagsParts.j0 k a0 a2 bt194.1 true a1_0 a1_1 a1_2 a1_3)) else (comfitlaw06_TagsParts.j0 k a0 a2 bt194.1 true a1_0 a1_1 a1_2 a1_3)) else (comfitlaw06_TagsParts.j0 k a0 a2 bt194.1 false a1_0 a1_1 a1_2 a1_3)) else (comfitlaw06_TagsParts.j0 k a0 a2 bt194.1 true a1_0 a1_1 a1_2 a1_3)) else (comfitlaw06_TagsParts.j0 k a0 a2 bt194.1 true a1_0 a1_1 a1_2 a1_3)) else (if bt194.2.1 < (wrap64 (Int.tmod (IntKind.u64.wrap (a3)) 500)) then (comfitlaw06_TagsParts.j0 k a0 a2 bt194.1 true a1_0 a1_1 a1_2 a1_3) else (comfitlaw06_TagsParts.j0 k a0 a2 bt194.1 false a1_0 a1_1 a1_2 a1_3))) else (if bt194.2.1 < (wrap64 (Int.tmod (IntKind.u64.wrap (a3)) 500)) then (if bt201.2.2 = 0 then (if bt201.1.toList = bt194.1.toList then (if bt201.2.1 = 0 then (if bt197.1.toList = bt194.1.toList then (comfitlaw06_TagsParts.j0 k a0 a2 bt194.1 (bt197.2.1 != bt194.2.1) a1_0 a1_1 a1_2 a1_3) else (comfitlaw06_TagsParts.j0 k a0 a2 bt194.1 true a1_0 a1_1 a1_2 a1_3)) else (comfitlaw06_TagsParts.j0 k a0 a2 bt194.1 true a1_0 a1_1 a1_2 a1_3)) else (comfitlaw06_TagsParts.j0 k a0 a2 bt194.1 true a1_0 a1_1 a1_2 a1_3)) else (comfitlaw06_TagsParts.j0 k a0 a2 bt194.1 true a1_0 a1_1 a1_2 a1_3)) else (comfitlaw06_TagsParts.j0 k a0 a2 bt194.1 false a1_0 a1_1 a1_2 a1_3))) else (comfitlaw06_TagsParts.j0 k a0 a2 bt194.1 true a1_0 a1_1 a1_2 a1_3))) else (if bt194.2.2 = 6 then (if bt197.2.2 = bt194.2.2 then ((comfitlaw06_awake.f k).bind fun t200 => (some t200)) else (some false)) else (some false))))) else ((comfitlaw06_text.f a2).bind fun t190 => ((tags_Cut.f a0 a1_0 a1_1 a1_2 a1_3 t190).bind fun bt191 => (if bt191.2 = 2 then ((comfitlaw06_awake.f k).bind fun t193 => (some t193)) else (some false)))))
def comfitlaw06_TagsParts.T2 : Bool × List (List Nat × List Nat) := (true, [([], []), ([], []), ([], []), ([2], [2]), ([0, 1, 3, 3], [0, 1, 3]), ([4], [4]), ([5], [5]), ([5], [5]), ([6, 4, 0, 1, 2, 3, 4, 5, 6], [6]), ([7, 8, 0, 1, 2, 3, 4, 5, 6, 7, 8], [7])])
def comfitlaw06_TagsParts.B2 : List Nat := [0, 0, 0, 4, 15, 31, 63, 63, 127, 511]
theorem comfitlaw06_TagsParts.tab2 : rtab .any (opsOf Tryd.f5 2) = comfitlaw06_TagsParts.T2 := by kernel_rfl
theorem comfitlaw06_TagsParts.bits2 : waitsOk comfitlaw06_TagsParts.T2.2 comfitlaw06_TagsParts.B2 = true := by kernel_rfl
set_option maxHeartbeats 8000000 in
set_option maxRecDepth 100000 in
theorem comfitlaw06_TagsParts.calls (k : Nat) (a0 : Int) (a1_0 : ByteArray) (a1_1 : ByteArray) (a1_2 : ByteArray) (a1_3 : ByteArray) (a2 : ByteArray) (a3 : Int) (a4 : Int) (r : Bool) (w : World) (h : comfitlaw06_TagsParts.f k a0 a1_0 a1_1 a1_2 a1_3 a2 a3 a4 = some r) :
  Calls Tryd.prog 5 #[.int .i64 a0, .agg #[.string a1_0, .string a1_1, .string a1_2, .string a1_3], .string a2, .int .i64 a3, .int .i64 a4] w fun e w' => e = .returned (.bool r) ∧ Below w.heap.size w w' := by
 have hu22 := Tryd.underlying22
 have HB := Aside0.mk (Below.refl w.heap.size w)
 have H : ((comfitref06_Cutter.f a0 a1_0 a1_1 a1_2 a1_3 a2).bind fun t189 => (if t189 = true then ((tags_Run.f a0 a1_0 a1_1 a1_2 a1_3 a2 (wrap64 (Int.tmod (IntKind.u64.wrap (a3)) 500))).bind fun bt194 => ((tags_Run.f a0 a1_0 a1_1 a1_2 a1_3 a2 (wrap64 ((wrap64 (Int.tmod (IntKind.u64.wrap (a3)) 500)) + (wrap64 (Int.tmod (IntKind.u64.wrap (a4)) 500))))).bind fun bt197 => (if bt194.2.2 = 0 then ((tags_Run.f a0 a1_0 a1_1 a1_2 a1_3 bt194.1 (wrap64 (Int.tmod (IntKind.u64.wrap (a4)) 500))).bind fun bt201 => (if bt201.2.2 = bt197.2.2 then (if bt194.2.1 = (wrap64 (Int.tmod (IntKind.u64.wrap (a3)) 500)) then (if bt201.2.2 = 0 then (if bt201.1.toList = bt197.1.toList then (if (wrap64 (bt194.2.1 + bt201.2.1)) = bt197.2.1 then (if bt194.2.1 < (wrap64 (Int.tmod (IntKind.u64.wrap (a3)) 500)) then (if bt201.1.toList = bt194.1.toList then (if bt201.2.1 = 0 then (if bt197.1.toList = bt194.1.toList then (comfitlaw06_TagsParts.j0 k a0 a2 bt194.1 (bt197.2.1 != bt194.2.1) a1_0 a1_1 a1_2 a1_3) else (comfitlaw06_TagsParts.j0 k a0 a2 bt194.1 true a1_0 a1_1 a1_2 a1_3)) else (comfitlaw06_TagsParts.j0 k a0 a2 bt194.1 true a1_0 a1_1 a1_2 a1_3)) else (comfitlaw06_TagsParts.j0 k a0 a2 bt194.1 true a1_0 a1_1 a1_2 a1_3)) else (comfitlaw06_TagsParts.j0 k a0 a2 bt194.1 false a1_0 a1_1 a1_2 a1_3)) else (comfitlaw06_TagsParts.j0 k a0 a2 bt194.1 true a1_0 a1_1 a1_2 a1_3)) else (comfitlaw06_TagsParts.j0 k a0 a2 bt194.1 true a1_0 a1_1 a1_2 a1_3)) else (if bt194.2.1 < (wrap64 (Int.tmod (IntKind.u64.wrap (a3)) 500)) then (comfitlaw06_TagsParts.j0 k a0 a2 bt194.1 true a1_0 a1_1 a1_2 a1_3) else (comfitlaw06_TagsParts.j0 k a0 a2 bt194.1 false a1_0 a1_1 a1_2 a1_3))) else (if bt194.2.1 < (wrap64 (Int.tmod (IntKind.u64.wrap (a3)) 500)) then (if bt201.2.2 = 0 then (if bt201.1.toList = bt194.1.toList then (if bt201.2.1 = 0 then (if bt197.1.toList = bt194.1.toList then (comfitlaw06_TagsParts.j0 k a0 a2 bt194.1 (bt197.2.1 != bt194.2.1) a1_0 a1_1 a1_2 a1_3) else (comfitlaw06_TagsParts.j0 k a0 a2 bt194.1 true a1_0 a1_1 a1_2 a1_3)) else (comfitlaw06_TagsParts.j0 k a0 a2 bt194.1 true a1_0 a1_1 a1_2 a1_3)) else (comfitlaw06_TagsParts.j0 k a0 a2 bt194.1 true a1_0 a1_1 a1_2 a1_3)) else (comfitlaw06_TagsParts.j0 k a0 a2 bt194.1 true a1_0 a1_1 a1_2 a1_3)) else (comfitlaw06_TagsParts.j0 k a0 a2 bt194.1 false a1_0 a1_1 a1_2 a1_3))) else (comfitlaw06_TagsParts.j0 k a0 a2 bt194.1 true a1_0 a1_1 a1_2 a1_3))) else (if bt194.2.2 = 6 then (if bt197.2.2 = bt194.2.2 then ((comfitlaw06_awake.f k).bind fun t200 => (some t200)) else (some false)) else (some false))))) else ((comfitlaw06_text.f a2).bind fun t190 => ((tags_Cut.f a0 a1_0 a1_1 a1_2 a1_3 t190).bind fun bt191 => (if bt191.2 = 2 then ((comfitlaw06_awake.f k).bind fun t193 => (some t193)) else (some false)))))) = some r := h
 clear h
 replace H := Option.bind_eq_some_iff.mp H
 obtain ⟨t189, A60, H⟩ := H
 replace H : (if t189 = true then ((tags_Run.f a0 a1_0 a1_1 a1_2 a1_3 a2 (wrap64 (Int.tmod (IntKind.u64.wrap (a3)) 500))).bind fun bt194 => ((tags_Run.f a0 a1_0 a1_1 a1_2 a1_3 a2 (wrap64 ((wrap64 (Int.tmod (IntKind.u64.wrap (a3)) 500)) + (wrap64 (Int.tmod (IntKind.u64.wrap (a4)) 500))))).bind fun bt197 => (if bt194.2.2 = 0 then ((tags_Run.f a0 a1_0 a1_1 a1_2 a1_3 bt194.1 (wrap64 (Int.tmod (IntKind.u64.wrap (a4)) 500))).bind fun bt201 => (if bt201.2.2 = bt197.2.2 then (if bt194.2.1 = (wrap64 (Int.tmod (IntKind.u64.wrap (a3)) 500)) then (if bt201.2.2 = 0 then (if bt201.1.toList = bt197.1.toList then (if (wrap64 (bt194.2.1 + bt201.2.1)) = bt197.2.1 then (if bt194.2.1 < (wrap64 (Int.tmod (IntKind.u64.wrap (a3)) 500)) then (if bt201.1.toList = bt194.1.toList then (if bt201.2.1 = 0 then (if bt197.1.toList = bt194.1.toList then (comfitlaw06_TagsParts.j0 k a0 a2 bt194.1 (bt197.2.1 != bt194.2.1) a1_0 a1_1 a1_2 a1_3) else (comfitlaw06_TagsParts.j0 k a0 a2 bt194.1 true a1_0 a1_1 a1_2 a1_3)) else (comfitlaw06_TagsParts.j0 k a0 a2 bt194.1 true a1_0 a1_1 a1_2 a1_3)) else (comfitlaw06_TagsParts.j0 k a0 a2 bt194.1 true a1_0 a1_1 a1_2 a1_3)) else (comfitlaw06_TagsParts.j0 k a0 a2 bt194.1 false a1_0 a1_1 a1_2 a1_3)) else (comfitlaw06_TagsParts.j0 k a0 a2 bt194.1 true a1_0 a1_1 a1_2 a1_3)) else (comfitlaw06_TagsParts.j0 k a0 a2 bt194.1 true a1_0 a1_1 a1_2 a1_3)) else (if bt194.2.1 < (wrap64 (Int.tmod (IntKind.u64.wrap (a3)) 500)) then (comfitlaw06_TagsParts.j0 k a0 a2 bt194.1 true a1_0 a1_1 a1_2 a1_3) else (comfitlaw06_TagsParts.j0 k a0 a2 bt194.1 false a1_0 a1_1 a1_2 a1_3))) else (if bt194.2.1 < (wrap64 (Int.tmod (IntKind.u64.wrap (a3)) 500)) then (if bt201.2.2 = 0 then (if bt201.1.toList = bt194.1.toList then (if bt201.2.1 = 0 then (if bt197.1.toList = bt194.1.toList then (comfitlaw06_TagsParts.j0 k a0 a2 bt194.1 (bt197.2.1 != bt194.2.1) a1_0 a1_1 a1_2 a1_3) else (comfitlaw06_TagsParts.j0 k a0 a2 bt194.1 true a1_0 a1_1 a1_2 a1_3)) else (comfitlaw06_TagsParts.j0 k a0 a2 bt194.1 true a1_0 a1_1 a1_2 a1_3)) else (comfitlaw06_TagsParts.j0 k a0 a2 bt194.1 true a1_0 a1_1 a1_2 a1_3)) else (comfitlaw06_TagsParts.j0 k a0 a2 bt194.1 true a1_0 a1_1 a1_2 a1_3)) else (comfitlaw06_TagsParts.j0 k a0 a2 bt194.1 false a1_0 a1_1 a1_2 a1_3))) else (comfitlaw06_TagsParts.j0 k a0 a2 bt194.1 true a1_0 a1_1 a1_2 a1_3))) else (if bt194.2.2 = 6 then (if bt197.2.2 = bt194.2.2 then ((comfitlaw06_awake.f k).bind fun t200 => (some t200)) else (some false)) else (some false))))) else ((comfitlaw06_text.f a2).bind fun t190 => ((tags_Cut.f a0 a1_0 a1_1 a1_2 a1_3 t190).bind fun bt191 => (if bt191.2 = 2 then ((comfitlaw06_awake.f k).bind fun t193 => (some t193)) else (some false))))) = some r := H
 have A6 := Aside0.mk A60
 clear A60
 by_cases c7 : t189 = true
 ·subst c7
  have H1 : ((tags_Run.f a0 a1_0 a1_1 a1_2 a1_3 a2 (wrap64 (Int.tmod (IntKind.u64.wrap (a3)) 500))).bind fun bt194 => ((tags_Run.f a0 a1_0 a1_1 a1_2 a1_3 a2 (wrap64 ((wrap64 (Int.tmod (IntKind.u64.wrap (a3)) 500)) + (wrap64 (Int.tmod (IntKind.u64.wrap (a4)) 500))))).bind fun bt197 => (if bt194.2.2 = 0 then ((tags_Run.f a0 a1_0 a1_1 a1_2 a1_3 bt194.1 (wrap64 (Int.tmod (IntKind.u64.wrap (a4)) 500))).bind fun bt201 => (if bt201.2.2 = bt197.2.2 then (if bt194.2.1 = (wrap64 (Int.tmod (IntKind.u64.wrap (a3)) 500)) then (if bt201.2.2 = 0 then (if bt201.1.toList = bt197.1.toList then (if (wrap64 (bt194.2.1 + bt201.2.1)) = bt197.2.1 then (if bt194.2.1 < (wrap64 (Int.tmod (IntKind.u64.wrap (a3)) 500)) then (if bt201.1.toList = bt194.1.toList then (if bt201.2.1 = 0 then (if bt197.1.toList = bt194.1.toList then (comfitlaw06_TagsParts.j0 k a0 a2 bt194.1 (bt197.2.1 != bt194.2.1) a1_0 a1_1 a1_2 a1_3) else (comfitlaw06_TagsParts.j0 k a0 a2 bt194.1 true a1_0 a1_1 a1_2 a1_3)) else (comfitlaw06_TagsParts.j0 k a0 a2 bt194.1 true a1_0 a1_1 a1_2 a1_3)) else (comfitlaw06_TagsParts.j0 k a0 a2 bt194.1 true a1_0 a1_1 a1_2 a1_3)) else (comfitlaw06_TagsParts.j0 k a0 a2 bt194.1 false a1_0 a1_1 a1_2 a1_3)) else (comfitlaw06_TagsParts.j0 k a0 a2 bt194.1 true a1_0 a1_1 a1_2 a1_3)) else (comfitlaw06_TagsParts.j0 k a0 a2 bt194.1 true a1_0 a1_1 a1_2 a1_3)) else (if bt194.2.1 < (wrap64 (Int.tmod (IntKind.u64.wrap (a3)) 500)) then (comfitlaw06_TagsParts.j0 k a0 a2 bt194.1 true a1_0 a1_1 a1_2 a1_3) else (comfitlaw06_TagsParts.j0 k a0 a2 bt194.1 false a1_0 a1_1 a1_2 a1_3))) else (if bt194.2.1 < (wrap64 (Int.tmod (IntKind.u64.wrap (a3)) 500)) then (if bt201.2.2 = 0 then (if bt201.1.toList = bt194.1.toList then (if bt201.2.1 = 0 then (if bt197.1.toList = bt194.1.toList then (comfitlaw06_TagsParts.j0 k a0 a2 bt194.1 (bt197.2.1 != bt194.2.1) a1_0 a1_1 a1_2 a1_3) else (comfitlaw06_TagsParts.j0 k a0 a2 bt194.1 true a1_0 a1_1 a1_2 a1_3)) else (comfitlaw06_TagsParts.j0 k a0 a2 bt194.1 true a1_0 a1_1 a1_2 a1_3)) else (comfitlaw06_TagsParts.j0 k a0 a2 bt194.1 true a1_0 a1_1 a1_2 a1_3)) else (comfitlaw06_TagsParts.j0 k a0 a2 bt194.1 true a1_0 a1_1 a1_2 a1_3)) else (comfitlaw06_TagsParts.j0 k a0 a2 bt194.1 false a1_0 a1_1 a1_2 a1_3))) else (comfitlaw06_TagsParts.j0 k a0 a2 bt194.1 true a1_0 a1_1 a1_2 a1_3))) else (if bt194.2.2 = 6 then (if bt197.2.2 = bt194.2.2 then ((comfitlaw06_awake.f k).bind fun t200 => (some t200)) else (some false)) else (some false))))) = some r := by rw [if_pos rfl] at H; exact H
  clear H
  have H := H1
  clear H1
  replace H := Option.bind_eq_some_iff.mp H
  obtain ⟨⟨t194, t195, t196⟩, A80, H⟩ := H
  replace H : ((tags_Run.f a0 a1_0 a1_1 a1_2 a1_3 a2 (wrap64 ((wrap64 (Int.tmod (IntKind.u64.wrap (a3)) 500)) + (wrap64 (Int.tmod (IntKind.u64.wrap (a4)) 500))))).bind fun bt197 => (if t196 = 0 then ((tags_Run.f a0 a1_0 a1_1 a1_2 a1_3 t194 (wrap64 (Int.tmod (IntKind.u64.wrap (a4)) 500))).bind fun bt201 => (if bt201.2.2 = bt197.2.2 then (if t195 = (wrap64 (Int.tmod (IntKind.u64.wrap (a3)) 500)) then (if bt201.2.2 = 0 then (if bt201.1.toList = bt197.1.toList then (if (wrap64 (t195 + bt201.2.1)) = bt197.2.1 then (if t195 < (wrap64 (Int.tmod (IntKind.u64.wrap (a3)) 500)) then (if bt201.1.toList = t194.toList then (if bt201.2.1 = 0 then (if bt197.1.toList = t194.toList then (comfitlaw06_TagsParts.j0 k a0 a2 t194 (bt197.2.1 != t195) a1_0 a1_1 a1_2 a1_3) else (comfitlaw06_TagsParts.j0 k a0 a2 t194 true a1_0 a1_1 a1_2 a1_3)) else (comfitlaw06_TagsParts.j0 k a0 a2 t194 true a1_0 a1_1 a1_2 a1_3)) else (comfitlaw06_TagsParts.j0 k a0 a2 t194 true a1_0 a1_1 a1_2 a1_3)) else (comfitlaw06_TagsParts.j0 k a0 a2 t194 false a1_0 a1_1 a1_2 a1_3)) else (comfitlaw06_TagsParts.j0 k a0 a2 t194 true a1_0 a1_1 a1_2 a1_3)) else (comfitlaw06_TagsParts.j0 k a0 a2 t194 true a1_0 a1_1 a1_2 a1_3)) else (if t195 < (wrap64 (Int.tmod (IntKind.u64.wrap (a3)) 500)) then (comfitlaw06_TagsParts.j0 k a0 a2 t194 true a1_0 a1_1 a1_2 a1_3) else (comfitlaw06_TagsParts.j0 k a0 a2 t194 false a1_0 a1_1 a1_2 a1_3))) else (if t195 < (wrap64 (Int.tmod (IntKind.u64.wrap (a3)) 500)) then (if bt201.2.2 = 0 then (if bt201.1.toList = t194.toList then (if bt201.2.1 = 0 then (if bt197.1.toList = t194.toList then (comfitlaw06_TagsParts.j0 k a0 a2 t194 (bt197.2.1 != t195) a1_0 a1_1 a1_2 a1_3) else (comfitlaw06_TagsParts.j0 k a0 a2 t194 true a1_0 a1_1 a1_2 a1_3)) else (comfitlaw06_TagsParts.j0 k a0 a2 t194 true a1_0 a1_1 a1_2 a1_3)) else (comfitlaw06_TagsParts.j0 k a0 a2 t194 true a1_0 a1_1 a1_2 a1_3)) else (comfitlaw06_TagsParts.j0 k a0 a2 t194 true a1_0 a1_1 a1_2 a1_3)) else (comfitlaw06_TagsParts.j0 k a0 a2 t194 false a1_0 a1_1 a1_2 a1_3))) else (comfitlaw06_TagsParts.j0 k a0 a2 t194 true a1_0 a1_1 a1_2 a1_3))) else (if t196 = 6 then (if bt197.2.2 = t196 then ((comfitlaw06_awake.f k).bind fun t200 => (some t200)) else (some false)) else (some false)))) = some r := H
  have A8 := Aside0.mk A80
  clear A80
  replace H := Option.bind_eq_some_iff.mp H
  obtain ⟨⟨t197, t198, t199⟩, A90, H⟩ := H
  replace H : (if t196 = 0 then ((tags_Run.f a0 a1_0 a1_1 a1_2 a1_3 t194 (wrap64 (Int.tmod (IntKind.u64.wrap (a4)) 500))).bind fun bt201 => (if bt201.2.2 = t199 then (if t195 = (wrap64 (Int.tmod (IntKind.u64.wrap (a3)) 500)) then (if bt201.2.2 = 0 then (if bt201.1.toList = t197.toList then (if (wrap64 (t195 + bt201.2.1)) = t198 then (if t195 < (wrap64 (Int.tmod (IntKind.u64.wrap (a3)) 500)) then (if bt201.1.toList = t194.toList then (if bt201.2.1 = 0 then (if t197.toList = t194.toList then (comfitlaw06_TagsParts.j0 k a0 a2 t194 (t198 != t195) a1_0 a1_1 a1_2 a1_3) else (comfitlaw06_TagsParts.j0 k a0 a2 t194 true a1_0 a1_1 a1_2 a1_3)) else (comfitlaw06_TagsParts.j0 k a0 a2 t194 true a1_0 a1_1 a1_2 a1_3)) else (comfitlaw06_TagsParts.j0 k a0 a2 t194 true a1_0 a1_1 a1_2 a1_3)) else (comfitlaw06_TagsParts.j0 k a0 a2 t194 false a1_0 a1_1 a1_2 a1_3)) else (comfitlaw06_TagsParts.j0 k a0 a2 t194 true a1_0 a1_1 a1_2 a1_3)) else (comfitlaw06_TagsParts.j0 k a0 a2 t194 true a1_0 a1_1 a1_2 a1_3)) else (if t195 < (wrap64 (Int.tmod (IntKind.u64.wrap (a3)) 500)) then (comfitlaw06_TagsParts.j0 k a0 a2 t194 true a1_0 a1_1 a1_2 a1_3) else (comfitlaw06_TagsParts.j0 k a0 a2 t194 false a1_0 a1_1 a1_2 a1_3))) else (if t195 < (wrap64 (Int.tmod (IntKind.u64.wrap (a3)) 500)) then (if bt201.2.2 = 0 then (if bt201.1.toList = t194.toList then (if bt201.2.1 = 0 then (if t197.toList = t194.toList then (comfitlaw06_TagsParts.j0 k a0 a2 t194 (t198 != t195) a1_0 a1_1 a1_2 a1_3) else (comfitlaw06_TagsParts.j0 k a0 a2 t194 true a1_0 a1_1 a1_2 a1_3)) else (comfitlaw06_TagsParts.j0 k a0 a2 t194 true a1_0 a1_1 a1_2 a1_3)) else (comfitlaw06_TagsParts.j0 k a0 a2 t194 true a1_0 a1_1 a1_2 a1_3)) else (comfitlaw06_TagsParts.j0 k a0 a2 t194 true a1_0 a1_1 a1_2 a1_3)) else (comfitlaw06_TagsParts.j0 k a0 a2 t194 false a1_0 a1_1 a1_2 a1_3))) else (comfitlaw06_TagsParts.j0 k a0 a2 t194 true a1_0 a1_1 a1_2 a1_3))) else (if t196 = 6 then (if t199 = t196 then ((comfitlaw06_awake.f k).bind fun t200 => (some t200)) else (some false)) else (some false))) = some r := H
  have A9 := Aside0.mk A90
  clear A90
  by_cases c10 : t196 = 0
  ·rw [if_pos c10] at H
   have c10b0 : (t196 == 0) = true := beq_iff_eq.mpr c10
   have c10b1 : (t196 != 0) = false := bne_eq_false_iff_eq.mpr c10
   clear c10
   replace H := Option.bind_eq_some_iff.mp H
   obtain ⟨⟨t201, t202, t203⟩, A110, H⟩ := H
   replace H : (if t203 = t199 then (if t195 = (wrap64 (Int.tmod (IntKind.u64.wrap (a3)) 500)) then (if t203 = 0 then (if t201.toList = t197.toList then (if (wrap64 (t195 + t202)) = t198 then (if t195 < (wrap64 (Int.tmod (IntKind.u64.wrap (a3)) 500)) then (if t201.toList = t194.toList then (if t202 = 0 then (if t197.toList = t194.toList then (comfitlaw06_TagsParts.j0 k a0 a2 t194 (t198 != t195) a1_0 a1_1 a1_2 a1_3) else (comfitlaw06_TagsParts.j0 k a0 a2 t194 true a1_0 a1_1 a1_2 a1_3)) else (comfitlaw06_TagsParts.j0 k a0 a2 t194 true a1_0 a1_1 a1_2 a1_3)) else (comfitlaw06_TagsParts.j0 k a0 a2 t194 true a1_0 a1_1 a1_2 a1_3)) else (comfitlaw06_TagsParts.j0 k a0 a2 t194 false a1_0 a1_1 a1_2 a1_3)) else (comfitlaw06_TagsParts.j0 k a0 a2 t194 true a1_0 a1_1 a1_2 a1_3)) else (comfitlaw06_TagsParts.j0 k a0 a2 t194 true a1_0 a1_1 a1_2 a1_3)) else (if t195 < (wrap64 (Int.tmod (IntKind.u64.wrap (a3)) 500)) then (comfitlaw06_TagsParts.j0 k a0 a2 t194 true a1_0 a1_1 a1_2 a1_3) else (comfitlaw06_TagsParts.j0 k a0 a2 t194 false a1_0 a1_1 a1_2 a1_3))) else (if t195 < (wrap64 (Int.tmod (IntKind.u64.wrap (a3)) 500)) then (if t203 = 0 then (if t201.toList = t194.toList then (if t202 = 0 then (if t197.toList = t194.toList then (comfitlaw06_TagsParts.j0 k a0 a2 t194 (t198 != t195) a1_0 a1_1 a1_2 a1_3) else (comfitlaw06_TagsParts.j0 k a0 a2 t194 true a1_0 a1_1 a1_2 a1_3)) else (comfitlaw06_TagsParts.j0 k a0 a2 t194 true a1_0 a1_1 a1_2 a1_3)) else (comfitlaw06_TagsParts.j0 k a0 a2 t194 true a1_0 a1_1 a1_2 a1_3)) else (comfitlaw06_TagsParts.j0 k a0 a2 t194 true a1_0 a1_1 a1_2 a1_3)) else (comfitlaw06_TagsParts.j0 k a0 a2 t194 false a1_0 a1_1 a1_2 a1_3))) else (comfitlaw06_TagsParts.j0 k a0 a2 t194 true a1_0 a1_1 a1_2 a1_3)) = some r := H
   have A11 := Aside0.mk A110
   clear A110
   have HC12 := Aside0.mk H
   clear H
   go_enter Tryd.func5, Tryd.ntmps5
   go_upto_region 10 with (first | ((with_reducible refine gate_dst (N := 6) rfl ?_); (try (refine gate_guard (by rfl) ?_; dsimp only)); refine box_event ?hg (N := 6) ?hd (cs := #[.string a1_0, .string a1_1, .string a1_2, .string a1_3]) (t := 22) ?hr ?_; (case hd => rfl); (case hg => rfl); (case hr => first | (go_simp; done) | (go_simp; rfl)); intro gb188 hg w13 hbox hb; have n0_ := Aside0.mk (below_step (hb_ HB.out) hb); have n1_ := Aside0.mk (hbox); have n2_ := Aside0.mk ((by rw [hg]; exact (below_size (hb_ HB.out)) : w.heap.size ≤ gb188)); have n3_ := Aside0.mk ((by rw [hg]; exact (below_size (hb_ HB.out)) : w.heap.size ≤ gb188)); clear HB; have HB := n0_; have BK188 := n1_; have GW188 := n2_; have GE188 := n3_; clear n0_ n1_ n2_ n3_; clear hb hbox hg; have hcz14_0 : w13.cell? ⟨gb188, 0, none⟩ = some (.string a1_0) := (blk_cell BK188.out 0).trans rfl; have hcz14_1 : w13.cell? ⟨gb188, 1, none⟩ = some (.string a1_1) := (blk_cell BK188.out 1).trans rfl; have hcz14_2 : w13.cell? ⟨gb188, 2, none⟩ = some (.string a1_2) := (blk_cell BK188.out 2).trans rfl; have hcz14_3 : w13.cell? ⟨gb188, 3, none⟩ = some (.string a1_3) := (blk_cell BK188.out 3).trans rfl; have hfz14_0 := blk_frozen BK188.out 0; have hfz14_1 := blk_frozen BK188.out 1; have hfz14_2 := blk_frozen BK188.out 2; have hfz14_3 := blk_frozen BK188.out 3) | ((with_reducible refine gate_callee (f := 9) rfl ?_); refine goesL_ (some 28) rfl rfl Tryd.func9 (by kernel_rfl) rfl #[.int .i64 a0, .agg #[.string a1_0, .string a1_1, .string a1_2, .string a1_3], .string a2] rfl al_ ?_; (with_reducible refine (comfitref06_Cutter.calls a0 a1_0 a1_1 a1_2 a1_3 a2 true _ A6.out).mono ?_); rintro e w15 ⟨rfl, hb⟩; refine ⟨_, rfl, ?_⟩; have n0_ := Aside0.mk (bkb_ BK188.out hb); have n1_ := Aside0.mk (below_step (hb_ HB.out) hb); clear BK188; clear HB; have BK188 := n0_; have HB := n1_; clear n0_ n1_; (try clear hb); (try clear hb2); (try clear hk); (try clear hi); have hcz16_0 : w15.cell? ⟨gb188, 0, none⟩ = some (.string a1_0) := (blk_cell BK188.out 0).trans rfl; have hcz16_1 : w15.cell? ⟨gb188, 1, none⟩ = some (.string a1_1) := (blk_cell BK188.out 1).trans rfl; have hcz16_2 : w15.cell? ⟨gb188, 2, none⟩ = some (.string a1_2) := (blk_cell BK188.out 2).trans rfl; have hcz16_3 : w15.cell? ⟨gb188, 3, none⟩ = some (.string a1_3) := (blk_cell BK188.out 3).trans rfl; have hfz16_0 := blk_frozen BK188.out 0; have hfz16_1 := blk_frozen BK188.out 1; have hfz16_2 := blk_frozen BK188.out 2; have hfz16_3 := blk_frozen BK188.out 3) | ((with_reducible refine gate_callee (f := 13) rfl ?_); refine goesL_ (some 56) rfl rfl Tryd.func13 (by kernel_rfl) rfl #[.int .i64 a0, .agg #[.string a1_0, .string a1_1, .string a1_2, .string a1_3], .string a2, .int .i64 (wrap64 (Int.tmod (IntKind.u64.wrap (a3)) 500))] rfl al_ ?_; (with_reducible refine (tags_Run.calls a0 a1_0 a1_1 a1_2 a1_3 a2 (wrap64 (Int.tmod (IntKind.u64.wrap (a3)) 500)) t194 t195 t196 _ A8.out).mono ?_); rintro e w17 ⟨rfl, hb⟩; refine ⟨_, rfl, ?_⟩; have n0_ := Aside0.mk (bkb_ BK188.out hb); have n1_ := Aside0.mk (below_step (hb_ HB.out) hb); clear BK188; clear HB; have BK188 := n0_; have HB := n1_; clear n0_ n1_; (try clear hb); (try clear hb2); (try clear hk); (try clear hi); have hcz18_0 : w17.cell? ⟨gb188, 0, none⟩ = some (.string a1_0) := (blk_cell BK188.out 0).trans rfl; have hcz18_1 : w17.cell? ⟨gb188, 1, none⟩ = some (.string a1_1) := (blk_cell BK188.out 1).trans rfl; have hcz18_2 : w17.cell? ⟨gb188, 2, none⟩ = some (.string a1_2) := (blk_cell BK188.out 2).trans rfl; have hcz18_3 : w17.cell? ⟨gb188, 3, none⟩ = some (.string a1_3) := (blk_cell BK188.out 3).trans rfl; have hfz18_0 := blk_frozen BK188.out 0; have hfz18_1 := blk_frozen BK188.out 1; have hfz18_2 := blk_frozen BK188.out 2; have hfz18_3 := blk_frozen BK188.out 3) | ((with_reducible refine gate_callee (f := 13) rfl ?_); refine goesL_ (some 67) rfl rfl Tryd.func13 (by kernel_rfl) rfl #[.int .i64 a0, .agg #[.string a1_0, .string a1_1, .string a1_2, .string a1_3], .string a2, .int .i64 (wrap64 ((wrap64 (Int.tmod (IntKind.u64.wrap (a3)) 500)) + (wrap64 (Int.tmod (IntKind.u64.wrap (a4)) 500))))] rfl al_ ?_; (with_reducible refine (tags_Run.calls a0 a1_0 a1_1 a1_2 a1_3 a2 (wrap64 ((wrap64 (Int.tmod (IntKind.u64.wrap (a3)) 500)) + (wrap64 (Int.tmod (IntKind.u64.wrap (a4)) 500)))) t197 t198 t199 _ A9.out).mono ?_); rintro e w19 ⟨rfl, hb⟩; refine ⟨_, rfl, ?_⟩; have n0_ := Aside0.mk (bkb_ BK188.out hb); have n1_ := Aside0.mk (below_step (hb_ HB.out) hb); clear BK188; clear HB; have BK188 := n0_; have HB := n1_; clear n0_ n1_; (try clear hb); (try clear hb2); (try clear hk); (try clear hi); have hcz20_0 : w19.cell? ⟨gb188, 0, none⟩ = some (.string a1_0) := (blk_cell BK188.out 0).trans rfl; have hcz20_1 : w19.cell? ⟨gb188, 1, none⟩ = some (.string a1_1) := (blk_cell BK188.out 1).trans rfl; have hcz20_2 : w19.cell? ⟨gb188, 2, none⟩ = some (.string a1_2) := (blk_cell BK188.out 2).trans rfl; have hcz20_3 : w19.cell? ⟨gb188, 3, none⟩ = some (.string a1_3) := (blk_cell BK188.out 3).trans rfl; have hfz20_0 := blk_frozen BK188.out 0; have hfz20_1 := blk_frozen BK188.out 1; have hfz20_2 := blk_frozen BK188.out 2; have hfz20_3 := blk_frozen BK188.out 3) | ((with_reducible refine gate_callee (f := 13) rfl ?_); refine goesL_ (some 88) rfl rfl Tryd.func13 (by kernel_rfl) rfl #[.int .i64 a0, .agg #[.string a1_0, .string a1_1, .string a1_2, .string a1_3], .string t194, .int .i64 (wrap64 (Int.tmod (IntKind.u64.wrap (a4)) 500))] rfl al_ ?_; (with_reducible refine (tags_Run.calls a0 a1_0 a1_1 a1_2 a1_3 t194 (wrap64 (Int.tmod (IntKind.u64.wrap (a4)) 500)) t201 t202 t203 _ A11.out).mono ?_); rintro e w21 ⟨rfl, hb⟩; refine ⟨_, rfl, ?_⟩; have n0_ := Aside0.mk (bkb_ BK188.out hb); have n1_ := Aside0.mk (below_step (hb_ HB.out) hb); clear BK188; clear HB; have BK188 := n0_; have HB := n1_; clear n0_ n1_; (try clear hb); (try clear hb2); (try clear hk); (try clear hi)))
   (try simp only [Act.put, List.setIfInBounds_toArray, List.set_cons_zero, List.set_cons_succ])
   go_cut [143] (fun v143 wc => ∃ (kq : Nat) (x143_11 : Bool), v143 = .bool x143_11 ∧ Aside0 (comfitlaw06_TagsParts.j0 kq a0 a2 t194 x143_11 a1_0 a1_1 a1_2 a1_3 = some r) ∧ Aside0 (kq ≤ k) ∧ Aside0 (wc.heap[gb188]? = some (.cells #[.string a1_0, .string a1_1, .string a1_2, .string a1_3] 22 (0, 0))) ∧ Aside0 (Below w.heap.size w wc))
   case first =>
    have H := HC12.out
    clear HC12
    by_cases c22 : t203 = t199
    ·rw [if_pos c22] at H
     have c22b0 : (t203 == t199) = true := beq_iff_eq.mpr c22
     have c22b1 : (t203 != t199) = false := bne_eq_false_iff_eq.mpr c22
     clear c22
     (first | rw [c22b0] | (simp only [i64_w, i32_w]; rw [c22b0]) | skip)
     by_cases c23 : t195 = (wrap64 (Int.tmod (IntKind.u64.wrap (a3)) 500))
     ·rw [if_pos c23] at H
      have c23b0 : (t195 == (wrap64 (Int.tmod (IntKind.u64.wrap (a3)) 500))) = true := beq_iff_eq.mpr c23
      have c23b1 : (t195 != (wrap64 (Int.tmod (IntKind.u64.wrap (a3)) 500))) = false := bne_eq_false_iff_eq.mpr c23
      clear c23
      by_cases c24 : t203 = 0
      ·rw [if_pos c24] at H
       have c24b0 : (t203 == 0) = true := beq_iff_eq.mpr c24
       have c24b1 : (t203 != 0) = false := bne_eq_false_iff_eq.mpr c24
       clear c24
       by_cases c25 : t201.toList = t197.toList
       ·rw [if_pos c25] at H
        have c25b0 : (t201.toList == t197.toList) = true := beq_iff_eq.mpr c25
        have c25b1 : (t201.toList != t197.toList) = false := bne_eq_false_iff_eq.mpr c25
        clear c25
        by_cases c26 : (wrap64 (t195 + t202)) = t198
        ·rw [if_pos c26] at H
         have c26b0 : ((wrap64 (t195 + t202)) == t198) = true := beq_iff_eq.mpr c26
         have c26b1 : ((wrap64 (t195 + t202)) != t198) = false := bne_eq_false_iff_eq.mpr c26
         clear c26
         by_cases c27 : t195 < (wrap64 (Int.tmod (IntKind.u64.wrap (a3)) 500))
         ·rw [if_pos c27] at H
          have c27b0 : decide (t195 < (wrap64 (Int.tmod (IntKind.u64.wrap (a3)) 500))) = true := decide_eq_true c27
          clear c27
          by_cases c28 : t201.toList = t194.toList
          ·rw [if_pos c28] at H
           have c28b0 : (t201.toList == t194.toList) = true := beq_iff_eq.mpr c28
           have c28b1 : (t201.toList != t194.toList) = false := bne_eq_false_iff_eq.mpr c28
           clear c28
           by_cases c29 : t202 = 0
           ·rw [if_pos c29] at H
            have c29b0 : (t202 == 0) = true := beq_iff_eq.mpr c29
            have c29b1 : (t202 != 0) = false := bne_eq_false_iff_eq.mpr c29
            clear c29
            by_cases c30 : t197.toList = t194.toList
            ·rw [if_pos c30] at H
             have c30b0 : (t197.toList == t194.toList) = true := beq_iff_eq.mpr c30
             have c30b1 : (t197.toList != t194.toList) = false := bne_eq_false_iff_eq.mpr c30
             clear c30
             have H' := Aside0.mk H
             clear H
             go_wp2
             go_meet
             case rel => exact ⟨_, ((t198 != t195)), (by first | rfl | (simp; done) | (simp [*]; done)), H', ⟨by first | omega | exact Nat.le_refl _⟩, ⟨by (with_reducible repeat (first | refine blk_drewN ?_ _ | refine blk_drew ?_ | refine blk_alloc ?_ _)); exact BK188.out⟩, ⟨by repeat (first | (with_reducible first | exact HB.out | apply below_alloc | apply pw_below_drewN | apply below_drew1 | refine below_set ?_ GE188.out) | exact HB.out)⟩⟩
            ·rw [if_neg c30] at H
             have c30b0 : (t197.toList == t194.toList) = false := beq_eq_false_iff_ne.mpr c30
             have c30b1 : (t197.toList != t194.toList) = true := bne_iff_ne.mpr c30
             have H' := Aside0.mk H
             clear H
             go_wp2
             go_meet
             case rel => exact ⟨_, (true), (by first | rfl | (simp; done) | (simp [*]; done)), H', ⟨by first | omega | exact Nat.le_refl _⟩, ⟨by (with_reducible repeat (first | refine blk_drewN ?_ _ | refine blk_drew ?_ | refine blk_alloc ?_ _)); exact BK188.out⟩, ⟨by repeat (first | (with_reducible first | exact HB.out | apply below_alloc | apply pw_below_drewN | apply below_drew1 | refine below_set ?_ GE188.out) | exact HB.out)⟩⟩
           ·rw [if_neg c29] at H
            have c29b0 : (t202 == 0) = false := beq_eq_false_iff_ne.mpr c29
            have c29b1 : (t202 != 0) = true := bne_iff_ne.mpr c29
            have H' := Aside0.mk H
            clear H
            go_wp2
            go_meet
            case rel => exact ⟨_, (true), (by first | rfl | (simp; done) | (simp [*]; done)), H', ⟨by first | omega | exact Nat.le_refl _⟩, ⟨by (with_reducible repeat (first | refine blk_drewN ?_ _ | refine blk_drew ?_ | refine blk_alloc ?_ _)); exact BK188.out⟩, ⟨by repeat (first | (with_reducible first | exact HB.out | apply below_alloc | apply pw_below_drewN | apply below_drew1 | refine below_set ?_ GE188.out) | exact HB.out)⟩⟩
          ·rw [if_neg c28] at H
           have c28b0 : (t201.toList == t194.toList) = false := beq_eq_false_iff_ne.mpr c28
           have c28b1 : (t201.toList != t194.toList) = true := bne_iff_ne.mpr c28
           have H' := Aside0.mk H
           clear H
           go_wp2
           go_meet
           case rel => exact ⟨_, (true), (by first | rfl | (simp; done) | (simp [*]; done)), H', ⟨by first | omega | exact Nat.le_refl _⟩, ⟨by (with_reducible repeat (first | refine blk_drewN ?_ _ | refine blk_drew ?_ | refine blk_alloc ?_ _)); exact BK188.out⟩, ⟨by repeat (first | (with_reducible first | exact HB.out | apply below_alloc | apply pw_below_drewN | apply below_drew1 | refine below_set ?_ GE188.out) | exact HB.out)⟩⟩
         ·rw [if_neg c27] at H
          have c27b0 : decide (t195 < (wrap64 (Int.tmod (IntKind.u64.wrap (a3)) 500))) = false := decide_eq_false c27
          clear c27
          have H' := Aside0.mk H
          clear H
          go_wp2
          go_meet
          case rel => exact ⟨_, (false), (by first | rfl | (simp; done) | (simp [*]; done)), H', ⟨by first | omega | exact Nat.le_refl _⟩, ⟨by (with_reducible repeat (first | refine blk_drewN ?_ _ | refine blk_drew ?_ | refine blk_alloc ?_ _)); exact BK188.out⟩, ⟨by repeat (first | (with_reducible first | exact HB.out | apply below_alloc | apply pw_below_drewN | apply below_drew1 | refine below_set ?_ GE188.out) | exact HB.out)⟩⟩
        ·rw [if_neg c26] at H
         have c26b0 : ((wrap64 (t195 + t202)) == t198) = false := beq_eq_false_iff_ne.mpr c26
         have c26b1 : ((wrap64 (t195 + t202)) != t198) = true := bne_iff_ne.mpr c26
         have H' := Aside0.mk H
         clear H
         go_wp2
         go_meet
         case rel => exact ⟨_, (true), (by first | rfl | (simp; done) | (simp [*]; done)), H', ⟨by first | omega | exact Nat.le_refl _⟩, ⟨by (with_reducible repeat (first | refine blk_drewN ?_ _ | refine blk_drew ?_ | refine blk_alloc ?_ _)); exact BK188.out⟩, ⟨by repeat (first | (with_reducible first | exact HB.out | apply below_alloc | apply pw_below_drewN | apply below_drew1 | refine below_set ?_ GE188.out) | exact HB.out)⟩⟩
       ·rw [if_neg c25] at H
        have c25b0 : (t201.toList == t197.toList) = false := beq_eq_false_iff_ne.mpr c25
        have c25b1 : (t201.toList != t197.toList) = true := bne_iff_ne.mpr c25
        have H' := Aside0.mk H
        clear H
        go_wp2
        go_meet
        case rel => exact ⟨_, (true), (by first | rfl | (simp; done) | (simp [*]; done)), H', ⟨by first | omega | exact Nat.le_refl _⟩, ⟨by (with_reducible repeat (first | refine blk_drewN ?_ _ | refine blk_drew ?_ | refine blk_alloc ?_ _)); exact BK188.out⟩, ⟨by repeat (first | (with_reducible first | exact HB.out | apply below_alloc | apply pw_below_drewN | apply below_drew1 | refine below_set ?_ GE188.out) | exact HB.out)⟩⟩
      ·rw [if_neg c24] at H
       have c24b0 : (t203 == 0) = false := beq_eq_false_iff_ne.mpr c24
       have c24b1 : (t203 != 0) = true := bne_iff_ne.mpr c24
       by_cases c31 : t195 < (wrap64 (Int.tmod (IntKind.u64.wrap (a3)) 500))
       ·rw [if_pos c31] at H
        have c31b0 : decide (t195 < (wrap64 (Int.tmod (IntKind.u64.wrap (a3)) 500))) = true := decide_eq_true c31
        clear c31
        have H' := Aside0.mk H
        clear H
        go_wp2
        go_meet
        case rel => exact ⟨_, (true), (by first | rfl | (simp; done) | (simp [*]; done)), H', ⟨by first | omega | exact Nat.le_refl _⟩, ⟨by (with_reducible repeat (first | refine blk_drewN ?_ _ | refine blk_drew ?_ | refine blk_alloc ?_ _)); exact BK188.out⟩, ⟨by repeat (first | (with_reducible first | exact HB.out | apply below_alloc | apply pw_below_drewN | apply below_drew1 | refine below_set ?_ GE188.out) | exact HB.out)⟩⟩
       ·rw [if_neg c31] at H
        have c31b0 : decide (t195 < (wrap64 (Int.tmod (IntKind.u64.wrap (a3)) 500))) = false := decide_eq_false c31
        clear c31
        have H' := Aside0.mk H
        clear H
        go_wp2
        go_meet
        case rel => exact ⟨_, (false), (by first | rfl | (simp; done) | (simp [*]; done)), H', ⟨by first | omega | exact Nat.le_refl _⟩, ⟨by (with_reducible repeat (first | refine blk_drewN ?_ _ | refine blk_drew ?_ | refine blk_alloc ?_ _)); exact BK188.out⟩, ⟨by repeat (first | (with_reducible first | exact HB.out | apply below_alloc | apply pw_below_drewN | apply below_drew1 | refine below_set ?_ GE188.out) | exact HB.out)⟩⟩
     ·rw [if_neg c23] at H
      have c23b0 : (t195 == (wrap64 (Int.tmod (IntKind.u64.wrap (a3)) 500))) = false := beq_eq_false_iff_ne.mpr c23
      have c23b1 : (t195 != (wrap64 (Int.tmod (IntKind.u64.wrap (a3)) 500))) = true := bne_iff_ne.mpr c23
      by_cases c32 : t195 < (wrap64 (Int.tmod (IntKind.u64.wrap (a3)) 500))
      ·rw [if_pos c32] at H
       have c32b0 : decide (t195 < (wrap64 (Int.tmod (IntKind.u64.wrap (a3)) 500))) = true := decide_eq_true c32
       clear c32
       by_cases c33 : t203 = 0
       ·rw [if_pos c33] at H
        have c33b0 : (t203 == 0) = true := beq_iff_eq.mpr c33
        have c33b1 : (t203 != 0) = false := bne_eq_false_iff_eq.mpr c33
        clear c33
        by_cases c34 : t201.toList = t194.toList
        ·rw [if_pos c34] at H
         have c34b0 : (t201.toList == t194.toList) = true := beq_iff_eq.mpr c34
         have c34b1 : (t201.toList != t194.toList) = false := bne_eq_false_iff_eq.mpr c34
         clear c34
         by_cases c35 : t202 = 0
         ·rw [if_pos c35] at H
          have c35b0 : (t202 == 0) = true := beq_iff_eq.mpr c35
          have c35b1 : (t202 != 0) = false := bne_eq_false_iff_eq.mpr c35
          clear c35
          by_cases c36 : t197.toList = t194.toList
          ·rw [if_pos c36] at H
           have c36b0 : (t197.toList == t194.toList) = true := beq_iff_eq.mpr c36
           have c36b1 : (t197.toList != t194.toList) = false := bne_eq_false_iff_eq.mpr c36
           clear c36
           have H' := Aside0.mk H
           clear H
           go_wp2
           go_meet
           case rel => exact ⟨_, ((t198 != t195)), (by first | rfl | (simp; done) | (simp [*]; done)), H', ⟨by first | omega | exact Nat.le_refl _⟩, ⟨by (with_reducible repeat (first | refine blk_drewN ?_ _ | refine blk_drew ?_ | refine blk_alloc ?_ _)); exact BK188.out⟩, ⟨by repeat (first | (with_reducible first | exact HB.out | apply below_alloc | apply pw_below_drewN | apply below_drew1 | refine below_set ?_ GE188.out) | exact HB.out)⟩⟩
          ·rw [if_neg c36] at H
           have c36b0 : (t197.toList == t194.toList) = false := beq_eq_false_iff_ne.mpr c36
           have c36b1 : (t197.toList != t194.toList) = true := bne_iff_ne.mpr c36
           have H' := Aside0.mk H
           clear H
           go_wp2
           go_meet
           case rel => exact ⟨_, (true), (by first | rfl | (simp; done) | (simp [*]; done)), H', ⟨by first | omega | exact Nat.le_refl _⟩, ⟨by (with_reducible repeat (first | refine blk_drewN ?_ _ | refine blk_drew ?_ | refine blk_alloc ?_ _)); exact BK188.out⟩, ⟨by repeat (first | (with_reducible first | exact HB.out | apply below_alloc | apply pw_below_drewN | apply below_drew1 | refine below_set ?_ GE188.out) | exact HB.out)⟩⟩
         ·rw [if_neg c35] at H
          have c35b0 : (t202 == 0) = false := beq_eq_false_iff_ne.mpr c35
          have c35b1 : (t202 != 0) = true := bne_iff_ne.mpr c35
          have H' := Aside0.mk H
          clear H
          go_wp2
          go_meet
          case rel => exact ⟨_, (true), (by first | rfl | (simp; done) | (simp [*]; done)), H', ⟨by first | omega | exact Nat.le_refl _⟩, ⟨by (with_reducible repeat (first | refine blk_drewN ?_ _ | refine blk_drew ?_ | refine blk_alloc ?_ _)); exact BK188.out⟩, ⟨by repeat (first | (with_reducible first | exact HB.out | apply below_alloc | apply pw_below_drewN | apply below_drew1 | refine below_set ?_ GE188.out) | exact HB.out)⟩⟩
        ·rw [if_neg c34] at H
         have c34b0 : (t201.toList == t194.toList) = false := beq_eq_false_iff_ne.mpr c34
         have c34b1 : (t201.toList != t194.toList) = true := bne_iff_ne.mpr c34
         have H' := Aside0.mk H
         clear H
         go_wp2
         go_meet
         case rel => exact ⟨_, (true), (by first | rfl | (simp; done) | (simp [*]; done)), H', ⟨by first | omega | exact Nat.le_refl _⟩, ⟨by (with_reducible repeat (first | refine blk_drewN ?_ _ | refine blk_drew ?_ | refine blk_alloc ?_ _)); exact BK188.out⟩, ⟨by repeat (first | (with_reducible first | exact HB.out | apply below_alloc | apply pw_below_drewN | apply below_drew1 | refine below_set ?_ GE188.out) | exact HB.out)⟩⟩
       ·rw [if_neg c33] at H
        have c33b0 : (t203 == 0) = false := beq_eq_false_iff_ne.mpr c33
        have c33b1 : (t203 != 0) = true := bne_iff_ne.mpr c33
        have H' := Aside0.mk H
        clear H
        go_wp2
        go_meet
        case rel => exact ⟨_, (true), (by first | rfl | (simp; done) | (simp [*]; done)), H', ⟨by first | omega | exact Nat.le_refl _⟩, ⟨by (with_reducible repeat (first | refine blk_drewN ?_ _ | refine blk_drew ?_ | refine blk_alloc ?_ _)); exact BK188.out⟩, ⟨by repeat (first | (with_reducible first | exact HB.out | apply below_alloc | apply pw_below_drewN | apply below_drew1 | refine below_set ?_ GE188.out) | exact HB.out)⟩⟩
      ·rw [if_neg c32] at H
       have c32b0 : decide (t195 < (wrap64 (Int.tmod (IntKind.u64.wrap (a3)) 500))) = false := decide_eq_false c32
       clear c32
       have H' := Aside0.mk H
       clear H
       go_wp2
       go_meet
       case rel => exact ⟨_, (false), (by first | rfl | (simp; done) | (simp [*]; done)), H', ⟨by first | omega | exact Nat.le_refl _⟩, ⟨by (with_reducible repeat (first | refine blk_drewN ?_ _ | refine blk_drew ?_ | refine blk_alloc ?_ _)); exact BK188.out⟩, ⟨by repeat (first | (with_reducible first | exact HB.out | apply below_alloc | apply pw_below_drewN | apply below_drew1 | refine below_set ?_ GE188.out) | exact HB.out)⟩⟩
    ·rw [if_neg c22] at H
     have c22b0 : (t203 == t199) = false := beq_eq_false_iff_ne.mpr c22
     have c22b1 : (t203 != t199) = true := bne_iff_ne.mpr c22
     (first | rw [c22b0] | (simp only [i64_w, i32_w]; rw [c22b0]) | skip)
     have H' := Aside0.mk H
     clear H
     go_wp2
     go_meet
     case rel => exact ⟨_, (true), (by first | rfl | (simp; done) | (simp [*]; done)), H', ⟨by first | omega | exact Nat.le_refl _⟩, ⟨by (with_reducible repeat (first | refine blk_drewN ?_ _ | refine blk_drew ?_ | refine blk_alloc ?_ _)); exact BK188.out⟩, ⟨by repeat (first | (with_reducible first | exact HB.out | apply below_alloc | apply pw_below_drewN | apply below_drew1 | refine below_set ?_ GE188.out) | exact HB.out)⟩⟩
   case rest =>
    clear HC12
    try clear c1
    try clear c2
    try clear p2
    try clear c3
    try clear c5
    try clear p6
    try clear c7
    try clear c9
    try clear c10
    try clear c10b0
    try clear c10b1
    try clear c13
    try clear c22
    try clear c22b0
    try clear c22b1
    try clear c23
    try clear c23b0
    try clear c23b1
    try clear c24
    try clear c24b0
    try clear c24b1
    try clear c25
    try clear c25b0
    try clear c25b1
    try clear c26
    try clear c26b0
    try clear c26b1
    try clear c27
    try clear c27b0
    try clear c28
    try clear c28b0
    try clear c28b1
    try clear c29
    try clear c29b0
    try clear c29b1
    try clear c30
    try clear c30b0
    try clear c30b1
    try clear c31
    try clear c31b0
    try clear c32
    try clear c32b0
    try clear c33
    try clear c33b0
    try clear c33b1
    try clear c34
    try clear c34b0
    try clear c34b1
    try clear c35
    try clear c35b0
    try clear c35b1
    try clear c36
    try clear c36b0
    try clear c36b1
    try clear hcz14_0
    try clear hcz14_1
    try clear hcz14_2
    try clear hcz14_3
    try clear hcz16_0
    try clear hcz16_1
    try clear hcz16_2
    try clear hcz16_3
    try clear hcz18_0
    try clear hcz18_1
    try clear hcz18_2
    try clear hcz18_3
    try clear hcz20_0
    try clear hcz20_1
    try clear hcz20_2
    try clear hcz20_3
    try clear hfz14_0
    try clear hfz14_1
    try clear hfz14_2
    try clear hfz14_3
    try clear hfz16_0
    try clear hfz16_1
    try clear hfz16_2
    try clear hfz16_3
    try clear hfz18_0
    try clear hfz18_1
    try clear hfz18_2
    try clear hfz18_3
    try clear hfz20_0
    try clear hfz20_1
    try clear hfz20_2
    try clear hfz20_3
    obtain ⟨kq, x143_11, rfl, HA, HJ11, BK188, HB⟩ := hcut
    cases kq with
    | zero => exact absurd HA.out (by simp [comfitlaw06_TagsParts.j0])
    | succ kj11 =>
     have H := HA.out
     clear HA
     simp only [comfitlaw06_TagsParts.j0] at H
     by_cases c37 : x143_11 = true
     ·subst c37
      have H1 : (some false) = some r := by rw [if_pos rfl] at H; exact H
      clear H
      have H := H1
      clear H1
      obtain rfl := Option.some.inj H
      go_wp2
      go_ret
      exact ⟨by first | rfl | (simp [errW_none, errW_some] <;> rfl) | (simp [*, errW_none, errW_some] <;> rfl), by repeat (first | (with_reducible first | exact HB.out | apply below_alloc | apply pw_below_drewN | apply below_drew1 | refine below_set ?_ GE188.out) | exact HB.out)⟩
     ·replace c37 := Bool.eq_false_iff.mpr c37
      subst c37
      have H1 : ((tags_Cut.f a0 a1_0 a1_1 a1_2 a1_3 a2).bind fun bt204 => (if (a2.size : Int) < a0 then (if bt204.2 = 4 then (if t194.toList = a2.toList then ((comfitlaw06_awake.f kj11).bind fun t206 => (some t206)) else (some false)) else (some false)) else (if 0 < (a2.size : Int) then (if (((bt a2 0) - 97) % 256) = 0 then (if bt204.2 = 0 then (if (bt204.1.size : Int) = (wrap64 ((wrap64 ((a2.size : Int) - a0)) + (a1_0.size : Int))) then ((comfitlaw06_awake.f kj11).bind fun t207 => (some t207)) else (if bt204.2 = 6 then (if (wrap64 ((wrap64 ((a2.size : Int) - a0)) + (a1_0.size : Int))) > 200 then ((comfitlaw06_awake.f kj11).bind fun t208 => (some t208)) else (some false)) else (some false))) else (if bt204.2 = 6 then (if (wrap64 ((wrap64 ((a2.size : Int) - a0)) + (a1_0.size : Int))) > 200 then ((comfitlaw06_awake.f kj11).bind fun t209 => (some t209)) else (some false)) else (some false))) else (if (((bt a2 0) - 97) % 256) = 1 then (if bt204.2 = 0 then (if (bt204.1.size : Int) = (wrap64 ((wrap64 ((a2.size : Int) - a0)) + (a1_1.size : Int))) then ((comfitlaw06_awake.f kj11).bind fun t210 => (some t210)) else (if bt204.2 = 6 then (if (wrap64 ((wrap64 ((a2.size : Int) - a0)) + (a1_1.size : Int))) > 200 then ((comfitlaw06_awake.f kj11).bind fun t211 => (some t211)) else (some false)) else (some false))) else (if bt204.2 = 6 then (if (wrap64 ((wrap64 ((a2.size : Int) - a0)) + (a1_1.size : Int))) > 200 then ((comfitlaw06_awake.f kj11).bind fun t212 => (some t212)) else (some false)) else (some false))) else (if (((bt a2 0) - 97) % 256) = 2 then (if bt204.2 = 0 then (if (bt204.1.size : Int) = (wrap64 ((wrap64 ((a2.size : Int) - a0)) + (a1_2.size : Int))) then ((comfitlaw06_awake.f kj11).bind fun t213 => (some t213)) else (if bt204.2 = 6 then (if (wrap64 ((wrap64 ((a2.size : Int) - a0)) + (a1_2.size : Int))) > 200 then ((comfitlaw06_awake.f kj11).bind fun t214 => (some t214)) else (some false)) else (some false))) else (if bt204.2 = 6 then (if (wrap64 ((wrap64 ((a2.size : Int) - a0)) + (a1_2.size : Int))) > 200 then ((comfitlaw06_awake.f kj11).bind fun t215 => (some t215)) else (some false)) else (some false))) else (if (((bt a2 0) - 97) % 256) = 3 then (if bt204.2 = 0 then (if (bt204.1.size : Int) = (wrap64 ((wrap64 ((a2.size : Int) - a0)) + (a1_3.size : Int))) then ((comfitlaw06_awake.f kj11).bind fun t216 => (some t216)) else (if bt204.2 = 6 then (if (wrap64 ((wrap64 ((a2.size : Int) - a0)) + (a1_3.size : Int))) > 200 then ((comfitlaw06_awake.f kj11).bind fun t217 => (some t217)) else (some false)) else (some false))) else (if bt204.2 = 6 then (if (wrap64 ((wrap64 ((a2.size : Int) - a0)) + (a1_3.size : Int))) > 200 then ((comfitlaw06_awake.f kj11).bind fun t218 => (some t218)) else (some false)) else (some false))) else (none))))) else (none)))) = some r := by rw [if_neg (show ¬ (false = true) by decide)] at H; exact H
      clear H
      have H := H1
      clear H1
      replace H := Option.bind_eq_some_iff.mp H
      obtain ⟨⟨t204, t205⟩, A380, H⟩ := H
      replace H : (if (a2.size : Int) < a0 then (if t205 = 4 then (if t194.toList = a2.toList then ((comfitlaw06_awake.f kj11).bind fun t206 => (some t206)) else (some false)) else (some false)) else (if 0 < (a2.size : Int) then (if (((bt a2 0) - 97) % 256) = 0 then (if t205 = 0 then (if (t204.size : Int) = (wrap64 ((wrap64 ((a2.size : Int) - a0)) + (a1_0.size : Int))) then ((comfitlaw06_awake.f kj11).bind fun t207 => (some t207)) else (if t205 = 6 then (if (wrap64 ((wrap64 ((a2.size : Int) - a0)) + (a1_0.size : Int))) > 200 then ((comfitlaw06_awake.f kj11).bind fun t208 => (some t208)) else (some false)) else (some false))) else (if t205 = 6 then (if (wrap64 ((wrap64 ((a2.size : Int) - a0)) + (a1_0.size : Int))) > 200 then ((comfitlaw06_awake.f kj11).bind fun t209 => (some t209)) else (some false)) else (some false))) else (if (((bt a2 0) - 97) % 256) = 1 then (if t205 = 0 then (if (t204.size : Int) = (wrap64 ((wrap64 ((a2.size : Int) - a0)) + (a1_1.size : Int))) then ((comfitlaw06_awake.f kj11).bind fun t210 => (some t210)) else (if t205 = 6 then (if (wrap64 ((wrap64 ((a2.size : Int) - a0)) + (a1_1.size : Int))) > 200 then ((comfitlaw06_awake.f kj11).bind fun t211 => (some t211)) else (some false)) else (some false))) else (if t205 = 6 then (if (wrap64 ((wrap64 ((a2.size : Int) - a0)) + (a1_1.size : Int))) > 200 then ((comfitlaw06_awake.f kj11).bind fun t212 => (some t212)) else (some false)) else (some false))) else (if (((bt a2 0) - 97) % 256) = 2 then (if t205 = 0 then (if (t204.size : Int) = (wrap64 ((wrap64 ((a2.size : Int) - a0)) + (a1_2.size : Int))) then ((comfitlaw06_awake.f kj11).bind fun t213 => (some t213)) else (if t205 = 6 then (if (wrap64 ((wrap64 ((a2.size : Int) - a0)) + (a1_2.size : Int))) > 200 then ((comfitlaw06_awake.f kj11).bind fun t214 => (some t214)) else (some false)) else (some false))) else (if t205 = 6 then (if (wrap64 ((wrap64 ((a2.size : Int) - a0)) + (a1_2.size : Int))) > 200 then ((comfitlaw06_awake.f kj11).bind fun t215 => (some t215)) else (some false)) else (some false))) else (if (((bt a2 0) - 97) % 256) = 3 then (if t205 = 0 then (if (t204.size : Int) = (wrap64 ((wrap64 ((a2.size : Int) - a0)) + (a1_3.size : Int))) then ((comfitlaw06_awake.f kj11).bind fun t216 => (some t216)) else (if t205 = 6 then (if (wrap64 ((wrap64 ((a2.size : Int) - a0)) + (a1_3.size : Int))) > 200 then ((comfitlaw06_awake.f kj11).bind fun t217 => (some t217)) else (some false)) else (some false))) else (if t205 = 6 then (if (wrap64 ((wrap64 ((a2.size : Int) - a0)) + (a1_3.size : Int))) > 200 then ((comfitlaw06_awake.f kj11).bind fun t218 => (some t218)) else (some false)) else (some false))) else (none))))) else (none))) = some r := H
      have A38 := Aside0.mk A380
      clear A380
      by_cases c39 : (a2.size : Int) < a0
      ·rw [if_pos c39] at H
       have c39b0 : decide ((a2.size : Int) < a0) = true := decide_eq_true c39
       clear c39
       by_cases c40 : t205 = 4
       ·rw [if_pos c40] at H
        have c40b0 : (t205 == 4) = true := beq_iff_eq.mpr c40
        have c40b1 : (t205 != 4) = false := bne_eq_false_iff_eq.mpr c40
        clear c40
        by_cases c41 : t194.toList = a2.toList
        ·rw [if_pos c41] at H
         have c41b0 : (t194.toList == a2.toList) = true := beq_iff_eq.mpr c41
         have c41b1 : (t194.toList != a2.toList) = false := bne_eq_false_iff_eq.mpr c41
         clear c41
         replace H := Option.bind_eq_some_iff.mp H
         obtain ⟨t206, A420, H⟩ := H
         replace H : (some t206) = some r := H
         have A42 := Aside0.mk A420
         clear A420
         obtain rfl := Option.some.inj H
         have hcz43_0 : wc.cell? ⟨gb188, 0, none⟩ = some (.string a1_0) := (blk_cell BK188.out 0).trans rfl
         have hcz43_1 : wc.cell? ⟨gb188, 1, none⟩ = some (.string a1_1) := (blk_cell BK188.out 1).trans rfl
         have hcz43_2 : wc.cell? ⟨gb188, 2, none⟩ = some (.string a1_2) := (blk_cell BK188.out 2).trans rfl
         have hcz43_3 : wc.cell? ⟨gb188, 3, none⟩ = some (.string a1_3) := (blk_cell BK188.out 3).trans rfl
         have hfz43_0 := blk_frozen BK188.out 0
         have hfz43_1 := blk_frozen BK188.out 1
         have hfz43_2 := blk_frozen BK188.out 2
         have hfz43_3 := blk_frozen BK188.out 3
         go_wp2_with (first | ((with_reducible refine gate_callee (f := 12) rfl ?_); refine goesL_ (some 148) rfl rfl Tryd.func12 (by kernel_rfl) rfl #[.int .i64 a0, .agg #[.string a1_0, .string a1_1, .string a1_2, .string a1_3], .string a2] rfl al_ ?_; (with_reducible refine (tags_Cut.calls a0 a1_0 a1_1 a1_2 a1_3 a2 t204 t205 _ A38.out).mono ?_); rintro e w44 ⟨rfl, hb⟩; refine ⟨_, rfl, ?_⟩; have n0_ := Aside0.mk (bkb_ BK188.out hb); have n1_ := Aside0.mk (below_step (hb_ HB.out) hb); clear BK188; clear HB; have BK188 := n0_; have HB := n1_; clear n0_ n1_; (try clear hb); (try clear hb2); (try clear hk); (try clear hi)) | (go_at_call 10; (with_reducible refine (comfitlaw06_awake.calls kj11  t206 _ A42.out).mono ?_); rintro e w45 ⟨rfl, hb⟩; have n0_ := Aside0.mk (bkb_ BK188.out hb); have n1_ := Aside0.mk (below_step (hb_ HB.out) hb); clear BK188; clear HB; have BK188 := n0_; have HB := n1_; clear n0_ n1_; (try clear hb); (try clear hb2); (try clear hk); (try clear hi)))
         go_ret
         exact ⟨by first | rfl | (simp [errW_none, errW_some] <;> rfl) | (simp [*, errW_none, errW_some] <;> rfl), by repeat (first | (with_reducible first | exact HB.out | apply below_alloc | apply pw_below_drewN | apply below_drew1 | refine below_set ?_ GE188.out) | exact HB.out)⟩
        ·rw [if_neg c41] at H
         have c41b0 : (t194.toList == a2.toList) = false := beq_eq_false_iff_ne.mpr c41
         have c41b1 : (t194.toList != a2.toList) = true := bne_iff_ne.mpr c41
         obtain rfl := Option.some.inj H
         have hcz46_0 : wc.cell? ⟨gb188, 0, none⟩ = some (.string a1_0) := (blk_cell BK188.out 0).trans rfl
         have hcz46_1 : wc.cell? ⟨gb188, 1, none⟩ = some (.string a1_1) := (blk_cell BK188.out 1).trans rfl
         have hcz46_2 : wc.cell? ⟨gb188, 2, none⟩ = some (.string a1_2) := (blk_cell BK188.out 2).trans rfl
         have hcz46_3 : wc.cell? ⟨gb188, 3, none⟩ = some (.string a1_3) := (blk_cell BK188.out 3).trans rfl
         have hfz46_0 := blk_frozen BK188.out 0
         have hfz46_1 := blk_frozen BK188.out 1
         have hfz46_2 := blk_frozen BK188.out 2
         have hfz46_3 := blk_frozen BK188.out 3
         go_wp2_with (first | ((with_reducible refine gate_callee (f := 12) rfl ?_); refine goesL_ (some 148) rfl rfl Tryd.func12 (by kernel_rfl) rfl #[.int .i64 a0, .agg #[.string a1_0, .string a1_1, .string a1_2, .string a1_3], .string a2] rfl al_ ?_; (with_reducible refine (tags_Cut.calls a0 a1_0 a1_1 a1_2 a1_3 a2 t204 t205 _ A38.out).mono ?_); rintro e w47 ⟨rfl, hb⟩; refine ⟨_, rfl, ?_⟩; have n0_ := Aside0.mk (bkb_ BK188.out hb); have n1_ := Aside0.mk (below_step (hb_ HB.out) hb); clear BK188; clear HB; have BK188 := n0_; have HB := n1_; clear n0_ n1_; (try clear hb); (try clear hb2); (try clear hk); (try clear hi)))
         go_ret
         exact ⟨by first | rfl | (simp [errW_none, errW_some] <;> rfl) | (simp [*, errW_none, errW_some] <;> rfl), by repeat (first | (with_reducible first | exact HB.out | apply below_alloc | apply pw_below_drewN | apply below_drew1 | refine below_set ?_ GE188.out) | exact HB.out)⟩
       ·rw [if_neg c40] at H
        have c40b0 : (t205 == 4) = false := beq_eq_false_iff_ne.mpr c40
        have c40b1 : (t205 != 4) = true := bne_iff_ne.mpr c40
        obtain rfl := Option.some.inj H
        have hcz48_0 : wc.cell? ⟨gb188, 0, none⟩ = some (.string a1_0) := (blk_cell BK188.out 0).trans rfl
        have hcz48_1 : wc.cell? ⟨gb188, 1, none⟩ = some (.string a1_1) := (blk_cell BK188.out 1).trans rfl
        have hcz48_2 : wc.cell? ⟨gb188, 2, none⟩ = some (.string a1_2) := (blk_cell BK188.out 2).trans rfl
        have hcz48_3 : wc.cell? ⟨gb188, 3, none⟩ = some (.string a1_3) := (blk_cell BK188.out 3).trans rfl
        have hfz48_0 := blk_frozen BK188.out 0
        have hfz48_1 := blk_frozen BK188.out 1
        have hfz48_2 := blk_frozen BK188.out 2
        have hfz48_3 := blk_frozen BK188.out 3
        go_wp2_with (first | ((with_reducible refine gate_callee (f := 12) rfl ?_); refine goesL_ (some 148) rfl rfl Tryd.func12 (by kernel_rfl) rfl #[.int .i64 a0, .agg #[.string a1_0, .string a1_1, .string a1_2, .string a1_3], .string a2] rfl al_ ?_; (with_reducible refine (tags_Cut.calls a0 a1_0 a1_1 a1_2 a1_3 a2 t204 t205 _ A38.out).mono ?_); rintro e w49 ⟨rfl, hb⟩; refine ⟨_, rfl, ?_⟩; have n0_ := Aside0.mk (bkb_ BK188.out hb); have n1_ := Aside0.mk (below_step (hb_ HB.out) hb); clear BK188; clear HB; have BK188 := n0_; have HB := n1_; clear n0_ n1_; (try clear hb); (try clear hb2); (try clear hk); (try clear hi)))
        go_ret
        exact ⟨by first | rfl | (simp [errW_none, errW_some] <;> rfl) | (simp [*, errW_none, errW_some] <;> rfl), by repeat (first | (with_reducible first | exact HB.out | apply below_alloc | apply pw_below_drewN | apply below_drew1 | refine below_set ?_ GE188.out) | exact HB.out)⟩
      ·rw [if_neg c39] at H
       have c39b0 : decide ((a2.size : Int) < a0) = false := decide_eq_false c39
       clear c39
       by_cases c50 : 0 < (a2.size : Int)
       ·rw [if_pos c50] at H
        have c50b0 : decide (0 < (a2.size : Int)) = true := decide_eq_true c50
        have c50b1 : decide (0 < a2.size) = true := decide_eq_true (by omega)
        clear c50
        obtain ⟨iq52, hiq52⟩ : ∃ b_ : Int, (((bt a2 0) - 97) % 256) = b_ := ⟨_, rfl⟩
        replace H : (if (iq52) = 0 then (if t205 = 0 then (if (t204.size : Int) = (wrap64 ((wrap64 ((a2.size : Int) - a0)) + (a1_0.size : Int))) then ((comfitlaw06_awake.f kj11).bind fun t207 => (some t207)) else (if t205 = 6 then (if (wrap64 ((wrap64 ((a2.size : Int) - a0)) + (a1_0.size : Int))) > 200 then ((comfitlaw06_awake.f kj11).bind fun t208 => (some t208)) else (some false)) else (some false))) else (if t205 = 6 then (if (wrap64 ((wrap64 ((a2.size : Int) - a0)) + (a1_0.size : Int))) > 200 then ((comfitlaw06_awake.f kj11).bind fun t209 => (some t209)) else (some false)) else (some false))) else (if (iq52) = 1 then (if t205 = 0 then (if (t204.size : Int) = (wrap64 ((wrap64 ((a2.size : Int) - a0)) + (a1_1.size : Int))) then ((comfitlaw06_awake.f kj11).bind fun t210 => (some t210)) else (if t205 = 6 then (if (wrap64 ((wrap64 ((a2.size : Int) - a0)) + (a1_1.size : Int))) > 200 then ((comfitlaw06_awake.f kj11).bind fun t211 => (some t211)) else (some false)) else (some false))) else (if t205 = 6 then (if (wrap64 ((wrap64 ((a2.size : Int) - a0)) + (a1_1.size : Int))) > 200 then ((comfitlaw06_awake.f kj11).bind fun t212 => (some t212)) else (some false)) else (some false))) else (if (iq52) = 2 then (if t205 = 0 then (if (t204.size : Int) = (wrap64 ((wrap64 ((a2.size : Int) - a0)) + (a1_2.size : Int))) then ((comfitlaw06_awake.f kj11).bind fun t213 => (some t213)) else (if t205 = 6 then (if (wrap64 ((wrap64 ((a2.size : Int) - a0)) + (a1_2.size : Int))) > 200 then ((comfitlaw06_awake.f kj11).bind fun t214 => (some t214)) else (some false)) else (some false))) else (if t205 = 6 then (if (wrap64 ((wrap64 ((a2.size : Int) - a0)) + (a1_2.size : Int))) > 200 then ((comfitlaw06_awake.f kj11).bind fun t215 => (some t215)) else (some false)) else (some false))) else (if (iq52) = 3 then (if t205 = 0 then (if (t204.size : Int) = (wrap64 ((wrap64 ((a2.size : Int) - a0)) + (a1_3.size : Int))) then ((comfitlaw06_awake.f kj11).bind fun t216 => (some t216)) else (if t205 = 6 then (if (wrap64 ((wrap64 ((a2.size : Int) - a0)) + (a1_3.size : Int))) > 200 then ((comfitlaw06_awake.f kj11).bind fun t217 => (some t217)) else (some false)) else (some false))) else (if t205 = 6 then (if (wrap64 ((wrap64 ((a2.size : Int) - a0)) + (a1_3.size : Int))) > 200 then ((comfitlaw06_awake.f kj11).bind fun t218 => (some t218)) else (some false)) else (some false))) else (none))))) = some r := by first | (rw [hiq52] at H; exact H) | (simp only [hiq52] at H ⊢; exact H)
        (try rw [hiq52] at A38)
        (try rw [hiq52])
        have Niq52 := Aside0.mk hiq52.symm
        by_cases c53 : (iq52) = 0
        ·rw [if_pos c53] at H
         subst c53
         by_cases c54 : t205 = 0
         ·rw [if_pos c54] at H
          have c54b0 : (t205 == 0) = true := beq_iff_eq.mpr c54
          have c54b1 : (t205 != 0) = false := bne_eq_false_iff_eq.mpr c54
          clear c54
          by_cases c55 : (t204.size : Int) = (wrap64 ((wrap64 ((a2.size : Int) - a0)) + (a1_0.size : Int)))
          ·rw [if_pos c55] at H
           have c55b0 : ((t204.size : Int) == (wrap64 ((wrap64 ((a2.size : Int) - a0)) + (a1_0.size : Int)))) = true := beq_iff_eq.mpr c55
           have c55b1 : ((t204.size : Int) != (wrap64 ((wrap64 ((a2.size : Int) - a0)) + (a1_0.size : Int)))) = false := bne_eq_false_iff_eq.mpr c55
           clear c55
           replace H := Option.bind_eq_some_iff.mp H
           obtain ⟨t207, A560, H⟩ := H
           replace H : (some t207) = some r := H
           have A56 := Aside0.mk A560
           clear A560
           obtain rfl := Option.some.inj H
           have hcz57_0 : wc.cell? ⟨gb188, 0, none⟩ = some (.string a1_0) := (blk_cell BK188.out 0).trans rfl
           have hcz57_1 : wc.cell? ⟨gb188, 1, none⟩ = some (.string a1_1) := (blk_cell BK188.out 1).trans rfl
           have hcz57_2 : wc.cell? ⟨gb188, 2, none⟩ = some (.string a1_2) := (blk_cell BK188.out 2).trans rfl
           have hcz57_3 : wc.cell? ⟨gb188, 3, none⟩ = some (.string a1_3) := (blk_cell BK188.out 3).trans rfl
           have hfz57_0 := blk_frozen BK188.out 0
           have hfz57_1 := blk_frozen BK188.out 1
           have hfz57_2 := blk_frozen BK188.out 2
           have hfz57_3 := blk_frozen BK188.out 3
           go_wp2_with (first | ((with_reducible refine gate_callee (f := 12) rfl ?_); refine goesL_ (some 148) rfl rfl Tryd.func12 (by kernel_rfl) rfl #[.int .i64 a0, .agg #[.string a1_0, .string a1_1, .string a1_2, .string a1_3], .string a2] rfl al_ ?_; (with_reducible refine (tags_Cut.calls a0 a1_0 a1_1 a1_2 a1_3 a2 t204 t205 _ A38.out).mono ?_); rintro e w58 ⟨rfl, hb⟩; refine ⟨_, rfl, ?_⟩; have n0_ := Aside0.mk (bkb_ BK188.out hb); have n1_ := Aside0.mk (below_step (hb_ HB.out) hb); clear BK188; clear HB; have BK188 := n0_; have HB := n1_; clear n0_ n1_; (try clear hb); (try clear hb2); (try clear hk); (try clear hi); have p51 : 0 ≤ (0 : Int) := (by omega); have q51 : 0 < a2.size := (by have : (0 : Int) < (a2.size : Int) := of_decide_eq_true (by first | (with_reducible assumption) | assumption); omega); have hx51 : ∀ h : 0 < a2.size, ((a2[0]'h).toNat : Int) = bt a2 0 := bt_at a2 0; clear p51; have qi51 : (0 < (a2.size : Int)) = True := eq_true (of_decide_eq_true (by first | (with_reducible assumption) | assumption)); replace q51 := eq_true q51; have hcz59_0 : w58.cell? ⟨gb188, 0, none⟩ = some (.string a1_0) := (blk_cell BK188.out 0).trans rfl; have hcz59_1 : w58.cell? ⟨gb188, 1, none⟩ = some (.string a1_1) := (blk_cell BK188.out 1).trans rfl; have hcz59_2 : w58.cell? ⟨gb188, 2, none⟩ = some (.string a1_2) := (blk_cell BK188.out 2).trans rfl; have hcz59_3 : w58.cell? ⟨gb188, 3, none⟩ = some (.string a1_3) := (blk_cell BK188.out 3).trans rfl; have hfz59_0 := blk_frozen BK188.out 0; have hfz59_1 := blk_frozen BK188.out 1; have hfz59_2 := blk_frozen BK188.out 2; have hfz59_3 := blk_frozen BK188.out 3) | (go_at_call 10; (with_reducible refine (comfitlaw06_awake.calls kj11  t207 _ A56.out).mono ?_); rintro e w60 ⟨rfl, hb⟩; have n0_ := Aside0.mk (bkb_ BK188.out hb); have n1_ := Aside0.mk (below_step (hb_ HB.out) hb); clear BK188; clear HB; have BK188 := n0_; have HB := n1_; clear n0_ n1_; (try clear hb); (try clear hb2); (try clear hk); (try clear hi)))
           go_ret
           exact ⟨by first | rfl | (simp [errW_none, errW_some] <;> rfl) | (simp [*, errW_none, errW_some] <;> rfl), by repeat (first | (with_reducible first | exact HB.out | apply below_alloc | apply pw_below_drewN | apply below_drew1 | refine below_set ?_ GE188.out) | exact HB.out)⟩
          ·rw [if_neg c55] at H
           have c55b0 : ((t204.size : Int) == (wrap64 ((wrap64 ((a2.size : Int) - a0)) + (a1_0.size : Int)))) = false := beq_eq_false_iff_ne.mpr c55
           have c55b1 : ((t204.size : Int) != (wrap64 ((wrap64 ((a2.size : Int) - a0)) + (a1_0.size : Int)))) = true := bne_iff_ne.mpr c55
           by_cases c61 : t205 = 6
           ·rw [if_pos c61] at H
            have c61b0 : (t205 == 6) = true := beq_iff_eq.mpr c61
            have c61b1 : (t205 != 6) = false := bne_eq_false_iff_eq.mpr c61
            clear c61
            by_cases c62 : (wrap64 ((wrap64 ((a2.size : Int) - a0)) + (a1_0.size : Int))) > 200
            ·rw [if_pos c62] at H
             have c62b0 : decide (200 < (wrap64 ((wrap64 ((a2.size : Int) - a0)) + (a1_0.size : Int)))) = true := decide_eq_true c62
             clear c62
             replace H := Option.bind_eq_some_iff.mp H
             obtain ⟨t208, A630, H⟩ := H
             replace H : (some t208) = some r := H
             have A63 := Aside0.mk A630
             clear A630
             obtain rfl := Option.some.inj H
             have hcz64_0 : wc.cell? ⟨gb188, 0, none⟩ = some (.string a1_0) := (blk_cell BK188.out 0).trans rfl
             have hcz64_1 : wc.cell? ⟨gb188, 1, none⟩ = some (.string a1_1) := (blk_cell BK188.out 1).trans rfl
             have hcz64_2 : wc.cell? ⟨gb188, 2, none⟩ = some (.string a1_2) := (blk_cell BK188.out 2).trans rfl
             have hcz64_3 : wc.cell? ⟨gb188, 3, none⟩ = some (.string a1_3) := (blk_cell BK188.out 3).trans rfl
             have hfz64_0 := blk_frozen BK188.out 0
             have hfz64_1 := blk_frozen BK188.out 1
             have hfz64_2 := blk_frozen BK188.out 2
             have hfz64_3 := blk_frozen BK188.out 3
             go_wp2_with (first | ((with_reducible refine gate_callee (f := 12) rfl ?_); refine goesL_ (some 148) rfl rfl Tryd.func12 (by kernel_rfl) rfl #[.int .i64 a0, .agg #[.string a1_0, .string a1_1, .string a1_2, .string a1_3], .string a2] rfl al_ ?_; (with_reducible refine (tags_Cut.calls a0 a1_0 a1_1 a1_2 a1_3 a2 t204 t205 _ A38.out).mono ?_); rintro e w65 ⟨rfl, hb⟩; refine ⟨_, rfl, ?_⟩; have n0_ := Aside0.mk (bkb_ BK188.out hb); have n1_ := Aside0.mk (below_step (hb_ HB.out) hb); clear BK188; clear HB; have BK188 := n0_; have HB := n1_; clear n0_ n1_; (try clear hb); (try clear hb2); (try clear hk); (try clear hi); have p51 : 0 ≤ (0 : Int) := (by omega); have q51 : 0 < a2.size := (by have : (0 : Int) < (a2.size : Int) := of_decide_eq_true (by first | (with_reducible assumption) | assumption); omega); have hx51 : ∀ h : 0 < a2.size, ((a2[0]'h).toNat : Int) = bt a2 0 := bt_at a2 0; clear p51; have qi51 : (0 < (a2.size : Int)) = True := eq_true (of_decide_eq_true (by first | (with_reducible assumption) | assumption)); replace q51 := eq_true q51; have hcz66_0 : w65.cell? ⟨gb188, 0, none⟩ = some (.string a1_0) := (blk_cell BK188.out 0).trans rfl; have hcz66_1 : w65.cell? ⟨gb188, 1, none⟩ = some (.string a1_1) := (blk_cell BK188.out 1).trans rfl; have hcz66_2 : w65.cell? ⟨gb188, 2, none⟩ = some (.string a1_2) := (blk_cell BK188.out 2).trans rfl; have hcz66_3 : w65.cell? ⟨gb188, 3, none⟩ = some (.string a1_3) := (blk_cell BK188.out 3).trans rfl; have hfz66_0 := blk_frozen BK188.out 0; have hfz66_1 := blk_frozen BK188.out 1; have hfz66_2 := blk_frozen BK188.out 2; have hfz66_3 := blk_frozen BK188.out 3) | (go_at_call 10; (with_reducible refine (comfitlaw06_awake.calls kj11  t208 _ A63.out).mono ?_); rintro e w67 ⟨rfl, hb⟩; have n0_ := Aside0.mk (bkb_ BK188.out hb); have n1_ := Aside0.mk (below_step (hb_ HB.out) hb); clear BK188; clear HB; have BK188 := n0_; have HB := n1_; clear n0_ n1_; (try clear hb); (try clear hb2); (try clear hk); (try clear hi)))
             go_ret
             exact ⟨by first | rfl | (simp [errW_none, errW_some] <;> rfl) | (simp [*, errW_none, errW_some] <;> rfl), by repeat (first | (with_reducible first | exact HB.out | apply below_alloc | apply pw_below_drewN | apply below_drew1 | refine below_set ?_ GE188.out) | exact HB.out)⟩
            ·rw [if_neg c62] at H
             have c62b0 : decide (200 < (wrap64 ((wrap64 ((a2.size : Int) - a0)) + (a1_0.size : Int)))) = false := decide_eq_false c62
             clear c62
             obtain rfl := Option.some.inj H
             have hcz68_0 : wc.cell? ⟨gb188, 0, none⟩ = some (.string a1_0) := (blk_cell BK188.out 0).trans rfl
             have hcz68_1 : wc.cell? ⟨gb188, 1, none⟩ = some (.string a1_1) := (blk_cell BK188.out 1).trans rfl
             have hcz68_2 : wc.cell? ⟨gb188, 2, none⟩ = some (.string a1_2) := (blk_cell BK188.out 2).trans rfl
             have hcz68_3 : wc.cell? ⟨gb188, 3, none⟩ = some (.string a1_3) := (blk_cell BK188.out 3).trans rfl
             have hfz68_0 := blk_frozen BK188.out 0
             have hfz68_1 := blk_frozen BK188.out 1
             have hfz68_2 := blk_frozen BK188.out 2
             have hfz68_3 := blk_frozen BK188.out 3
             go_wp2_with (first | ((with_reducible refine gate_callee (f := 12) rfl ?_); refine goesL_ (some 148) rfl rfl Tryd.func12 (by kernel_rfl) rfl #[.int .i64 a0, .agg #[.string a1_0, .string a1_1, .string a1_2, .string a1_3], .string a2] rfl al_ ?_; (with_reducible refine (tags_Cut.calls a0 a1_0 a1_1 a1_2 a1_3 a2 t204 t205 _ A38.out).mono ?_); rintro e w69 ⟨rfl, hb⟩; refine ⟨_, rfl, ?_⟩; have n0_ := Aside0.mk (bkb_ BK188.out hb); have n1_ := Aside0.mk (below_step (hb_ HB.out) hb); clear BK188; clear HB; have BK188 := n0_; have HB := n1_; clear n0_ n1_; (try clear hb); (try clear hb2); (try clear hk); (try clear hi); have p51 : 0 ≤ (0 : Int) := (by omega); have q51 : 0 < a2.size := (by have : (0 : Int) < (a2.size : Int) := of_decide_eq_true (by first | (with_reducible assumption) | assumption); omega); have hx51 : ∀ h : 0 < a2.size, ((a2[0]'h).toNat : Int) = bt a2 0 := bt_at a2 0; clear p51; have qi51 : (0 < (a2.size : Int)) = True := eq_true (of_decide_eq_true (by first | (with_reducible assumption) | assumption)); replace q51 := eq_true q51; have hcz70_0 : w69.cell? ⟨gb188, 0, none⟩ = some (.string a1_0) := (blk_cell BK188.out 0).trans rfl; have hcz70_1 : w69.cell? ⟨gb188, 1, none⟩ = some (.string a1_1) := (blk_cell BK188.out 1).trans rfl; have hcz70_2 : w69.cell? ⟨gb188, 2, none⟩ = some (.string a1_2) := (blk_cell BK188.out 2).trans rfl; have hcz70_3 : w69.cell? ⟨gb188, 3, none⟩ = some (.string a1_3) := (blk_cell BK188.out 3).trans rfl; have hfz70_0 := blk_frozen BK188.out 0; have hfz70_1 := blk_frozen BK188.out 1; have hfz70_2 := blk_frozen BK188.out 2; have hfz70_3 := blk_frozen BK188.out 3))
             go_ret
             exact ⟨by first | rfl | (simp [errW_none, errW_some] <;> rfl) | (simp [*, errW_none, errW_some] <;> rfl), by repeat (first | (with_reducible first | exact HB.out | apply below_alloc | apply pw_below_drewN | apply below_drew1 | refine below_set ?_ GE188.out) | exact HB.out)⟩
           ·rw [if_neg c61] at H
            have c61b0 : (t205 == 6) = false := beq_eq_false_iff_ne.mpr c61
            have c61b1 : (t205 != 6) = true := bne_iff_ne.mpr c61
            obtain rfl := Option.some.inj H
            have hcz71_0 : wc.cell? ⟨gb188, 0, none⟩ = some (.string a1_0) := (blk_cell BK188.out 0).trans rfl
            have hcz71_1 : wc.cell? ⟨gb188, 1, none⟩ = some (.string a1_1) := (blk_cell BK188.out 1).trans rfl
            have hcz71_2 : wc.cell? ⟨gb188, 2, none⟩ = some (.string a1_2) := (blk_cell BK188.out 2).trans rfl
            have hcz71_3 : wc.cell? ⟨gb188, 3, none⟩ = some (.string a1_3) := (blk_cell BK188.out 3).trans rfl
            have hfz71_0 := blk_frozen BK188.out 0
            have hfz71_1 := blk_frozen BK188.out 1
            have hfz71_2 := blk_frozen BK188.out 2
            have hfz71_3 := blk_frozen BK188.out 3
            go_wp2_with (first | ((with_reducible refine gate_callee (f := 12) rfl ?_); refine goesL_ (some 148) rfl rfl Tryd.func12 (by kernel_rfl) rfl #[.int .i64 a0, .agg #[.string a1_0, .string a1_1, .string a1_2, .string a1_3], .string a2] rfl al_ ?_; (with_reducible refine (tags_Cut.calls a0 a1_0 a1_1 a1_2 a1_3 a2 t204 t205 _ A38.out).mono ?_); rintro e w72 ⟨rfl, hb⟩; refine ⟨_, rfl, ?_⟩; have n0_ := Aside0.mk (bkb_ BK188.out hb); have n1_ := Aside0.mk (below_step (hb_ HB.out) hb); clear BK188; clear HB; have BK188 := n0_; have HB := n1_; clear n0_ n1_; (try clear hb); (try clear hb2); (try clear hk); (try clear hi); have p51 : 0 ≤ (0 : Int) := (by omega); have q51 : 0 < a2.size := (by have : (0 : Int) < (a2.size : Int) := of_decide_eq_true (by first | (with_reducible assumption) | assumption); omega); have hx51 : ∀ h : 0 < a2.size, ((a2[0]'h).toNat : Int) = bt a2 0 := bt_at a2 0; clear p51; have qi51 : (0 < (a2.size : Int)) = True := eq_true (of_decide_eq_true (by first | (with_reducible assumption) | assumption)); replace q51 := eq_true q51; have hcz73_0 : w72.cell? ⟨gb188, 0, none⟩ = some (.string a1_0) := (blk_cell BK188.out 0).trans rfl; have hcz73_1 : w72.cell? ⟨gb188, 1, none⟩ = some (.string a1_1) := (blk_cell BK188.out 1).trans rfl; have hcz73_2 : w72.cell? ⟨gb188, 2, none⟩ = some (.string a1_2) := (blk_cell BK188.out 2).trans rfl; have hcz73_3 : w72.cell? ⟨gb188, 3, none⟩ = some (.string a1_3) := (blk_cell BK188.out 3).trans rfl; have hfz73_0 := blk_frozen BK188.out 0; have hfz73_1 := blk_frozen BK188.out 1; have hfz73_2 := blk_frozen BK188.out 2; have hfz73_3 := blk_frozen BK188.out 3))
            go_ret
            exact ⟨by first | rfl | (simp [errW_none, errW_some] <;> rfl) | (simp [*, errW_none, errW_some] <;> rfl), by repeat (first | (with_reducible first | exact HB.out | apply below_alloc | apply pw_below_drewN | apply below_drew1 | refine below_set ?_ GE188.out) | exact HB.out)⟩
         ·rw [if_neg c54] at H
          have c54b0 : (t205 == 0) = false := beq_eq_false_iff_ne.mpr c54
          have c54b1 : (t205 != 0) = true := bne_iff_ne.mpr c54
          by_cases c74 : t205 = 6
          ·rw [if_pos c74] at H
           have c74b0 : (t205 == 6) = true := beq_iff_eq.mpr c74
           have c74b1 : (t205 != 6) = false := bne_eq_false_iff_eq.mpr c74
           clear c74
           by_cases c75 : (wrap64 ((wrap64 ((a2.size : Int) - a0)) + (a1_0.size : Int))) > 200
           ·rw [if_pos c75] at H
            have c75b0 : decide (200 < (wrap64 ((wrap64 ((a2.size : Int) - a0)) + (a1_0.size : Int)))) = true := decide_eq_true c75
            clear c75
            replace H := Option.bind_eq_some_iff.mp H
            obtain ⟨t209, A760, H⟩ := H
            replace H : (some t209) = some r := H
            have A76 := Aside0.mk A760
            clear A760
            obtain rfl := Option.some.inj H
            have hcz77_0 : wc.cell? ⟨gb188, 0, none⟩ = some (.string a1_0) := (blk_cell BK188.out 0).trans rfl
            have hcz77_1 : wc.cell? ⟨gb188, 1, none⟩ = some (.string a1_1) := (blk_cell BK188.out 1).trans rfl
            have hcz77_2 : wc.cell? ⟨gb188, 2, none⟩ = some (.string a1_2) := (blk_cell BK188.out 2).trans rfl
            have hcz77_3 : wc.cell? ⟨gb188, 3, none⟩ = some (.string a1_3) := (blk_cell BK188.out 3).trans rfl
            have hfz77_0 := blk_frozen BK188.out 0
            have hfz77_1 := blk_frozen BK188.out 1
            have hfz77_2 := blk_frozen BK188.out 2
            have hfz77_3 := blk_frozen BK188.out 3
            go_wp2_with (first | ((with_reducible refine gate_callee (f := 12) rfl ?_); refine goesL_ (some 148) rfl rfl Tryd.func12 (by kernel_rfl) rfl #[.int .i64 a0, .agg #[.string a1_0, .string a1_1, .string a1_2, .string a1_3], .string a2] rfl al_ ?_; (with_reducible refine (tags_Cut.calls a0 a1_0 a1_1 a1_2 a1_3 a2 t204 t205 _ A38.out).mono ?_); rintro e w78 ⟨rfl, hb⟩; refine ⟨_, rfl, ?_⟩; have n0_ := Aside0.mk (bkb_ BK188.out hb); have n1_ := Aside0.mk (below_step (hb_ HB.out) hb); clear BK188; clear HB; have BK188 := n0_; have HB := n1_; clear n0_ n1_; (try clear hb); (try clear hb2); (try clear hk); (try clear hi); have p51 : 0 ≤ (0 : Int) := (by omega); have q51 : 0 < a2.size := (by have : (0 : Int) < (a2.size : Int) := of_decide_eq_true (by first | (with_reducible assumption) | assumption); omega); have hx51 : ∀ h : 0 < a2.size, ((a2[0]'h).toNat : Int) = bt a2 0 := bt_at a2 0; clear p51; have qi51 : (0 < (a2.size : Int)) = True := eq_true (of_decide_eq_true (by first | (with_reducible assumption) | assumption)); replace q51 := eq_true q51; have hcz79_0 : w78.cell? ⟨gb188, 0, none⟩ = some (.string a1_0) := (blk_cell BK188.out 0).trans rfl; have hcz79_1 : w78.cell? ⟨gb188, 1, none⟩ = some (.string a1_1) := (blk_cell BK188.out 1).trans rfl; have hcz79_2 : w78.cell? ⟨gb188, 2, none⟩ = some (.string a1_2) := (blk_cell BK188.out 2).trans rfl; have hcz79_3 : w78.cell? ⟨gb188, 3, none⟩ = some (.string a1_3) := (blk_cell BK188.out 3).trans rfl; have hfz79_0 := blk_frozen BK188.out 0; have hfz79_1 := blk_frozen BK188.out 1; have hfz79_2 := blk_frozen BK188.out 2; have hfz79_3 := blk_frozen BK188.out 3) | (go_at_call 10; (with_reducible refine (comfitlaw06_awake.calls kj11  t209 _ A76.out).mono ?_); rintro e w80 ⟨rfl, hb⟩; have n0_ := Aside0.mk (bkb_ BK188.out hb); have n1_ := Aside0.mk (below_step (hb_ HB.out) hb); clear BK188; clear HB; have BK188 := n0_; have HB := n1_; clear n0_ n1_; (try clear hb); (try clear hb2); (try clear hk); (try clear hi)))
            go_ret
            exact ⟨by first | rfl | (simp [errW_none, errW_some] <;> rfl) | (simp [*, errW_none, errW_some] <;> rfl), by repeat (first | (with_reducible first | exact HB.out | apply below_alloc | apply pw_below_drewN | apply below_drew1 | refine below_set ?_ GE188.out) | exact HB.out)⟩
           ·rw [if_neg c75] at H
            have c75b0 : decide (200 < (wrap64 ((wrap64 ((a2.size : Int) - a0)) + (a1_0.size : Int)))) = false := decide_eq_false c75
            clear c75
            obtain rfl := Option.some.inj H
            have hcz81_0 : wc.cell? ⟨gb188, 0, none⟩ = some (.string a1_0) := (blk_cell BK188.out 0).trans rfl
            have hcz81_1 : wc.cell? ⟨gb188, 1, none⟩ = some (.string a1_1) := (blk_cell BK188.out 1).trans rfl
            have hcz81_2 : wc.cell? ⟨gb188, 2, none⟩ = some (.string a1_2) := (blk_cell BK188.out 2).trans rfl
            have hcz81_3 : wc.cell? ⟨gb188, 3, none⟩ = some (.string a1_3) := (blk_cell BK188.out 3).trans rfl
            have hfz81_0 := blk_frozen BK188.out 0
            have hfz81_1 := blk_frozen BK188.out 1
            have hfz81_2 := blk_frozen BK188.out 2
            have hfz81_3 := blk_frozen BK188.out 3
            go_wp2_with (first | ((with_reducible refine gate_callee (f := 12) rfl ?_); refine goesL_ (some 148) rfl rfl Tryd.func12 (by kernel_rfl) rfl #[.int .i64 a0, .agg #[.string a1_0, .string a1_1, .string a1_2, .string a1_3], .string a2] rfl al_ ?_; (with_reducible refine (tags_Cut.calls a0 a1_0 a1_1 a1_2 a1_3 a2 t204 t205 _ A38.out).mono ?_); rintro e w82 ⟨rfl, hb⟩; refine ⟨_, rfl, ?_⟩; have n0_ := Aside0.mk (bkb_ BK188.out hb); have n1_ := Aside0.mk (below_step (hb_ HB.out) hb); clear BK188; clear HB; have BK188 := n0_; have HB := n1_; clear n0_ n1_; (try clear hb); (try clear hb2); (try clear hk); (try clear hi); have p51 : 0 ≤ (0 : Int) := (by omega); have q51 : 0 < a2.size := (by have : (0 : Int) < (a2.size : Int) := of_decide_eq_true (by first | (with_reducible assumption) | assumption); omega); have hx51 : ∀ h : 0 < a2.size, ((a2[0]'h).toNat : Int) = bt a2 0 := bt_at a2 0; clear p51; have qi51 : (0 < (a2.size : Int)) = True := eq_true (of_decide_eq_true (by first | (with_reducible assumption) | assumption)); replace q51 := eq_true q51; have hcz83_0 : w82.cell? ⟨gb188, 0, none⟩ = some (.string a1_0) := (blk_cell BK188.out 0).trans rfl; have hcz83_1 : w82.cell? ⟨gb188, 1, none⟩ = some (.string a1_1) := (blk_cell BK188.out 1).trans rfl; have hcz83_2 : w82.cell? ⟨gb188, 2, none⟩ = some (.string a1_2) := (blk_cell BK188.out 2).trans rfl; have hcz83_3 : w82.cell? ⟨gb188, 3, none⟩ = some (.string a1_3) := (blk_cell BK188.out 3).trans rfl; have hfz83_0 := blk_frozen BK188.out 0; have hfz83_1 := blk_frozen BK188.out 1; have hfz83_2 := blk_frozen BK188.out 2; have hfz83_3 := blk_frozen BK188.out 3))
            go_ret
            exact ⟨by first | rfl | (simp [errW_none, errW_some] <;> rfl) | (simp [*, errW_none, errW_some] <;> rfl), by repeat (first | (with_reducible first | exact HB.out | apply below_alloc | apply pw_below_drewN | apply below_drew1 | refine below_set ?_ GE188.out) | exact HB.out)⟩
          ·rw [if_neg c74] at H
           have c74b0 : (t205 == 6) = false := beq_eq_false_iff_ne.mpr c74
           have c74b1 : (t205 != 6) = true := bne_iff_ne.mpr c74
           obtain rfl := Option.some.inj H
           have hcz84_0 : wc.cell? ⟨gb188, 0, none⟩ = some (.string a1_0) := (blk_cell BK188.out 0).trans rfl
           have hcz84_1 : wc.cell? ⟨gb188, 1, none⟩ = some (.string a1_1) := (blk_cell BK188.out 1).trans rfl
           have hcz84_2 : wc.cell? ⟨gb188, 2, none⟩ = some (.string a1_2) := (blk_cell BK188.out 2).trans rfl
           have hcz84_3 : wc.cell? ⟨gb188, 3, none⟩ = some (.string a1_3) := (blk_cell BK188.out 3).trans rfl
           have hfz84_0 := blk_frozen BK188.out 0
           have hfz84_1 := blk_frozen BK188.out 1
           have hfz84_2 := blk_frozen BK188.out 2
           have hfz84_3 := blk_frozen BK188.out 3
           go_wp2_with (first | ((with_reducible refine gate_callee (f := 12) rfl ?_); refine goesL_ (some 148) rfl rfl Tryd.func12 (by kernel_rfl) rfl #[.int .i64 a0, .agg #[.string a1_0, .string a1_1, .string a1_2, .string a1_3], .string a2] rfl al_ ?_; (with_reducible refine (tags_Cut.calls a0 a1_0 a1_1 a1_2 a1_3 a2 t204 t205 _ A38.out).mono ?_); rintro e w85 ⟨rfl, hb⟩; refine ⟨_, rfl, ?_⟩; have n0_ := Aside0.mk (bkb_ BK188.out hb); have n1_ := Aside0.mk (below_step (hb_ HB.out) hb); clear BK188; clear HB; have BK188 := n0_; have HB := n1_; clear n0_ n1_; (try clear hb); (try clear hb2); (try clear hk); (try clear hi); have p51 : 0 ≤ (0 : Int) := (by omega); have q51 : 0 < a2.size := (by have : (0 : Int) < (a2.size : Int) := of_decide_eq_true (by first | (with_reducible assumption) | assumption); omega); have hx51 : ∀ h : 0 < a2.size, ((a2[0]'h).toNat : Int) = bt a2 0 := bt_at a2 0; clear p51; have qi51 : (0 < (a2.size : Int)) = True := eq_true (of_decide_eq_true (by first | (with_reducible assumption) | assumption)); replace q51 := eq_true q51; have hcz86_0 : w85.cell? ⟨gb188, 0, none⟩ = some (.string a1_0) := (blk_cell BK188.out 0).trans rfl; have hcz86_1 : w85.cell? ⟨gb188, 1, none⟩ = some (.string a1_1) := (blk_cell BK188.out 1).trans rfl; have hcz86_2 : w85.cell? ⟨gb188, 2, none⟩ = some (.string a1_2) := (blk_cell BK188.out 2).trans rfl; have hcz86_3 : w85.cell? ⟨gb188, 3, none⟩ = some (.string a1_3) := (blk_cell BK188.out 3).trans rfl; have hfz86_0 := blk_frozen BK188.out 0; have hfz86_1 := blk_frozen BK188.out 1; have hfz86_2 := blk_frozen BK188.out 2; have hfz86_3 := blk_frozen BK188.out 3))
           go_ret
           exact ⟨by first | rfl | (simp [errW_none, errW_some] <;> rfl) | (simp [*, errW_none, errW_some] <;> rfl), by repeat (first | (with_reducible first | exact HB.out | apply below_alloc | apply pw_below_drewN | apply below_drew1 | refine below_set ?_ GE188.out) | exact HB.out)⟩
        ·rw [if_neg c53] at H
         have c53b0 : ((iq52) == 0) = false := beq_eq_false_iff_ne.mpr c53
         have c53b1 : ((iq52) != 0) = true := bne_iff_ne.mpr c53
         by_cases c87 : (iq52) = 1
         ·rw [if_pos c87] at H
          subst c87
          by_cases c88 : t205 = 0
          ·rw [if_pos c88] at H
           have c88b0 : (t205 == 0) = true := beq_iff_eq.mpr c88
           have c88b1 : (t205 != 0) = false := bne_eq_false_iff_eq.mpr c88
           clear c88
           by_cases c89 : (t204.size : Int) = (wrap64 ((wrap64 ((a2.size : Int) - a0)) + (a1_1.size : Int)))
           ·rw [if_pos c89] at H
            have c89b0 : ((t204.size : Int) == (wrap64 ((wrap64 ((a2.size : Int) - a0)) + (a1_1.size : Int)))) = true := beq_iff_eq.mpr c89
            have c89b1 : ((t204.size : Int) != (wrap64 ((wrap64 ((a2.size : Int) - a0)) + (a1_1.size : Int)))) = false := bne_eq_false_iff_eq.mpr c89
            clear c89
            replace H := Option.bind_eq_some_iff.mp H
            obtain ⟨t210, A900, H⟩ := H
            replace H : (some t210) = some r := H
            have A90 := Aside0.mk A900
            clear A900
            obtain rfl := Option.some.inj H
            have hcz91_0 : wc.cell? ⟨gb188, 0, none⟩ = some (.string a1_0) := (blk_cell BK188.out 0).trans rfl
            have hcz91_1 : wc.cell? ⟨gb188, 1, none⟩ = some (.string a1_1) := (blk_cell BK188.out 1).trans rfl
            have hcz91_2 : wc.cell? ⟨gb188, 2, none⟩ = some (.string a1_2) := (blk_cell BK188.out 2).trans rfl
            have hcz91_3 : wc.cell? ⟨gb188, 3, none⟩ = some (.string a1_3) := (blk_cell BK188.out 3).trans rfl
            have hfz91_0 := blk_frozen BK188.out 0
            have hfz91_1 := blk_frozen BK188.out 1
            have hfz91_2 := blk_frozen BK188.out 2
            have hfz91_3 := blk_frozen BK188.out 3
            go_wp2_with (first | ((with_reducible refine gate_callee (f := 12) rfl ?_); refine goesL_ (some 148) rfl rfl Tryd.func12 (by kernel_rfl) rfl #[.int .i64 a0, .agg #[.string a1_0, .string a1_1, .string a1_2, .string a1_3], .string a2] rfl al_ ?_; (with_reducible refine (tags_Cut.calls a0 a1_0 a1_1 a1_2 a1_3 a2 t204 t205 _ A38.out).mono ?_); rintro e w92 ⟨rfl, hb⟩; refine ⟨_, rfl, ?_⟩; have n0_ := Aside0.mk (bkb_ BK188.out hb); have n1_ := Aside0.mk (below_step (hb_ HB.out) hb); clear BK188; clear HB; have BK188 := n0_; have HB := n1_; clear n0_ n1_; (try clear hb); (try clear hb2); (try clear hk); (try clear hi); have p51 : 0 ≤ (0 : Int) := (by omega); have q51 : 0 < a2.size := (by have : (0 : Int) < (a2.size : Int) := of_decide_eq_true (by first | (with_reducible assumption) | assumption); omega); have hx51 : ∀ h : 0 < a2.size, ((a2[0]'h).toNat : Int) = bt a2 0 := bt_at a2 0; clear p51; have qi51 : (0 < (a2.size : Int)) = True := eq_true (of_decide_eq_true (by first | (with_reducible assumption) | assumption)); replace q51 := eq_true q51; have hcz93_0 : w92.cell? ⟨gb188, 0, none⟩ = some (.string a1_0) := (blk_cell BK188.out 0).trans rfl; have hcz93_1 : w92.cell? ⟨gb188, 1, none⟩ = some (.string a1_1) := (blk_cell BK188.out 1).trans rfl; have hcz93_2 : w92.cell? ⟨gb188, 2, none⟩ = some (.string a1_2) := (blk_cell BK188.out 2).trans rfl; have hcz93_3 : w92.cell? ⟨gb188, 3, none⟩ = some (.string a1_3) := (blk_cell BK188.out 3).trans rfl; have hfz93_0 := blk_frozen BK188.out 0; have hfz93_1 := blk_frozen BK188.out 1; have hfz93_2 := blk_frozen BK188.out 2; have hfz93_3 := blk_frozen BK188.out 3) | (go_at_call 10; (with_reducible refine (comfitlaw06_awake.calls kj11  t210 _ A90.out).mono ?_); rintro e w94 ⟨rfl, hb⟩; have n0_ := Aside0.mk (bkb_ BK188.out hb); have n1_ := Aside0.mk (below_step (hb_ HB.out) hb); clear BK188; clear HB; have BK188 := n0_; have HB := n1_; clear n0_ n1_; (try clear hb); (try clear hb2); (try clear hk); (try clear hi)))
            go_ret
            exact ⟨by first | rfl | (simp [errW_none, errW_some] <;> rfl) | (simp [*, errW_none, errW_some] <;> rfl), by repeat (first | (with_reducible first | exact HB.out | apply below_alloc | apply pw_below_drewN | apply below_drew1 | refine below_set ?_ GE188.out) | exact HB.out)⟩
           ·rw [if_neg c89] at H
            have c89b0 : ((t204.size : Int) == (wrap64 ((wrap64 ((a2.size : Int) - a0)) + (a1_1.size : Int)))) = false := beq_eq_false_iff_ne.mpr c89
            have c89b1 : ((t204.size : Int) != (wrap64 ((wrap64 ((a2.size : Int) - a0)) + (a1_1.size : Int)))) = true := bne_iff_ne.mpr c89
            by_cases c95 : t205 = 6
            ·rw [if_pos c95] at H
             have c95b0 : (t205 == 6) = true := beq_iff_eq.mpr c95
             have c95b1 : (t205 != 6) = false := bne_eq_false_iff_eq.mpr c95
             clear c95
             by_cases c96 : (wrap64 ((wrap64 ((a2.size : Int) - a0)) + (a1_1.size : Int))) > 200
             ·rw [if_pos c96] at H
              have c96b0 : decide (200 < (wrap64 ((wrap64 ((a2.size : Int) - a0)) + (a1_1.size : Int)))) = true := decide_eq_true c96
              clear c96
              replace H := Option.bind_eq_some_iff.mp H
              obtain ⟨t211, A970, H⟩ := H
              replace H : (some t211) = some r := H
              have A97 := Aside0.mk A970
              clear A970
              obtain rfl := Option.some.inj H
              have hcz98_0 : wc.cell? ⟨gb188, 0, none⟩ = some (.string a1_0) := (blk_cell BK188.out 0).trans rfl
              have hcz98_1 : wc.cell? ⟨gb188, 1, none⟩ = some (.string a1_1) := (blk_cell BK188.out 1).trans rfl
              have hcz98_2 : wc.cell? ⟨gb188, 2, none⟩ = some (.string a1_2) := (blk_cell BK188.out 2).trans rfl
              have hcz98_3 : wc.cell? ⟨gb188, 3, none⟩ = some (.string a1_3) := (blk_cell BK188.out 3).trans rfl
              have hfz98_0 := blk_frozen BK188.out 0
              have hfz98_1 := blk_frozen BK188.out 1
              have hfz98_2 := blk_frozen BK188.out 2
              have hfz98_3 := blk_frozen BK188.out 3
              go_wp2_with (first | ((with_reducible refine gate_callee (f := 12) rfl ?_); refine goesL_ (some 148) rfl rfl Tryd.func12 (by kernel_rfl) rfl #[.int .i64 a0, .agg #[.string a1_0, .string a1_1, .string a1_2, .string a1_3], .string a2] rfl al_ ?_; (with_reducible refine (tags_Cut.calls a0 a1_0 a1_1 a1_2 a1_3 a2 t204 t205 _ A38.out).mono ?_); rintro e w99 ⟨rfl, hb⟩; refine ⟨_, rfl, ?_⟩; have n0_ := Aside0.mk (bkb_ BK188.out hb); have n1_ := Aside0.mk (below_step (hb_ HB.out) hb); clear BK188; clear HB; have BK188 := n0_; have HB := n1_; clear n0_ n1_; (try clear hb); (try clear hb2); (try clear hk); (try clear hi); have p51 : 0 ≤ (0 : Int) := (by omega); have q51 : 0 < a2.size := (by have : (0 : Int) < (a2.size : Int) := of_decide_eq_true (by first | (with_reducible assumption) | assumption); omega); have hx51 : ∀ h : 0 < a2.size, ((a2[0]'h).toNat : Int) = bt a2 0 := bt_at a2 0; clear p51; have qi51 : (0 < (a2.size : Int)) = True := eq_true (of_decide_eq_true (by first | (with_reducible assumption) | assumption)); replace q51 := eq_true q51; have hcz100_0 : w99.cell? ⟨gb188, 0, none⟩ = some (.string a1_0) := (blk_cell BK188.out 0).trans rfl; have hcz100_1 : w99.cell? ⟨gb188, 1, none⟩ = some (.string a1_1) := (blk_cell BK188.out 1).trans rfl; have hcz100_2 : w99.cell? ⟨gb188, 2, none⟩ = some (.string a1_2) := (blk_cell BK188.out 2).trans rfl; have hcz100_3 : w99.cell? ⟨gb188, 3, none⟩ = some (.string a1_3) := (blk_cell BK188.out 3).trans rfl; have hfz100_0 := blk_frozen BK188.out 0; have hfz100_1 := blk_frozen BK188.out 1; have hfz100_2 := blk_frozen BK188.out 2; have hfz100_3 := blk_frozen BK188.out 3) | (go_at_call 10; (with_reducible refine (comfitlaw06_awake.calls kj11  t211 _ A97.out).mono ?_); rintro e w101 ⟨rfl, hb⟩; have n0_ := Aside0.mk (bkb_ BK188.out hb); have n1_ := Aside0.mk (below_step (hb_ HB.out) hb); clear BK188; clear HB; have BK188 := n0_; have HB := n1_; clear n0_ n1_; (try clear hb); (try clear hb2); (try clear hk); (try clear hi)))
              go_ret
              exact ⟨by first | rfl | (simp [errW_none, errW_some] <;> rfl) | (simp [*, errW_none, errW_some] <;> rfl), by repeat (first | (with_reducible first | exact HB.out | apply below_alloc | apply pw_below_drewN | apply below_drew1 | refine below_set ?_ GE188.out) | exact HB.out)⟩
             ·rw [if_neg c96] at H
              have c96b0 : decide (200 < (wrap64 ((wrap64 ((a2.size : Int) - a0)) + (a1_1.size : Int)))) = false := decide_eq_false c96
              clear c96
              obtain rfl := Option.some.inj H
              have hcz102_0 : wc.cell? ⟨gb188, 0, none⟩ = some (.string a1_0) := (blk_cell BK188.out 0).trans rfl
              have hcz102_1 : wc.cell? ⟨gb188, 1, none⟩ = some (.string a1_1) := (blk_cell BK188.out 1).trans rfl
              have hcz102_2 : wc.cell? ⟨gb188, 2, none⟩ = some (.string a1_2) := (blk_cell BK188.out 2).trans rfl
              have hcz102_3 : wc.cell? ⟨gb188, 3, none⟩ = some (.string a1_3) := (blk_cell BK188.out 3).trans rfl
              have hfz102_0 := blk_frozen BK188.out 0
              have hfz102_1 := blk_frozen BK188.out 1
              have hfz102_2 := blk_frozen BK188.out 2
              have hfz102_3 := blk_frozen BK188.out 3
              go_wp2_with (first | ((with_reducible refine gate_callee (f := 12) rfl ?_); refine goesL_ (some 148) rfl rfl Tryd.func12 (by kernel_rfl) rfl #[.int .i64 a0, .agg #[.string a1_0, .string a1_1, .string a1_2, .string a1_3], .string a2] rfl al_ ?_; (with_reducible refine (tags_Cut.calls a0 a1_0 a1_1 a1_2 a1_3 a2 t204 t205 _ A38.out).mono ?_); rintro e w103 ⟨rfl, hb⟩; refine ⟨_, rfl, ?_⟩; have n0_ := Aside0.mk (bkb_ BK188.out hb); have n1_ := Aside0.mk (below_step (hb_ HB.out) hb); clear BK188; clear HB; have BK188 := n0_; have HB := n1_; clear n0_ n1_; (try clear hb); (try clear hb2); (try clear hk); (try clear hi); have p51 : 0 ≤ (0 : Int) := (by omega); have q51 : 0 < a2.size := (by have : (0 : Int) < (a2.size : Int) := of_decide_eq_true (by first | (with_reducible assumption) | assumption); omega); have hx51 : ∀ h : 0 < a2.size, ((a2[0]'h).toNat : Int) = bt a2 0 := bt_at a2 0; clear p51; have qi51 : (0 < (a2.size : Int)) = True := eq_true (of_decide_eq_true (by first | (with_reducible assumption) | assumption)); replace q51 := eq_true q51; have hcz104_0 : w103.cell? ⟨gb188, 0, none⟩ = some (.string a1_0) := (blk_cell BK188.out 0).trans rfl; have hcz104_1 : w103.cell? ⟨gb188, 1, none⟩ = some (.string a1_1) := (blk_cell BK188.out 1).trans rfl; have hcz104_2 : w103.cell? ⟨gb188, 2, none⟩ = some (.string a1_2) := (blk_cell BK188.out 2).trans rfl; have hcz104_3 : w103.cell? ⟨gb188, 3, none⟩ = some (.string a1_3) := (blk_cell BK188.out 3).trans rfl; have hfz104_0 := blk_frozen BK188.out 0; have hfz104_1 := blk_frozen BK188.out 1; have hfz104_2 := blk_frozen BK188.out 2; have hfz104_3 := blk_frozen BK188.out 3))
              go_ret
              exact ⟨by first | rfl | (simp [errW_none, errW_some] <;> rfl) | (simp [*, errW_none, errW_some] <;> rfl), by repeat (first | (with_reducible first | exact HB.out | apply below_alloc | apply pw_below_drewN | apply below_drew1 | refine below_set ?_ GE188.out) | exact HB.out)⟩
            ·rw [if_neg c95] at H
             have c95b0 : (t205 == 6) = false := beq_eq_false_iff_ne.mpr c95
             have c95b1 : (t205 != 6) = true := bne_iff_ne.mpr c95
             obtain rfl := Option.some.inj H
             have hcz105_0 : wc.cell? ⟨gb188, 0, none⟩ = some (.string a1_0) := (blk_cell BK188.out 0).trans rfl
             have hcz105_1 : wc.cell? ⟨gb188, 1, none⟩ = some (.string a1_1) := (blk_cell BK188.out 1).trans rfl
             have hcz105_2 : wc.cell? ⟨gb188, 2, none⟩ = some (.string a1_2) := (blk_cell BK188.out 2).trans rfl
             have hcz105_3 : wc.cell? ⟨gb188, 3, none⟩ = some (.string a1_3) := (blk_cell BK188.out 3).trans rfl
             have hfz105_0 := blk_frozen BK188.out 0
             have hfz105_1 := blk_frozen BK188.out 1
             have hfz105_2 := blk_frozen BK188.out 2
             have hfz105_3 := blk_frozen BK188.out 3
             go_wp2_with (first | ((with_reducible refine gate_callee (f := 12) rfl ?_); refine goesL_ (some 148) rfl rfl Tryd.func12 (by kernel_rfl) rfl #[.int .i64 a0, .agg #[.string a1_0, .string a1_1, .string a1_2, .string a1_3], .string a2] rfl al_ ?_; (with_reducible refine (tags_Cut.calls a0 a1_0 a1_1 a1_2 a1_3 a2 t204 t205 _ A38.out).mono ?_); rintro e w106 ⟨rfl, hb⟩; refine ⟨_, rfl, ?_⟩; have n0_ := Aside0.mk (bkb_ BK188.out hb); have n1_ := Aside0.mk (below_step (hb_ HB.out) hb); clear BK188; clear HB; have BK188 := n0_; have HB := n1_; clear n0_ n1_; (try clear hb); (try clear hb2); (try clear hk); (try clear hi); have p51 : 0 ≤ (0 : Int) := (by omega); have q51 : 0 < a2.size := (by have : (0 : Int) < (a2.size : Int) := of_decide_eq_true (by first | (with_reducible assumption) | assumption); omega); have hx51 : ∀ h : 0 < a2.size, ((a2[0]'h).toNat : Int) = bt a2 0 := bt_at a2 0; clear p51; have qi51 : (0 < (a2.size : Int)) = True := eq_true (of_decide_eq_true (by first | (with_reducible assumption) | assumption)); replace q51 := eq_true q51; have hcz107_0 : w106.cell? ⟨gb188, 0, none⟩ = some (.string a1_0) := (blk_cell BK188.out 0).trans rfl; have hcz107_1 : w106.cell? ⟨gb188, 1, none⟩ = some (.string a1_1) := (blk_cell BK188.out 1).trans rfl; have hcz107_2 : w106.cell? ⟨gb188, 2, none⟩ = some (.string a1_2) := (blk_cell BK188.out 2).trans rfl; have hcz107_3 : w106.cell? ⟨gb188, 3, none⟩ = some (.string a1_3) := (blk_cell BK188.out 3).trans rfl; have hfz107_0 := blk_frozen BK188.out 0; have hfz107_1 := blk_frozen BK188.out 1; have hfz107_2 := blk_frozen BK188.out 2; have hfz107_3 := blk_frozen BK188.out 3))
             go_ret
             exact ⟨by first | rfl | (simp [errW_none, errW_some] <;> rfl) | (simp [*, errW_none, errW_some] <;> rfl), by repeat (first | (with_reducible first | exact HB.out | apply below_alloc | apply pw_below_drewN | apply below_drew1 | refine below_set ?_ GE188.out) | exact HB.out)⟩
          ·rw [if_neg c88] at H
           have c88b0 : (t205 == 0) = false := beq_eq_false_iff_ne.mpr c88
           have c88b1 : (t205 != 0) = true := bne_iff_ne.mpr c88
           by_cases c108 : t205 = 6
           ·rw [if_pos c108] at H
            have c108b0 : (t205 == 6) = true := beq_iff_eq.mpr c108
            have c108b1 : (t205 != 6) = false := bne_eq_false_iff_eq.mpr c108
            clear c108
            by_cases c109 : (wrap64 ((wrap64 ((a2.size : Int) - a0)) + (a1_1.size : Int))) > 200
            ·rw [if_pos c109] at H
             have c109b0 : decide (200 < (wrap64 ((wrap64 ((a2.size : Int) - a0)) + (a1_1.size : Int)))) = true := decide_eq_true c109
             clear c109
             replace H := Option.bind_eq_some_iff.mp H
             obtain ⟨t212, A1100, H⟩ := H
             replace H : (some t212) = some r := H
             have A110 := Aside0.mk A1100
             clear A1100
             obtain rfl := Option.some.inj H
             have hcz111_0 : wc.cell? ⟨gb188, 0, none⟩ = some (.string a1_0) := (blk_cell BK188.out 0).trans rfl
             have hcz111_1 : wc.cell? ⟨gb188, 1, none⟩ = some (.string a1_1) := (blk_cell BK188.out 1).trans rfl
             have hcz111_2 : wc.cell? ⟨gb188, 2, none⟩ = some (.string a1_2) := (blk_cell BK188.out 2).trans rfl
             have hcz111_3 : wc.cell? ⟨gb188, 3, none⟩ = some (.string a1_3) := (blk_cell BK188.out 3).trans rfl
             have hfz111_0 := blk_frozen BK188.out 0
             have hfz111_1 := blk_frozen BK188.out 1
             have hfz111_2 := blk_frozen BK188.out 2
             have hfz111_3 := blk_frozen BK188.out 3
             go_wp2_with (first | ((with_reducible refine gate_callee (f := 12) rfl ?_); refine goesL_ (some 148) rfl rfl Tryd.func12 (by kernel_rfl) rfl #[.int .i64 a0, .agg #[.string a1_0, .string a1_1, .string a1_2, .string a1_3], .string a2] rfl al_ ?_; (with_reducible refine (tags_Cut.calls a0 a1_0 a1_1 a1_2 a1_3 a2 t204 t205 _ A38.out).mono ?_); rintro e w112 ⟨rfl, hb⟩; refine ⟨_, rfl, ?_⟩; have n0_ := Aside0.mk (bkb_ BK188.out hb); have n1_ := Aside0.mk (below_step (hb_ HB.out) hb); clear BK188; clear HB; have BK188 := n0_; have HB := n1_; clear n0_ n1_; (try clear hb); (try clear hb2); (try clear hk); (try clear hi); have p51 : 0 ≤ (0 : Int) := (by omega); have q51 : 0 < a2.size := (by have : (0 : Int) < (a2.size : Int) := of_decide_eq_true (by first | (with_reducible assumption) | assumption); omega); have hx51 : ∀ h : 0 < a2.size, ((a2[0]'h).toNat : Int) = bt a2 0 := bt_at a2 0; clear p51; have qi51 : (0 < (a2.size : Int)) = True := eq_true (of_decide_eq_true (by first | (with_reducible assumption) | assumption)); replace q51 := eq_true q51; have hcz113_0 : w112.cell? ⟨gb188, 0, none⟩ = some (.string a1_0) := (blk_cell BK188.out 0).trans rfl; have hcz113_1 : w112.cell? ⟨gb188, 1, none⟩ = some (.string a1_1) := (blk_cell BK188.out 1).trans rfl; have hcz113_2 : w112.cell? ⟨gb188, 2, none⟩ = some (.string a1_2) := (blk_cell BK188.out 2).trans rfl; have hcz113_3 : w112.cell? ⟨gb188, 3, none⟩ = some (.string a1_3) := (blk_cell BK188.out 3).trans rfl; have hfz113_0 := blk_frozen BK188.out 0; have hfz113_1 := blk_frozen BK188.out 1; have hfz113_2 := blk_frozen BK188.out 2; have hfz113_3 := blk_frozen BK188.out 3) | (go_at_call 10; (with_reducible refine (comfitlaw06_awake.calls kj11  t212 _ A110.out).mono ?_); rintro e w114 ⟨rfl, hb⟩; have n0_ := Aside0.mk (bkb_ BK188.out hb); have n1_ := Aside0.mk (below_step (hb_ HB.out) hb); clear BK188; clear HB; have BK188 := n0_; have HB := n1_; clear n0_ n1_; (try clear hb); (try clear hb2); (try clear hk); (try clear hi)))
             go_ret
             exact ⟨by first | rfl | (simp [errW_none, errW_some] <;> rfl) | (simp [*, errW_none, errW_some] <;> rfl), by repeat (first | (with_reducible first | exact HB.out | apply below_alloc | apply pw_below_drewN | apply below_drew1 | refine below_set ?_ GE188.out) | exact HB.out)⟩
            ·rw [if_neg c109] at H
             have c109b0 : decide (200 < (wrap64 ((wrap64 ((a2.size : Int) - a0)) + (a1_1.size : Int)))) = false := decide_eq_false c109
             clear c109
             obtain rfl := Option.some.inj H
             have hcz115_0 : wc.cell? ⟨gb188, 0, none⟩ = some (.string a1_0) := (blk_cell BK188.out 0).trans rfl
             have hcz115_1 : wc.cell? ⟨gb188, 1, none⟩ = some (.string a1_1) := (blk_cell BK188.out 1).trans rfl
             have hcz115_2 : wc.cell? ⟨gb188, 2, none⟩ = some (.string a1_2) := (blk_cell BK188.out 2).trans rfl
             have hcz115_3 : wc.cell? ⟨gb188, 3, none⟩ = some (.string a1_3) := (blk_cell BK188.out 3).trans rfl
             have hfz115_0 := blk_frozen BK188.out 0
             have hfz115_1 := blk_frozen BK188.out 1
             have hfz115_2 := blk_frozen BK188.out 2
             have hfz115_3 := blk_frozen BK188.out 3
             go_wp2_with (first | ((with_reducible refine gate_callee (f := 12) rfl ?_); refine goesL_ (some 148) rfl rfl Tryd.func12 (by kernel_rfl) rfl #[.int .i64 a0, .agg #[.string a1_0, .string a1_1, .string a1_2, .string a1_3], .string a2] rfl al_ ?_; (with_reducible refine (tags_Cut.calls a0 a1_0 a1_1 a1_2 a1_3 a2 t204 t205 _ A38.out).mono ?_); rintro e w116 ⟨rfl, hb⟩; refine ⟨_, rfl, ?_⟩; have n0_ := Aside0.mk (bkb_ BK188.out hb); have n1_ := Aside0.mk (below_step (hb_ HB.out) hb); clear BK188; clear HB; have BK188 := n0_; have HB := n1_; clear n0_ n1_; (try clear hb); (try clear hb2); (try clear hk); (try clear hi); have p51 : 0 ≤ (0 : Int) := (by omega); have q51 : 0 < a2.size := (by have : (0 : Int) < (a2.size : Int) := of_decide_eq_true (by first | (with_reducible assumption) | assumption); omega); have hx51 : ∀ h : 0 < a2.size, ((a2[0]'h).toNat : Int) = bt a2 0 := bt_at a2 0; clear p51; have qi51 : (0 < (a2.size : Int)) = True := eq_true (of_decide_eq_true (by first | (with_reducible assumption) | assumption)); replace q51 := eq_true q51; have hcz117_0 : w116.cell? ⟨gb188, 0, none⟩ = some (.string a1_0) := (blk_cell BK188.out 0).trans rfl; have hcz117_1 : w116.cell? ⟨gb188, 1, none⟩ = some (.string a1_1) := (blk_cell BK188.out 1).trans rfl; have hcz117_2 : w116.cell? ⟨gb188, 2, none⟩ = some (.string a1_2) := (blk_cell BK188.out 2).trans rfl; have hcz117_3 : w116.cell? ⟨gb188, 3, none⟩ = some (.string a1_3) := (blk_cell BK188.out 3).trans rfl; have hfz117_0 := blk_frozen BK188.out 0; have hfz117_1 := blk_frozen BK188.out 1; have hfz117_2 := blk_frozen BK188.out 2; have hfz117_3 := blk_frozen BK188.out 3))
             go_ret
             exact ⟨by first | rfl | (simp [errW_none, errW_some] <;> rfl) | (simp [*, errW_none, errW_some] <;> rfl), by repeat (first | (with_reducible first | exact HB.out | apply below_alloc | apply pw_below_drewN | apply below_drew1 | refine below_set ?_ GE188.out) | exact HB.out)⟩
           ·rw [if_neg c108] at H
            have c108b0 : (t205 == 6) = false := beq_eq_false_iff_ne.mpr c108
            have c108b1 : (t205 != 6) = true := bne_iff_ne.mpr c108
            obtain rfl := Option.some.inj H
            have hcz118_0 : wc.cell? ⟨gb188, 0, none⟩ = some (.string a1_0) := (blk_cell BK188.out 0).trans rfl
            have hcz118_1 : wc.cell? ⟨gb188, 1, none⟩ = some (.string a1_1) := (blk_cell BK188.out 1).trans rfl
            have hcz118_2 : wc.cell? ⟨gb188, 2, none⟩ = some (.string a1_2) := (blk_cell BK188.out 2).trans rfl
            have hcz118_3 : wc.cell? ⟨gb188, 3, none⟩ = some (.string a1_3) := (blk_cell BK188.out 3).trans rfl
            have hfz118_0 := blk_frozen BK188.out 0
            have hfz118_1 := blk_frozen BK188.out 1
            have hfz118_2 := blk_frozen BK188.out 2
            have hfz118_3 := blk_frozen BK188.out 3
            go_wp2_with (first | ((with_reducible refine gate_callee (f := 12) rfl ?_); refine goesL_ (some 148) rfl rfl Tryd.func12 (by kernel_rfl) rfl #[.int .i64 a0, .agg #[.string a1_0, .string a1_1, .string a1_2, .string a1_3], .string a2] rfl al_ ?_; (with_reducible refine (tags_Cut.calls a0 a1_0 a1_1 a1_2 a1_3 a2 t204 t205 _ A38.out).mono ?_); rintro e w119 ⟨rfl, hb⟩; refine ⟨_, rfl, ?_⟩; have n0_ := Aside0.mk (bkb_ BK188.out hb); have n1_ := Aside0.mk (below_step (hb_ HB.out) hb); clear BK188; clear HB; have BK188 := n0_; have HB := n1_; clear n0_ n1_; (try clear hb); (try clear hb2); (try clear hk); (try clear hi); have p51 : 0 ≤ (0 : Int) := (by omega); have q51 : 0 < a2.size := (by have : (0 : Int) < (a2.size : Int) := of_decide_eq_true (by first | (with_reducible assumption) | assumption); omega); have hx51 : ∀ h : 0 < a2.size, ((a2[0]'h).toNat : Int) = bt a2 0 := bt_at a2 0; clear p51; have qi51 : (0 < (a2.size : Int)) = True := eq_true (of_decide_eq_true (by first | (with_reducible assumption) | assumption)); replace q51 := eq_true q51; have hcz120_0 : w119.cell? ⟨gb188, 0, none⟩ = some (.string a1_0) := (blk_cell BK188.out 0).trans rfl; have hcz120_1 : w119.cell? ⟨gb188, 1, none⟩ = some (.string a1_1) := (blk_cell BK188.out 1).trans rfl; have hcz120_2 : w119.cell? ⟨gb188, 2, none⟩ = some (.string a1_2) := (blk_cell BK188.out 2).trans rfl; have hcz120_3 : w119.cell? ⟨gb188, 3, none⟩ = some (.string a1_3) := (blk_cell BK188.out 3).trans rfl; have hfz120_0 := blk_frozen BK188.out 0; have hfz120_1 := blk_frozen BK188.out 1; have hfz120_2 := blk_frozen BK188.out 2; have hfz120_3 := blk_frozen BK188.out 3))
            go_ret
            exact ⟨by first | rfl | (simp [errW_none, errW_some] <;> rfl) | (simp [*, errW_none, errW_some] <;> rfl), by repeat (first | (with_reducible first | exact HB.out | apply below_alloc | apply pw_below_drewN | apply below_drew1 | refine below_set ?_ GE188.out) | exact HB.out)⟩
         ·rw [if_neg c87] at H
          have c87b0 : ((iq52) == 1) = false := beq_eq_false_iff_ne.mpr c87
          have c87b1 : ((iq52) != 1) = true := bne_iff_ne.mpr c87
          by_cases c121 : (iq52) = 2
          ·rw [if_pos c121] at H
           subst c121
           by_cases c122 : t205 = 0
           ·rw [if_pos c122] at H
            have c122b0 : (t205 == 0) = true := beq_iff_eq.mpr c122
            have c122b1 : (t205 != 0) = false := bne_eq_false_iff_eq.mpr c122
            clear c122
            by_cases c123 : (t204.size : Int) = (wrap64 ((wrap64 ((a2.size : Int) - a0)) + (a1_2.size : Int)))
            ·rw [if_pos c123] at H
             have c123b0 : ((t204.size : Int) == (wrap64 ((wrap64 ((a2.size : Int) - a0)) + (a1_2.size : Int)))) = true := beq_iff_eq.mpr c123
             have c123b1 : ((t204.size : Int) != (wrap64 ((wrap64 ((a2.size : Int) - a0)) + (a1_2.size : Int)))) = false := bne_eq_false_iff_eq.mpr c123
             clear c123
             replace H := Option.bind_eq_some_iff.mp H
             obtain ⟨t213, A1240, H⟩ := H
             replace H : (some t213) = some r := H
             have A124 := Aside0.mk A1240
             clear A1240
             obtain rfl := Option.some.inj H
             have hcz125_0 : wc.cell? ⟨gb188, 0, none⟩ = some (.string a1_0) := (blk_cell BK188.out 0).trans rfl
             have hcz125_1 : wc.cell? ⟨gb188, 1, none⟩ = some (.string a1_1) := (blk_cell BK188.out 1).trans rfl
             have hcz125_2 : wc.cell? ⟨gb188, 2, none⟩ = some (.string a1_2) := (blk_cell BK188.out 2).trans rfl
             have hcz125_3 : wc.cell? ⟨gb188, 3, none⟩ = some (.string a1_3) := (blk_cell BK188.out 3).trans rfl
             have hfz125_0 := blk_frozen BK188.out 0
             have hfz125_1 := blk_frozen BK188.out 1
             have hfz125_2 := blk_frozen BK188.out 2
             have hfz125_3 := blk_frozen BK188.out 3
             go_wp2_with (first | ((with_reducible refine gate_callee (f := 12) rfl ?_); refine goesL_ (some 148) rfl rfl Tryd.func12 (by kernel_rfl) rfl #[.int .i64 a0, .agg #[.string a1_0, .string a1_1, .string a1_2, .string a1_3], .string a2] rfl al_ ?_; (with_reducible refine (tags_Cut.calls a0 a1_0 a1_1 a1_2 a1_3 a2 t204 t205 _ A38.out).mono ?_); rintro e w126 ⟨rfl, hb⟩; refine ⟨_, rfl, ?_⟩; have n0_ := Aside0.mk (bkb_ BK188.out hb); have n1_ := Aside0.mk (below_step (hb_ HB.out) hb); clear BK188; clear HB; have BK188 := n0_; have HB := n1_; clear n0_ n1_; (try clear hb); (try clear hb2); (try clear hk); (try clear hi); have p51 : 0 ≤ (0 : Int) := (by omega); have q51 : 0 < a2.size := (by have : (0 : Int) < (a2.size : Int) := of_decide_eq_true (by first | (with_reducible assumption) | assumption); omega); have hx51 : ∀ h : 0 < a2.size, ((a2[0]'h).toNat : Int) = bt a2 0 := bt_at a2 0; clear p51; have qi51 : (0 < (a2.size : Int)) = True := eq_true (of_decide_eq_true (by first | (with_reducible assumption) | assumption)); replace q51 := eq_true q51; have hcz127_0 : w126.cell? ⟨gb188, 0, none⟩ = some (.string a1_0) := (blk_cell BK188.out 0).trans rfl; have hcz127_1 : w126.cell? ⟨gb188, 1, none⟩ = some (.string a1_1) := (blk_cell BK188.out 1).trans rfl; have hcz127_2 : w126.cell? ⟨gb188, 2, none⟩ = some (.string a1_2) := (blk_cell BK188.out 2).trans rfl; have hcz127_3 : w126.cell? ⟨gb188, 3, none⟩ = some (.string a1_3) := (blk_cell BK188.out 3).trans rfl; have hfz127_0 := blk_frozen BK188.out 0; have hfz127_1 := blk_frozen BK188.out 1; have hfz127_2 := blk_frozen BK188.out 2; have hfz127_3 := blk_frozen BK188.out 3) | (go_at_call 10; (with_reducible refine (comfitlaw06_awake.calls kj11  t213 _ A124.out).mono ?_); rintro e w128 ⟨rfl, hb⟩; have n0_ := Aside0.mk (bkb_ BK188.out hb); have n1_ := Aside0.mk (below_step (hb_ HB.out) hb); clear BK188; clear HB; have BK188 := n0_; have HB := n1_; clear n0_ n1_; (try clear hb); (try clear hb2); (try clear hk); (try clear hi)))
             go_ret
             exact ⟨by first | rfl | (simp [errW_none, errW_some] <;> rfl) | (simp [*, errW_none, errW_some] <;> rfl), by repeat (first | (with_reducible first | exact HB.out | apply below_alloc | apply pw_below_drewN | apply below_drew1 | refine below_set ?_ GE188.out) | exact HB.out)⟩
            ·rw [if_neg c123] at H
             have c123b0 : ((t204.size : Int) == (wrap64 ((wrap64 ((a2.size : Int) - a0)) + (a1_2.size : Int)))) = false := beq_eq_false_iff_ne.mpr c123
             have c123b1 : ((t204.size : Int) != (wrap64 ((wrap64 ((a2.size : Int) - a0)) + (a1_2.size : Int)))) = true := bne_iff_ne.mpr c123
             by_cases c129 : t205 = 6
             ·rw [if_pos c129] at H
              have c129b0 : (t205 == 6) = true := beq_iff_eq.mpr c129
              have c129b1 : (t205 != 6) = false := bne_eq_false_iff_eq.mpr c129
              clear c129
              by_cases c130 : (wrap64 ((wrap64 ((a2.size : Int) - a0)) + (a1_2.size : Int))) > 200
              ·rw [if_pos c130] at H
               have c130b0 : decide (200 < (wrap64 ((wrap64 ((a2.size : Int) - a0)) + (a1_2.size : Int)))) = true := decide_eq_true c130
               clear c130
               replace H := Option.bind_eq_some_iff.mp H
               obtain ⟨t214, A1310, H⟩ := H
               replace H : (some t214) = some r := H
               have A131 := Aside0.mk A1310
               clear A1310
               obtain rfl := Option.some.inj H
               have hcz132_0 : wc.cell? ⟨gb188, 0, none⟩ = some (.string a1_0) := (blk_cell BK188.out 0).trans rfl
               have hcz132_1 : wc.cell? ⟨gb188, 1, none⟩ = some (.string a1_1) := (blk_cell BK188.out 1).trans rfl
               have hcz132_2 : wc.cell? ⟨gb188, 2, none⟩ = some (.string a1_2) := (blk_cell BK188.out 2).trans rfl
               have hcz132_3 : wc.cell? ⟨gb188, 3, none⟩ = some (.string a1_3) := (blk_cell BK188.out 3).trans rfl
               have hfz132_0 := blk_frozen BK188.out 0
               have hfz132_1 := blk_frozen BK188.out 1
               have hfz132_2 := blk_frozen BK188.out 2
               have hfz132_3 := blk_frozen BK188.out 3
               go_wp2_with (first | ((with_reducible refine gate_callee (f := 12) rfl ?_); refine goesL_ (some 148) rfl rfl Tryd.func12 (by kernel_rfl) rfl #[.int .i64 a0, .agg #[.string a1_0, .string a1_1, .string a1_2, .string a1_3], .string a2] rfl al_ ?_; (with_reducible refine (tags_Cut.calls a0 a1_0 a1_1 a1_2 a1_3 a2 t204 t205 _ A38.out).mono ?_); rintro e w133 ⟨rfl, hb⟩; refine ⟨_, rfl, ?_⟩; have n0_ := Aside0.mk (bkb_ BK188.out hb); have n1_ := Aside0.mk (below_step (hb_ HB.out) hb); clear BK188; clear HB; have BK188 := n0_; have HB := n1_; clear n0_ n1_; (try clear hb); (try clear hb2); (try clear hk); (try clear hi); have p51 : 0 ≤ (0 : Int) := (by omega); have q51 : 0 < a2.size := (by have : (0 : Int) < (a2.size : Int) := of_decide_eq_true (by first | (with_reducible assumption) | assumption); omega); have hx51 : ∀ h : 0 < a2.size, ((a2[0]'h).toNat : Int) = bt a2 0 := bt_at a2 0; clear p51; have qi51 : (0 < (a2.size : Int)) = True := eq_true (of_decide_eq_true (by first | (with_reducible assumption) | assumption)); replace q51 := eq_true q51; have hcz134_0 : w133.cell? ⟨gb188, 0, none⟩ = some (.string a1_0) := (blk_cell BK188.out 0).trans rfl; have hcz134_1 : w133.cell? ⟨gb188, 1, none⟩ = some (.string a1_1) := (blk_cell BK188.out 1).trans rfl; have hcz134_2 : w133.cell? ⟨gb188, 2, none⟩ = some (.string a1_2) := (blk_cell BK188.out 2).trans rfl; have hcz134_3 : w133.cell? ⟨gb188, 3, none⟩ = some (.string a1_3) := (blk_cell BK188.out 3).trans rfl; have hfz134_0 := blk_frozen BK188.out 0; have hfz134_1 := blk_frozen BK188.out 1; have hfz134_2 := blk_frozen BK188.out 2; have hfz134_3 := blk_frozen BK188.out 3) | (go_at_call 10; (with_reducible refine (comfitlaw06_awake.calls kj11  t214 _ A131.out).mono ?_); rintro e w135 ⟨rfl, hb⟩; have n0_ := Aside0.mk (bkb_ BK188.out hb); have n1_ := Aside0.mk (below_step (hb_ HB.out) hb); clear BK188; clear HB; have BK188 := n0_; have HB := n1_; clear n0_ n1_; (try clear hb); (try clear hb2); (try clear hk); (try clear hi)))
               go_ret
               exact ⟨by first | rfl | (simp [errW_none, errW_some] <;> rfl) | (simp [*, errW_none, errW_some] <;> rfl), by repeat (first | (with_reducible first | exact HB.out | apply below_alloc | apply pw_below_drewN | apply below_drew1 | refine below_set ?_ GE188.out) | exact HB.out)⟩
              ·rw [if_neg c130] at H
               have c130b0 : decide (200 < (wrap64 ((wrap64 ((a2.size : Int) - a0)) + (a1_2.size : Int)))) = false := decide_eq_false c130
               clear c130
               obtain rfl := Option.some.inj H
               have hcz136_0 : wc.cell? ⟨gb188, 0, none⟩ = some (.string a1_0) := (blk_cell BK188.out 0).trans rfl
               have hcz136_1 : wc.cell? ⟨gb188, 1, none⟩ = some (.string a1_1) := (blk_cell BK188.out 1).trans rfl
               have hcz136_2 : wc.cell? ⟨gb188, 2, none⟩ = some (.string a1_2) := (blk_cell BK188.out 2).trans rfl
               have hcz136_3 : wc.cell? ⟨gb188, 3, none⟩ = some (.string a1_3) := (blk_cell BK188.out 3).trans rfl
               have hfz136_0 := blk_frozen BK188.out 0
               have hfz136_1 := blk_frozen BK188.out 1
               have hfz136_2 := blk_frozen BK188.out 2
               have hfz136_3 := blk_frozen BK188.out 3
               go_wp2_with (first | ((with_reducible refine gate_callee (f := 12) rfl ?_); refine goesL_ (some 148) rfl rfl Tryd.func12 (by kernel_rfl) rfl #[.int .i64 a0, .agg #[.string a1_0, .string a1_1, .string a1_2, .string a1_3], .string a2] rfl al_ ?_; (with_reducible refine (tags_Cut.calls a0 a1_0 a1_1 a1_2 a1_3 a2 t204 t205 _ A38.out).mono ?_); rintro e w137 ⟨rfl, hb⟩; refine ⟨_, rfl, ?_⟩; have n0_ := Aside0.mk (bkb_ BK188.out hb); have n1_ := Aside0.mk (below_step (hb_ HB.out) hb); clear BK188; clear HB; have BK188 := n0_; have HB := n1_; clear n0_ n1_; (try clear hb); (try clear hb2); (try clear hk); (try clear hi); have p51 : 0 ≤ (0 : Int) := (by omega); have q51 : 0 < a2.size := (by have : (0 : Int) < (a2.size : Int) := of_decide_eq_true (by first | (with_reducible assumption) | assumption); omega); have hx51 : ∀ h : 0 < a2.size, ((a2[0]'h).toNat : Int) = bt a2 0 := bt_at a2 0; clear p51; have qi51 : (0 < (a2.size : Int)) = True := eq_true (of_decide_eq_true (by first | (with_reducible assumption) | assumption)); replace q51 := eq_true q51; have hcz138_0 : w137.cell? ⟨gb188, 0, none⟩ = some (.string a1_0) := (blk_cell BK188.out 0).trans rfl; have hcz138_1 : w137.cell? ⟨gb188, 1, none⟩ = some (.string a1_1) := (blk_cell BK188.out 1).trans rfl; have hcz138_2 : w137.cell? ⟨gb188, 2, none⟩ = some (.string a1_2) := (blk_cell BK188.out 2).trans rfl; have hcz138_3 : w137.cell? ⟨gb188, 3, none⟩ = some (.string a1_3) := (blk_cell BK188.out 3).trans rfl; have hfz138_0 := blk_frozen BK188.out 0; have hfz138_1 := blk_frozen BK188.out 1; have hfz138_2 := blk_frozen BK188.out 2; have hfz138_3 := blk_frozen BK188.out 3))
               go_ret
               exact ⟨by first | rfl | (simp [errW_none, errW_some] <;> rfl) | (simp [*, errW_none, errW_some] <;> rfl), by repeat (first | (with_reducible first | exact HB.out | apply below_alloc | apply pw_below_drewN | apply below_drew1 | refine below_set ?_ GE188.out) | exact HB.out)⟩
             ·rw [if_neg c129] at H
              have c129b0 : (t205 == 6) = false := beq_eq_false_iff_ne.mpr c129
              have c129b1 : (t205 != 6) = true := bne_iff_ne.mpr c129
              obtain rfl := Option.some.inj H
              have hcz139_0 : wc.cell? ⟨gb188, 0, none⟩ = some (.string a1_0) := (blk_cell BK188.out 0).trans rfl
              have hcz139_1 : wc.cell? ⟨gb188, 1, none⟩ = some (.string a1_1) := (blk_cell BK188.out 1).trans rfl
              have hcz139_2 : wc.cell? ⟨gb188, 2, none⟩ = some (.string a1_2) := (blk_cell BK188.out 2).trans rfl
              have hcz139_3 : wc.cell? ⟨gb188, 3, none⟩ = some (.string a1_3) := (blk_cell BK188.out 3).trans rfl
              have hfz139_0 := blk_frozen BK188.out 0
              have hfz139_1 := blk_frozen BK188.out 1
              have hfz139_2 := blk_frozen BK188.out 2
              have hfz139_3 := blk_frozen BK188.out 3
              go_wp2_with (first | ((with_reducible refine gate_callee (f := 12) rfl ?_); refine goesL_ (some 148) rfl rfl Tryd.func12 (by kernel_rfl) rfl #[.int .i64 a0, .agg #[.string a1_0, .string a1_1, .string a1_2, .string a1_3], .string a2] rfl al_ ?_; (with_reducible refine (tags_Cut.calls a0 a1_0 a1_1 a1_2 a1_3 a2 t204 t205 _ A38.out).mono ?_); rintro e w140 ⟨rfl, hb⟩; refine ⟨_, rfl, ?_⟩; have n0_ := Aside0.mk (bkb_ BK188.out hb); have n1_ := Aside0.mk (below_step (hb_ HB.out) hb); clear BK188; clear HB; have BK188 := n0_; have HB := n1_; clear n0_ n1_; (try clear hb); (try clear hb2); (try clear hk); (try clear hi); have p51 : 0 ≤ (0 : Int) := (by omega); have q51 : 0 < a2.size := (by have : (0 : Int) < (a2.size : Int) := of_decide_eq_true (by first | (with_reducible assumption) | assumption); omega); have hx51 : ∀ h : 0 < a2.size, ((a2[0]'h).toNat : Int) = bt a2 0 := bt_at a2 0; clear p51; have qi51 : (0 < (a2.size : Int)) = True := eq_true (of_decide_eq_true (by first | (with_reducible assumption) | assumption)); replace q51 := eq_true q51; have hcz141_0 : w140.cell? ⟨gb188, 0, none⟩ = some (.string a1_0) := (blk_cell BK188.out 0).trans rfl; have hcz141_1 : w140.cell? ⟨gb188, 1, none⟩ = some (.string a1_1) := (blk_cell BK188.out 1).trans rfl; have hcz141_2 : w140.cell? ⟨gb188, 2, none⟩ = some (.string a1_2) := (blk_cell BK188.out 2).trans rfl; have hcz141_3 : w140.cell? ⟨gb188, 3, none⟩ = some (.string a1_3) := (blk_cell BK188.out 3).trans rfl; have hfz141_0 := blk_frozen BK188.out 0; have hfz141_1 := blk_frozen BK188.out 1; have hfz141_2 := blk_frozen BK188.out 2; have hfz141_3 := blk_frozen BK188.out 3))
              go_ret
              exact ⟨by first | rfl | (simp [errW_none, errW_some] <;> rfl) | (simp [*, errW_none, errW_some] <;> rfl), by repeat (first | (with_reducible first | exact HB.out | apply below_alloc | apply pw_below_drewN | apply below_drew1 | refine below_set ?_ GE188.out) | exact HB.out)⟩
           ·rw [if_neg c122] at H
            have c122b0 : (t205 == 0) = false := beq_eq_false_iff_ne.mpr c122
            have c122b1 : (t205 != 0) = true := bne_iff_ne.mpr c122
            by_cases c142 : t205 = 6
            ·rw [if_pos c142] at H
             have c142b0 : (t205 == 6) = true := beq_iff_eq.mpr c142
             have c142b1 : (t205 != 6) = false := bne_eq_false_iff_eq.mpr c142
             clear c142
             by_cases c143 : (wrap64 ((wrap64 ((a2.size : Int) - a0)) + (a1_2.size : Int))) > 200
             ·rw [if_pos c143] at H
              have c143b0 : decide (200 < (wrap64 ((wrap64 ((a2.size : Int) - a0)) + (a1_2.size : Int)))) = true := decide_eq_true c143
              clear c143
              replace H := Option.bind_eq_some_iff.mp H
              obtain ⟨t215, A1440, H⟩ := H
              replace H : (some t215) = some r := H
              have A144 := Aside0.mk A1440
              clear A1440
              obtain rfl := Option.some.inj H
              have hcz145_0 : wc.cell? ⟨gb188, 0, none⟩ = some (.string a1_0) := (blk_cell BK188.out 0).trans rfl
              have hcz145_1 : wc.cell? ⟨gb188, 1, none⟩ = some (.string a1_1) := (blk_cell BK188.out 1).trans rfl
              have hcz145_2 : wc.cell? ⟨gb188, 2, none⟩ = some (.string a1_2) := (blk_cell BK188.out 2).trans rfl
              have hcz145_3 : wc.cell? ⟨gb188, 3, none⟩ = some (.string a1_3) := (blk_cell BK188.out 3).trans rfl
              have hfz145_0 := blk_frozen BK188.out 0
              have hfz145_1 := blk_frozen BK188.out 1
              have hfz145_2 := blk_frozen BK188.out 2
              have hfz145_3 := blk_frozen BK188.out 3
              go_wp2_with (first | ((with_reducible refine gate_callee (f := 12) rfl ?_); refine goesL_ (some 148) rfl rfl Tryd.func12 (by kernel_rfl) rfl #[.int .i64 a0, .agg #[.string a1_0, .string a1_1, .string a1_2, .string a1_3], .string a2] rfl al_ ?_; (with_reducible refine (tags_Cut.calls a0 a1_0 a1_1 a1_2 a1_3 a2 t204 t205 _ A38.out).mono ?_); rintro e w146 ⟨rfl, hb⟩; refine ⟨_, rfl, ?_⟩; have n0_ := Aside0.mk (bkb_ BK188.out hb); have n1_ := Aside0.mk (below_step (hb_ HB.out) hb); clear BK188; clear HB; have BK188 := n0_; have HB := n1_; clear n0_ n1_; (try clear hb); (try clear hb2); (try clear hk); (try clear hi); have p51 : 0 ≤ (0 : Int) := (by omega); have q51 : 0 < a2.size := (by have : (0 : Int) < (a2.size : Int) := of_decide_eq_true (by first | (with_reducible assumption) | assumption); omega); have hx51 : ∀ h : 0 < a2.size, ((a2[0]'h).toNat : Int) = bt a2 0 := bt_at a2 0; clear p51; have qi51 : (0 < (a2.size : Int)) = True := eq_true (of_decide_eq_true (by first | (with_reducible assumption) | assumption)); replace q51 := eq_true q51; have hcz147_0 : w146.cell? ⟨gb188, 0, none⟩ = some (.string a1_0) := (blk_cell BK188.out 0).trans rfl; have hcz147_1 : w146.cell? ⟨gb188, 1, none⟩ = some (.string a1_1) := (blk_cell BK188.out 1).trans rfl; have hcz147_2 : w146.cell? ⟨gb188, 2, none⟩ = some (.string a1_2) := (blk_cell BK188.out 2).trans rfl; have hcz147_3 : w146.cell? ⟨gb188, 3, none⟩ = some (.string a1_3) := (blk_cell BK188.out 3).trans rfl; have hfz147_0 := blk_frozen BK188.out 0; have hfz147_1 := blk_frozen BK188.out 1; have hfz147_2 := blk_frozen BK188.out 2; have hfz147_3 := blk_frozen BK188.out 3) | (go_at_call 10; (with_reducible refine (comfitlaw06_awake.calls kj11  t215 _ A144.out).mono ?_); rintro e w148 ⟨rfl, hb⟩; have n0_ := Aside0.mk (bkb_ BK188.out hb); have n1_ := Aside0.mk (below_step (hb_ HB.out) hb); clear BK188; clear HB; have BK188 := n0_; have HB := n1_; clear n0_ n1_; (try clear hb); (try clear hb2); (try clear hk); (try clear hi)))
              go_ret
              exact ⟨by first | rfl | (simp [errW_none, errW_some] <;> rfl) | (simp [*, errW_none, errW_some] <;> rfl), by repeat (first | (with_reducible first | exact HB.out | apply below_alloc | apply pw_below_drewN | apply below_drew1 | refine below_set ?_ GE188.out) | exact HB.out)⟩
             ·rw [if_neg c143] at H
              have c143b0 : decide (200 < (wrap64 ((wrap64 ((a2.size : Int) - a0)) + (a1_2.size : Int)))) = false := decide_eq_false c143
              clear c143
              obtain rfl := Option.some.inj H
              have hcz149_0 : wc.cell? ⟨gb188, 0, none⟩ = some (.string a1_0) := (blk_cell BK188.out 0).trans rfl
              have hcz149_1 : wc.cell? ⟨gb188, 1, none⟩ = some (.string a1_1) := (blk_cell BK188.out 1).trans rfl
              have hcz149_2 : wc.cell? ⟨gb188, 2, none⟩ = some (.string a1_2) := (blk_cell BK188.out 2).trans rfl
              have hcz149_3 : wc.cell? ⟨gb188, 3, none⟩ = some (.string a1_3) := (blk_cell BK188.out 3).trans rfl
              have hfz149_0 := blk_frozen BK188.out 0
              have hfz149_1 := blk_frozen BK188.out 1
              have hfz149_2 := blk_frozen BK188.out 2
              have hfz149_3 := blk_frozen BK188.out 3
              go_wp2_with (first | ((with_reducible refine gate_callee (f := 12) rfl ?_); refine goesL_ (some 148) rfl rfl Tryd.func12 (by kernel_rfl) rfl #[.int .i64 a0, .agg #[.string a1_0, .string a1_1, .string a1_2, .string a1_3], .string a2] rfl al_ ?_; (with_reducible refine (tags_Cut.calls a0 a1_0 a1_1 a1_2 a1_3 a2 t204 t205 _ A38.out).mono ?_); rintro e w150 ⟨rfl, hb⟩; refine ⟨_, rfl, ?_⟩; have n0_ := Aside0.mk (bkb_ BK188.out hb); have n1_ := Aside0.mk (below_step (hb_ HB.out) hb); clear BK188; clear HB; have BK188 := n0_; have HB := n1_; clear n0_ n1_; (try clear hb); (try clear hb2); (try clear hk); (try clear hi); have p51 : 0 ≤ (0 : Int) := (by omega); have q51 : 0 < a2.size := (by have : (0 : Int) < (a2.size : Int) := of_decide_eq_true (by first | (with_reducible assumption) | assumption); omega); have hx51 : ∀ h : 0 < a2.size, ((a2[0]'h).toNat : Int) = bt a2 0 := bt_at a2 0; clear p51; have qi51 : (0 < (a2.size : Int)) = True := eq_true (of_decide_eq_true (by first | (with_reducible assumption) | assumption)); replace q51 := eq_true q51; have hcz151_0 : w150.cell? ⟨gb188, 0, none⟩ = some (.string a1_0) := (blk_cell BK188.out 0).trans rfl; have hcz151_1 : w150.cell? ⟨gb188, 1, none⟩ = some (.string a1_1) := (blk_cell BK188.out 1).trans rfl; have hcz151_2 : w150.cell? ⟨gb188, 2, none⟩ = some (.string a1_2) := (blk_cell BK188.out 2).trans rfl; have hcz151_3 : w150.cell? ⟨gb188, 3, none⟩ = some (.string a1_3) := (blk_cell BK188.out 3).trans rfl; have hfz151_0 := blk_frozen BK188.out 0; have hfz151_1 := blk_frozen BK188.out 1; have hfz151_2 := blk_frozen BK188.out 2; have hfz151_3 := blk_frozen BK188.out 3))
              go_ret
              exact ⟨by first | rfl | (simp [errW_none, errW_some] <;> rfl) | (simp [*, errW_none, errW_some] <;> rfl), by repeat (first | (with_reducible first | exact HB.out | apply below_alloc | apply pw_below_drewN | apply below_drew1 | refine below_set ?_ GE188.out) | exact HB.out)⟩
            ·rw [if_neg c142] at H
             have c142b0 : (t205 == 6) = false := beq_eq_false_iff_ne.mpr c142
             have c142b1 : (t205 != 6) = true := bne_iff_ne.mpr c142
             obtain rfl := Option.some.inj H
             have hcz152_0 : wc.cell? ⟨gb188, 0, none⟩ = some (.string a1_0) := (blk_cell BK188.out 0).trans rfl
             have hcz152_1 : wc.cell? ⟨gb188, 1, none⟩ = some (.string a1_1) := (blk_cell BK188.out 1).trans rfl
             have hcz152_2 : wc.cell? ⟨gb188, 2, none⟩ = some (.string a1_2) := (blk_cell BK188.out 2).trans rfl
             have hcz152_3 : wc.cell? ⟨gb188, 3, none⟩ = some (.string a1_3) := (blk_cell BK188.out 3).trans rfl
             have hfz152_0 := blk_frozen BK188.out 0
             have hfz152_1 := blk_frozen BK188.out 1
             have hfz152_2 := blk_frozen BK188.out 2
             have hfz152_3 := blk_frozen BK188.out 3
             go_wp2_with (first | ((with_reducible refine gate_callee (f := 12) rfl ?_); refine goesL_ (some 148) rfl rfl Tryd.func12 (by kernel_rfl) rfl #[.int .i64 a0, .agg #[.string a1_0, .string a1_1, .string a1_2, .string a1_3], .string a2] rfl al_ ?_; (with_reducible refine (tags_Cut.calls a0 a1_0 a1_1 a1_2 a1_3 a2 t204 t205 _ A38.out).mono ?_); rintro e w153 ⟨rfl, hb⟩; refine ⟨_, rfl, ?_⟩; have n0_ := Aside0.mk (bkb_ BK188.out hb); have n1_ := Aside0.mk (below_step (hb_ HB.out) hb); clear BK188; clear HB; have BK188 := n0_; have HB := n1_; clear n0_ n1_; (try clear hb); (try clear hb2); (try clear hk); (try clear hi); have p51 : 0 ≤ (0 : Int) := (by omega); have q51 : 0 < a2.size := (by have : (0 : Int) < (a2.size : Int) := of_decide_eq_true (by first | (with_reducible assumption) | assumption); omega); have hx51 : ∀ h : 0 < a2.size, ((a2[0]'h).toNat : Int) = bt a2 0 := bt_at a2 0; clear p51; have qi51 : (0 < (a2.size : Int)) = True := eq_true (of_decide_eq_true (by first | (with_reducible assumption) | assumption)); replace q51 := eq_true q51; have hcz154_0 : w153.cell? ⟨gb188, 0, none⟩ = some (.string a1_0) := (blk_cell BK188.out 0).trans rfl; have hcz154_1 : w153.cell? ⟨gb188, 1, none⟩ = some (.string a1_1) := (blk_cell BK188.out 1).trans rfl; have hcz154_2 : w153.cell? ⟨gb188, 2, none⟩ = some (.string a1_2) := (blk_cell BK188.out 2).trans rfl; have hcz154_3 : w153.cell? ⟨gb188, 3, none⟩ = some (.string a1_3) := (blk_cell BK188.out 3).trans rfl; have hfz154_0 := blk_frozen BK188.out 0; have hfz154_1 := blk_frozen BK188.out 1; have hfz154_2 := blk_frozen BK188.out 2; have hfz154_3 := blk_frozen BK188.out 3))
             go_ret
             exact ⟨by first | rfl | (simp [errW_none, errW_some] <;> rfl) | (simp [*, errW_none, errW_some] <;> rfl), by repeat (first | (with_reducible first | exact HB.out | apply below_alloc | apply pw_below_drewN | apply below_drew1 | refine below_set ?_ GE188.out) | exact HB.out)⟩
          ·rw [if_neg c121] at H
           have c121b0 : ((iq52) == 2) = false := beq_eq_false_iff_ne.mpr c121
           have c121b1 : ((iq52) != 2) = true := bne_iff_ne.mpr c121
           by_cases c155 : (iq52) = 3
           ·rw [if_pos c155] at H
            subst c155
            by_cases c156 : t205 = 0
            ·rw [if_pos c156] at H
             have c156b0 : (t205 == 0) = true := beq_iff_eq.mpr c156
             have c156b1 : (t205 != 0) = false := bne_eq_false_iff_eq.mpr c156
             clear c156
             by_cases c157 : (t204.size : Int) = (wrap64 ((wrap64 ((a2.size : Int) - a0)) + (a1_3.size : Int)))
             ·rw [if_pos c157] at H
              have c157b0 : ((t204.size : Int) == (wrap64 ((wrap64 ((a2.size : Int) - a0)) + (a1_3.size : Int)))) = true := beq_iff_eq.mpr c157
              have c157b1 : ((t204.size : Int) != (wrap64 ((wrap64 ((a2.size : Int) - a0)) + (a1_3.size : Int)))) = false := bne_eq_false_iff_eq.mpr c157
              clear c157
              replace H := Option.bind_eq_some_iff.mp H
              obtain ⟨t216, A1580, H⟩ := H
              replace H : (some t216) = some r := H
              have A158 := Aside0.mk A1580
              clear A1580
              obtain rfl := Option.some.inj H
              have hcz159_0 : wc.cell? ⟨gb188, 0, none⟩ = some (.string a1_0) := (blk_cell BK188.out 0).trans rfl
              have hcz159_1 : wc.cell? ⟨gb188, 1, none⟩ = some (.string a1_1) := (blk_cell BK188.out 1).trans rfl
              have hcz159_2 : wc.cell? ⟨gb188, 2, none⟩ = some (.string a1_2) := (blk_cell BK188.out 2).trans rfl
              have hcz159_3 : wc.cell? ⟨gb188, 3, none⟩ = some (.string a1_3) := (blk_cell BK188.out 3).trans rfl
              have hfz159_0 := blk_frozen BK188.out 0
              have hfz159_1 := blk_frozen BK188.out 1
              have hfz159_2 := blk_frozen BK188.out 2
              have hfz159_3 := blk_frozen BK188.out 3
              go_wp2_with (first | ((with_reducible refine gate_callee (f := 12) rfl ?_); refine goesL_ (some 148) rfl rfl Tryd.func12 (by kernel_rfl) rfl #[.int .i64 a0, .agg #[.string a1_0, .string a1_1, .string a1_2, .string a1_3], .string a2] rfl al_ ?_; (with_reducible refine (tags_Cut.calls a0 a1_0 a1_1 a1_2 a1_3 a2 t204 t205 _ A38.out).mono ?_); rintro e w160 ⟨rfl, hb⟩; refine ⟨_, rfl, ?_⟩; have n0_ := Aside0.mk (bkb_ BK188.out hb); have n1_ := Aside0.mk (below_step (hb_ HB.out) hb); clear BK188; clear HB; have BK188 := n0_; have HB := n1_; clear n0_ n1_; (try clear hb); (try clear hb2); (try clear hk); (try clear hi); have p51 : 0 ≤ (0 : Int) := (by omega); have q51 : 0 < a2.size := (by have : (0 : Int) < (a2.size : Int) := of_decide_eq_true (by first | (with_reducible assumption) | assumption); omega); have hx51 : ∀ h : 0 < a2.size, ((a2[0]'h).toNat : Int) = bt a2 0 := bt_at a2 0; clear p51; have qi51 : (0 < (a2.size : Int)) = True := eq_true (of_decide_eq_true (by first | (with_reducible assumption) | assumption)); replace q51 := eq_true q51; have hcz161_0 : w160.cell? ⟨gb188, 0, none⟩ = some (.string a1_0) := (blk_cell BK188.out 0).trans rfl; have hcz161_1 : w160.cell? ⟨gb188, 1, none⟩ = some (.string a1_1) := (blk_cell BK188.out 1).trans rfl; have hcz161_2 : w160.cell? ⟨gb188, 2, none⟩ = some (.string a1_2) := (blk_cell BK188.out 2).trans rfl; have hcz161_3 : w160.cell? ⟨gb188, 3, none⟩ = some (.string a1_3) := (blk_cell BK188.out 3).trans rfl; have hfz161_0 := blk_frozen BK188.out 0; have hfz161_1 := blk_frozen BK188.out 1; have hfz161_2 := blk_frozen BK188.out 2; have hfz161_3 := blk_frozen BK188.out 3) | (go_at_call 10; (with_reducible refine (comfitlaw06_awake.calls kj11  t216 _ A158.out).mono ?_); rintro e w162 ⟨rfl, hb⟩; have n0_ := Aside0.mk (bkb_ BK188.out hb); have n1_ := Aside0.mk (below_step (hb_ HB.out) hb); clear BK188; clear HB; have BK188 := n0_; have HB := n1_; clear n0_ n1_; (try clear hb); (try clear hb2); (try clear hk); (try clear hi)))
              go_ret
              exact ⟨by first | rfl | (simp [errW_none, errW_some] <;> rfl) | (simp [*, errW_none, errW_some] <;> rfl), by repeat (first | (with_reducible first | exact HB.out | apply below_alloc | apply pw_below_drewN | apply below_drew1 | refine below_set ?_ GE188.out) | exact HB.out)⟩
             ·rw [if_neg c157] at H
              have c157b0 : ((t204.size : Int) == (wrap64 ((wrap64 ((a2.size : Int) - a0)) + (a1_3.size : Int)))) = false := beq_eq_false_iff_ne.mpr c157
              have c157b1 : ((t204.size : Int) != (wrap64 ((wrap64 ((a2.size : Int) - a0)) + (a1_3.size : Int)))) = true := bne_iff_ne.mpr c157
              by_cases c163 : t205 = 6
              ·rw [if_pos c163] at H
               have c163b0 : (t205 == 6) = true := beq_iff_eq.mpr c163
               have c163b1 : (t205 != 6) = false := bne_eq_false_iff_eq.mpr c163
               clear c163
               by_cases c164 : (wrap64 ((wrap64 ((a2.size : Int) - a0)) + (a1_3.size : Int))) > 200
               ·rw [if_pos c164] at H
                have c164b0 : decide (200 < (wrap64 ((wrap64 ((a2.size : Int) - a0)) + (a1_3.size : Int)))) = true := decide_eq_true c164
                clear c164
                replace H := Option.bind_eq_some_iff.mp H
                obtain ⟨t217, A1650, H⟩ := H
                replace H : (some t217) = some r := H
                have A165 := Aside0.mk A1650
                clear A1650
                obtain rfl := Option.some.inj H
                have hcz166_0 : wc.cell? ⟨gb188, 0, none⟩ = some (.string a1_0) := (blk_cell BK188.out 0).trans rfl
                have hcz166_1 : wc.cell? ⟨gb188, 1, none⟩ = some (.string a1_1) := (blk_cell BK188.out 1).trans rfl
                have hcz166_2 : wc.cell? ⟨gb188, 2, none⟩ = some (.string a1_2) := (blk_cell BK188.out 2).trans rfl
                have hcz166_3 : wc.cell? ⟨gb188, 3, none⟩ = some (.string a1_3) := (blk_cell BK188.out 3).trans rfl
                have hfz166_0 := blk_frozen BK188.out 0
                have hfz166_1 := blk_frozen BK188.out 1
                have hfz166_2 := blk_frozen BK188.out 2
                have hfz166_3 := blk_frozen BK188.out 3
                go_wp2_with (first | ((with_reducible refine gate_callee (f := 12) rfl ?_); refine goesL_ (some 148) rfl rfl Tryd.func12 (by kernel_rfl) rfl #[.int .i64 a0, .agg #[.string a1_0, .string a1_1, .string a1_2, .string a1_3], .string a2] rfl al_ ?_; (with_reducible refine (tags_Cut.calls a0 a1_0 a1_1 a1_2 a1_3 a2 t204 t205 _ A38.out).mono ?_); rintro e w167 ⟨rfl, hb⟩; refine ⟨_, rfl, ?_⟩; have n0_ := Aside0.mk (bkb_ BK188.out hb); have n1_ := Aside0.mk (below_step (hb_ HB.out) hb); clear BK188; clear HB; have BK188 := n0_; have HB := n1_; clear n0_ n1_; (try clear hb); (try clear hb2); (try clear hk); (try clear hi); have p51 : 0 ≤ (0 : Int) := (by omega); have q51 : 0 < a2.size := (by have : (0 : Int) < (a2.size : Int) := of_decide_eq_true (by first | (with_reducible assumption) | assumption); omega); have hx51 : ∀ h : 0 < a2.size, ((a2[0]'h).toNat : Int) = bt a2 0 := bt_at a2 0; clear p51; have qi51 : (0 < (a2.size : Int)) = True := eq_true (of_decide_eq_true (by first | (with_reducible assumption) | assumption)); replace q51 := eq_true q51; have hcz168_0 : w167.cell? ⟨gb188, 0, none⟩ = some (.string a1_0) := (blk_cell BK188.out 0).trans rfl; have hcz168_1 : w167.cell? ⟨gb188, 1, none⟩ = some (.string a1_1) := (blk_cell BK188.out 1).trans rfl; have hcz168_2 : w167.cell? ⟨gb188, 2, none⟩ = some (.string a1_2) := (blk_cell BK188.out 2).trans rfl; have hcz168_3 : w167.cell? ⟨gb188, 3, none⟩ = some (.string a1_3) := (blk_cell BK188.out 3).trans rfl; have hfz168_0 := blk_frozen BK188.out 0; have hfz168_1 := blk_frozen BK188.out 1; have hfz168_2 := blk_frozen BK188.out 2; have hfz168_3 := blk_frozen BK188.out 3) | (go_at_call 10; (with_reducible refine (comfitlaw06_awake.calls kj11  t217 _ A165.out).mono ?_); rintro e w169 ⟨rfl, hb⟩; have n0_ := Aside0.mk (bkb_ BK188.out hb); have n1_ := Aside0.mk (below_step (hb_ HB.out) hb); clear BK188; clear HB; have BK188 := n0_; have HB := n1_; clear n0_ n1_; (try clear hb); (try clear hb2); (try clear hk); (try clear hi)))
                go_ret
                exact ⟨by first | rfl | (simp [errW_none, errW_some] <;> rfl) | (simp [*, errW_none, errW_some] <;> rfl), by repeat (first | (with_reducible first | exact HB.out | apply below_alloc | apply pw_below_drewN | apply below_drew1 | refine below_set ?_ GE188.out) | exact HB.out)⟩
               ·rw [if_neg c164] at H
                have c164b0 : decide (200 < (wrap64 ((wrap64 ((a2.size : Int) - a0)) + (a1_3.size : Int)))) = false := decide_eq_false c164
                clear c164
                obtain rfl := Option.some.inj H
                have hcz170_0 : wc.cell? ⟨gb188, 0, none⟩ = some (.string a1_0) := (blk_cell BK188.out 0).trans rfl
                have hcz170_1 : wc.cell? ⟨gb188, 1, none⟩ = some (.string a1_1) := (blk_cell BK188.out 1).trans rfl
                have hcz170_2 : wc.cell? ⟨gb188, 2, none⟩ = some (.string a1_2) := (blk_cell BK188.out 2).trans rfl
                have hcz170_3 : wc.cell? ⟨gb188, 3, none⟩ = some (.string a1_3) := (blk_cell BK188.out 3).trans rfl
                have hfz170_0 := blk_frozen BK188.out 0
                have hfz170_1 := blk_frozen BK188.out 1
                have hfz170_2 := blk_frozen BK188.out 2
                have hfz170_3 := blk_frozen BK188.out 3
                go_wp2_with (first | ((with_reducible refine gate_callee (f := 12) rfl ?_); refine goesL_ (some 148) rfl rfl Tryd.func12 (by kernel_rfl) rfl #[.int .i64 a0, .agg #[.string a1_0, .string a1_1, .string a1_2, .string a1_3], .string a2] rfl al_ ?_; (with_reducible refine (tags_Cut.calls a0 a1_0 a1_1 a1_2 a1_3 a2 t204 t205 _ A38.out).mono ?_); rintro e w171 ⟨rfl, hb⟩; refine ⟨_, rfl, ?_⟩; have n0_ := Aside0.mk (bkb_ BK188.out hb); have n1_ := Aside0.mk (below_step (hb_ HB.out) hb); clear BK188; clear HB; have BK188 := n0_; have HB := n1_; clear n0_ n1_; (try clear hb); (try clear hb2); (try clear hk); (try clear hi); have p51 : 0 ≤ (0 : Int) := (by omega); have q51 : 0 < a2.size := (by have : (0 : Int) < (a2.size : Int) := of_decide_eq_true (by first | (with_reducible assumption) | assumption); omega); have hx51 : ∀ h : 0 < a2.size, ((a2[0]'h).toNat : Int) = bt a2 0 := bt_at a2 0; clear p51; have qi51 : (0 < (a2.size : Int)) = True := eq_true (of_decide_eq_true (by first | (with_reducible assumption) | assumption)); replace q51 := eq_true q51; have hcz172_0 : w171.cell? ⟨gb188, 0, none⟩ = some (.string a1_0) := (blk_cell BK188.out 0).trans rfl; have hcz172_1 : w171.cell? ⟨gb188, 1, none⟩ = some (.string a1_1) := (blk_cell BK188.out 1).trans rfl; have hcz172_2 : w171.cell? ⟨gb188, 2, none⟩ = some (.string a1_2) := (blk_cell BK188.out 2).trans rfl; have hcz172_3 : w171.cell? ⟨gb188, 3, none⟩ = some (.string a1_3) := (blk_cell BK188.out 3).trans rfl; have hfz172_0 := blk_frozen BK188.out 0; have hfz172_1 := blk_frozen BK188.out 1; have hfz172_2 := blk_frozen BK188.out 2; have hfz172_3 := blk_frozen BK188.out 3))
                go_ret
                exact ⟨by first | rfl | (simp [errW_none, errW_some] <;> rfl) | (simp [*, errW_none, errW_some] <;> rfl), by repeat (first | (with_reducible first | exact HB.out | apply below_alloc | apply pw_below_drewN | apply below_drew1 | refine below_set ?_ GE188.out) | exact HB.out)⟩
              ·rw [if_neg c163] at H
               have c163b0 : (t205 == 6) = false := beq_eq_false_iff_ne.mpr c163
               have c163b1 : (t205 != 6) = true := bne_iff_ne.mpr c163
               obtain rfl := Option.some.inj H
               have hcz173_0 : wc.cell? ⟨gb188, 0, none⟩ = some (.string a1_0) := (blk_cell BK188.out 0).trans rfl
               have hcz173_1 : wc.cell? ⟨gb188, 1, none⟩ = some (.string a1_1) := (blk_cell BK188.out 1).trans rfl
               have hcz173_2 : wc.cell? ⟨gb188, 2, none⟩ = some (.string a1_2) := (blk_cell BK188.out 2).trans rfl
               have hcz173_3 : wc.cell? ⟨gb188, 3, none⟩ = some (.string a1_3) := (blk_cell BK188.out 3).trans rfl
               have hfz173_0 := blk_frozen BK188.out 0
               have hfz173_1 := blk_frozen BK188.out 1
               have hfz173_2 := blk_frozen BK188.out 2
               have hfz173_3 := blk_frozen BK188.out 3
               go_wp2_with (first | ((with_reducible refine gate_callee (f := 12) rfl ?_); refine goesL_ (some 148) rfl rfl Tryd.func12 (by kernel_rfl) rfl #[.int .i64 a0, .agg #[.string a1_0, .string a1_1, .string a1_2, .string a1_3], .string a2] rfl al_ ?_; (with_reducible refine (tags_Cut.calls a0 a1_0 a1_1 a1_2 a1_3 a2 t204 t205 _ A38.out).mono ?_); rintro e w174 ⟨rfl, hb⟩; refine ⟨_, rfl, ?_⟩; have n0_ := Aside0.mk (bkb_ BK188.out hb); have n1_ := Aside0.mk (below_step (hb_ HB.out) hb); clear BK188; clear HB; have BK188 := n0_; have HB := n1_; clear n0_ n1_; (try clear hb); (try clear hb2); (try clear hk); (try clear hi); have p51 : 0 ≤ (0 : Int) := (by omega); have q51 : 0 < a2.size := (by have : (0 : Int) < (a2.size : Int) := of_decide_eq_true (by first | (with_reducible assumption) | assumption); omega); have hx51 : ∀ h : 0 < a2.size, ((a2[0]'h).toNat : Int) = bt a2 0 := bt_at a2 0; clear p51; have qi51 : (0 < (a2.size : Int)) = True := eq_true (of_decide_eq_true (by first | (with_reducible assumption) | assumption)); replace q51 := eq_true q51; have hcz175_0 : w174.cell? ⟨gb188, 0, none⟩ = some (.string a1_0) := (blk_cell BK188.out 0).trans rfl; have hcz175_1 : w174.cell? ⟨gb188, 1, none⟩ = some (.string a1_1) := (blk_cell BK188.out 1).trans rfl; have hcz175_2 : w174.cell? ⟨gb188, 2, none⟩ = some (.string a1_2) := (blk_cell BK188.out 2).trans rfl; have hcz175_3 : w174.cell? ⟨gb188, 3, none⟩ = some (.string a1_3) := (blk_cell BK188.out 3).trans rfl; have hfz175_0 := blk_frozen BK188.out 0; have hfz175_1 := blk_frozen BK188.out 1; have hfz175_2 := blk_frozen BK188.out 2; have hfz175_3 := blk_frozen BK188.out 3))
               go_ret
               exact ⟨by first | rfl | (simp [errW_none, errW_some] <;> rfl) | (simp [*, errW_none, errW_some] <;> rfl), by repeat (first | (with_reducible first | exact HB.out | apply below_alloc | apply pw_below_drewN | apply below_drew1 | refine below_set ?_ GE188.out) | exact HB.out)⟩
            ·rw [if_neg c156] at H
             have c156b0 : (t205 == 0) = false := beq_eq_false_iff_ne.mpr c156
             have c156b1 : (t205 != 0) = true := bne_iff_ne.mpr c156
             by_cases c176 : t205 = 6
             ·rw [if_pos c176] at H
              have c176b0 : (t205 == 6) = true := beq_iff_eq.mpr c176
              have c176b1 : (t205 != 6) = false := bne_eq_false_iff_eq.mpr c176
              clear c176
              by_cases c177 : (wrap64 ((wrap64 ((a2.size : Int) - a0)) + (a1_3.size : Int))) > 200
              ·rw [if_pos c177] at H
               have c177b0 : decide (200 < (wrap64 ((wrap64 ((a2.size : Int) - a0)) + (a1_3.size : Int)))) = true := decide_eq_true c177
               clear c177
               replace H := Option.bind_eq_some_iff.mp H
               obtain ⟨t218, A1780, H⟩ := H
               replace H : (some t218) = some r := H
               have A178 := Aside0.mk A1780
               clear A1780
               obtain rfl := Option.some.inj H
               have hcz179_0 : wc.cell? ⟨gb188, 0, none⟩ = some (.string a1_0) := (blk_cell BK188.out 0).trans rfl
               have hcz179_1 : wc.cell? ⟨gb188, 1, none⟩ = some (.string a1_1) := (blk_cell BK188.out 1).trans rfl
               have hcz179_2 : wc.cell? ⟨gb188, 2, none⟩ = some (.string a1_2) := (blk_cell BK188.out 2).trans rfl
               have hcz179_3 : wc.cell? ⟨gb188, 3, none⟩ = some (.string a1_3) := (blk_cell BK188.out 3).trans rfl
               have hfz179_0 := blk_frozen BK188.out 0
               have hfz179_1 := blk_frozen BK188.out 1
               have hfz179_2 := blk_frozen BK188.out 2
               have hfz179_3 := blk_frozen BK188.out 3
               go_wp2_with (first | ((with_reducible refine gate_callee (f := 12) rfl ?_); refine goesL_ (some 148) rfl rfl Tryd.func12 (by kernel_rfl) rfl #[.int .i64 a0, .agg #[.string a1_0, .string a1_1, .string a1_2, .string a1_3], .string a2] rfl al_ ?_; (with_reducible refine (tags_Cut.calls a0 a1_0 a1_1 a1_2 a1_3 a2 t204 t205 _ A38.out).mono ?_); rintro e w180 ⟨rfl, hb⟩; refine ⟨_, rfl, ?_⟩; have n0_ := Aside0.mk (bkb_ BK188.out hb); have n1_ := Aside0.mk (below_step (hb_ HB.out) hb); clear BK188; clear HB; have BK188 := n0_; have HB := n1_; clear n0_ n1_; (try clear hb); (try clear hb2); (try clear hk); (try clear hi); have p51 : 0 ≤ (0 : Int) := (by omega); have q51 : 0 < a2.size := (by have : (0 : Int) < (a2.size : Int) := of_decide_eq_true (by first | (with_reducible assumption) | assumption); omega); have hx51 : ∀ h : 0 < a2.size, ((a2[0]'h).toNat : Int) = bt a2 0 := bt_at a2 0; clear p51; have qi51 : (0 < (a2.size : Int)) = True := eq_true (of_decide_eq_true (by first | (with_reducible assumption) | assumption)); replace q51 := eq_true q51; have hcz181_0 : w180.cell? ⟨gb188, 0, none⟩ = some (.string a1_0) := (blk_cell BK188.out 0).trans rfl; have hcz181_1 : w180.cell? ⟨gb188, 1, none⟩ = some (.string a1_1) := (blk_cell BK188.out 1).trans rfl; have hcz181_2 : w180.cell? ⟨gb188, 2, none⟩ = some (.string a1_2) := (blk_cell BK188.out 2).trans rfl; have hcz181_3 : w180.cell? ⟨gb188, 3, none⟩ = some (.string a1_3) := (blk_cell BK188.out 3).trans rfl; have hfz181_0 := blk_frozen BK188.out 0; have hfz181_1 := blk_frozen BK188.out 1; have hfz181_2 := blk_frozen BK188.out 2; have hfz181_3 := blk_frozen BK188.out 3) | (go_at_call 10; (with_reducible refine (comfitlaw06_awake.calls kj11  t218 _ A178.out).mono ?_); rintro e w182 ⟨rfl, hb⟩; have n0_ := Aside0.mk (bkb_ BK188.out hb); have n1_ := Aside0.mk (below_step (hb_ HB.out) hb); clear BK188; clear HB; have BK188 := n0_; have HB := n1_; clear n0_ n1_; (try clear hb); (try clear hb2); (try clear hk); (try clear hi)))
               go_ret
               exact ⟨by first | rfl | (simp [errW_none, errW_some] <;> rfl) | (simp [*, errW_none, errW_some] <;> rfl), by repeat (first | (with_reducible first | exact HB.out | apply below_alloc | apply pw_below_drewN | apply below_drew1 | refine below_set ?_ GE188.out) | exact HB.out)⟩
              ·rw [if_neg c177] at H
               have c177b0 : decide (200 < (wrap64 ((wrap64 ((a2.size : Int) - a0)) + (a1_3.size : Int)))) = false := decide_eq_false c177
               clear c177
               obtain rfl := Option.some.inj H
               have hcz183_0 : wc.cell? ⟨gb188, 0, none⟩ = some (.string a1_0) := (blk_cell BK188.out 0).trans rfl
               have hcz183_1 : wc.cell? ⟨gb188, 1, none⟩ = some (.string a1_1) := (blk_cell BK188.out 1).trans rfl
               have hcz183_2 : wc.cell? ⟨gb188, 2, none⟩ = some (.string a1_2) := (blk_cell BK188.out 2).trans rfl
               have hcz183_3 : wc.cell? ⟨gb188, 3, none⟩ = some (.string a1_3) := (blk_cell BK188.out 3).trans rfl
               have hfz183_0 := blk_frozen BK188.out 0
               have hfz183_1 := blk_frozen BK188.out 1
               have hfz183_2 := blk_frozen BK188.out 2
               have hfz183_3 := blk_frozen BK188.out 3
               go_wp2_with (first | ((with_reducible refine gate_callee (f := 12) rfl ?_); refine goesL_ (some 148) rfl rfl Tryd.func12 (by kernel_rfl) rfl #[.int .i64 a0, .agg #[.string a1_0, .string a1_1, .string a1_2, .string a1_3], .string a2] rfl al_ ?_; (with_reducible refine (tags_Cut.calls a0 a1_0 a1_1 a1_2 a1_3 a2 t204 t205 _ A38.out).mono ?_); rintro e w184 ⟨rfl, hb⟩; refine ⟨_, rfl, ?_⟩; have n0_ := Aside0.mk (bkb_ BK188.out hb); have n1_ := Aside0.mk (below_step (hb_ HB.out) hb); clear BK188; clear HB; have BK188 := n0_; have HB := n1_; clear n0_ n1_; (try clear hb); (try clear hb2); (try clear hk); (try clear hi); have p51 : 0 ≤ (0 : Int) := (by omega); have q51 : 0 < a2.size := (by have : (0 : Int) < (a2.size : Int) := of_decide_eq_true (by first | (with_reducible assumption) | assumption); omega); have hx51 : ∀ h : 0 < a2.size, ((a2[0]'h).toNat : Int) = bt a2 0 := bt_at a2 0; clear p51; have qi51 : (0 < (a2.size : Int)) = True := eq_true (of_decide_eq_true (by first | (with_reducible assumption) | assumption)); replace q51 := eq_true q51; have hcz185_0 : w184.cell? ⟨gb188, 0, none⟩ = some (.string a1_0) := (blk_cell BK188.out 0).trans rfl; have hcz185_1 : w184.cell? ⟨gb188, 1, none⟩ = some (.string a1_1) := (blk_cell BK188.out 1).trans rfl; have hcz185_2 : w184.cell? ⟨gb188, 2, none⟩ = some (.string a1_2) := (blk_cell BK188.out 2).trans rfl; have hcz185_3 : w184.cell? ⟨gb188, 3, none⟩ = some (.string a1_3) := (blk_cell BK188.out 3).trans rfl; have hfz185_0 := blk_frozen BK188.out 0; have hfz185_1 := blk_frozen BK188.out 1; have hfz185_2 := blk_frozen BK188.out 2; have hfz185_3 := blk_frozen BK188.out 3))
               go_ret
               exact ⟨by first | rfl | (simp [errW_none, errW_some] <;> rfl) | (simp [*, errW_none, errW_some] <;> rfl), by repeat (first | (with_reducible first | exact HB.out | apply below_alloc | apply pw_below_drewN | apply below_drew1 | refine below_set ?_ GE188.out) | exact HB.out)⟩
             ·rw [if_neg c176] at H
              have c176b0 : (t205 == 6) = false := beq_eq_false_iff_ne.mpr c176
              have c176b1 : (t205 != 6) = true := bne_iff_ne.mpr c176
              obtain rfl := Option.some.inj H
              have hcz186_0 : wc.cell? ⟨gb188, 0, none⟩ = some (.string a1_0) := (blk_cell BK188.out 0).trans rfl
              have hcz186_1 : wc.cell? ⟨gb188, 1, none⟩ = some (.string a1_1) := (blk_cell BK188.out 1).trans rfl
              have hcz186_2 : wc.cell? ⟨gb188, 2, none⟩ = some (.string a1_2) := (blk_cell BK188.out 2).trans rfl
              have hcz186_3 : wc.cell? ⟨gb188, 3, none⟩ = some (.string a1_3) := (blk_cell BK188.out 3).trans rfl
              have hfz186_0 := blk_frozen BK188.out 0
              have hfz186_1 := blk_frozen BK188.out 1
              have hfz186_2 := blk_frozen BK188.out 2
              have hfz186_3 := blk_frozen BK188.out 3
              go_wp2_with (first | ((with_reducible refine gate_callee (f := 12) rfl ?_); refine goesL_ (some 148) rfl rfl Tryd.func12 (by kernel_rfl) rfl #[.int .i64 a0, .agg #[.string a1_0, .string a1_1, .string a1_2, .string a1_3], .string a2] rfl al_ ?_; (with_reducible refine (tags_Cut.calls a0 a1_0 a1_1 a1_2 a1_3 a2 t204 t205 _ A38.out).mono ?_); rintro e w187 ⟨rfl, hb⟩; refine ⟨_, rfl, ?_⟩; have n0_ := Aside0.mk (bkb_ BK188.out hb); have n1_ := Aside0.mk (below_step (hb_ HB.out) hb); clear BK188; clear HB; have BK188 := n0_; have HB := n1_; clear n0_ n1_; (try clear hb); (try clear hb2); (try clear hk); (try clear hi); have p51 : 0 ≤ (0 : Int) := (by omega); have q51 : 0 < a2.size := (by have : (0 : Int) < (a2.size : Int) := of_decide_eq_true (by first | (with_reducible assumption) | assumption); omega); have hx51 : ∀ h : 0 < a2.size, ((a2[0]'h).toNat : Int) = bt a2 0 := bt_at a2 0; clear p51; have qi51 : (0 < (a2.size : Int)) = True := eq_true (of_decide_eq_true (by first | (with_reducible assumption) | assumption)); replace q51 := eq_true q51; have hcz188_0 : w187.cell? ⟨gb188, 0, none⟩ = some (.string a1_0) := (blk_cell BK188.out 0).trans rfl; have hcz188_1 : w187.cell? ⟨gb188, 1, none⟩ = some (.string a1_1) := (blk_cell BK188.out 1).trans rfl; have hcz188_2 : w187.cell? ⟨gb188, 2, none⟩ = some (.string a1_2) := (blk_cell BK188.out 2).trans rfl; have hcz188_3 : w187.cell? ⟨gb188, 3, none⟩ = some (.string a1_3) := (blk_cell BK188.out 3).trans rfl; have hfz188_0 := blk_frozen BK188.out 0; have hfz188_1 := blk_frozen BK188.out 1; have hfz188_2 := blk_frozen BK188.out 2; have hfz188_3 := blk_frozen BK188.out 3))
              go_ret
              exact ⟨by first | rfl | (simp [errW_none, errW_some] <;> rfl) | (simp [*, errW_none, errW_some] <;> rfl), by repeat (first | (with_reducible first | exact HB.out | apply below_alloc | apply pw_below_drewN | apply below_drew1 | refine below_set ?_ GE188.out) | exact HB.out)⟩
           ·rw [if_neg c155] at H
            exact absurd H (by simp)
       ·rw [if_neg c50] at H
        exact absurd H (by simp)
  ·rw [if_neg c10] at H
   have c10b0 : (t196 == 0) = false := beq_eq_false_iff_ne.mpr c10
   have c10b1 : (t196 != 0) = true := bne_iff_ne.mpr c10
   by_cases c189 : t196 = 6
   ·rw [if_pos c189] at H
    have c189b0 : (t196 == 6) = true := beq_iff_eq.mpr c189
    have c189b1 : (t196 != 6) = false := bne_eq_false_iff_eq.mpr c189
    clear c189
    by_cases c190 : t199 = t196
    ·rw [if_pos c190] at H
     have c190b0 : (t199 == t196) = true := beq_iff_eq.mpr c190
     have c190b1 : (t199 != t196) = false := bne_eq_false_iff_eq.mpr c190
     clear c190
     replace H := Option.bind_eq_some_iff.mp H
     obtain ⟨t200, A1910, H⟩ := H
     replace H : (some t200) = some r := H
     have A191 := Aside0.mk A1910
     clear A1910
     obtain rfl := Option.some.inj H
     go_enter Tryd.func5, Tryd.ntmps5
     go_wp2_with (first | ((with_reducible refine gate_dst (N := 6) rfl ?_); (try (refine gate_guard (by rfl) ?_; dsimp only)); refine box_event ?hg (N := 6) ?hd (cs := #[.string a1_0, .string a1_1, .string a1_2, .string a1_3]) (t := 22) ?hr ?_; (case hd => rfl); (case hg => rfl); (case hr => first | (go_simp; done) | (go_simp; rfl)); intro gb188 hg w192 hbox hb; have n0_ := Aside0.mk (below_step (hb_ HB.out) hb); have n1_ := Aside0.mk (hbox); have n2_ := Aside0.mk ((by rw [hg]; exact (below_size (hb_ HB.out)) : w.heap.size ≤ gb188)); have n3_ := Aside0.mk ((by rw [hg]; exact (below_size (hb_ HB.out)) : w.heap.size ≤ gb188)); clear HB; have HB := n0_; have BK188 := n1_; have GW188 := n2_; have GE188 := n3_; clear n0_ n1_ n2_ n3_; clear hb hbox hg; have hcz193_0 : w192.cell? ⟨gb188, 0, none⟩ = some (.string a1_0) := (blk_cell BK188.out 0).trans rfl; have hcz193_1 : w192.cell? ⟨gb188, 1, none⟩ = some (.string a1_1) := (blk_cell BK188.out 1).trans rfl; have hcz193_2 : w192.cell? ⟨gb188, 2, none⟩ = some (.string a1_2) := (blk_cell BK188.out 2).trans rfl; have hcz193_3 : w192.cell? ⟨gb188, 3, none⟩ = some (.string a1_3) := (blk_cell BK188.out 3).trans rfl; have hfz193_0 := blk_frozen BK188.out 0; have hfz193_1 := blk_frozen BK188.out 1; have hfz193_2 := blk_frozen BK188.out 2; have hfz193_3 := blk_frozen BK188.out 3) | ((with_reducible refine gate_callee (f := 9) rfl ?_); refine goesL_ (some 28) rfl rfl Tryd.func9 (by kernel_rfl) rfl #[.int .i64 a0, .agg #[.string a1_0, .string a1_1, .string a1_2, .string a1_3], .string a2] rfl al_ ?_; (with_reducible refine (comfitref06_Cutter.calls a0 a1_0 a1_1 a1_2 a1_3 a2 true _ A6.out).mono ?_); rintro e w194 ⟨rfl, hb⟩; refine ⟨_, rfl, ?_⟩; have n0_ := Aside0.mk (bkb_ BK188.out hb); have n1_ := Aside0.mk (below_step (hb_ HB.out) hb); clear BK188; clear HB; have BK188 := n0_; have HB := n1_; clear n0_ n1_; (try clear hb); (try clear hb2); (try clear hk); (try clear hi); have hcz195_0 : w194.cell? ⟨gb188, 0, none⟩ = some (.string a1_0) := (blk_cell BK188.out 0).trans rfl; have hcz195_1 : w194.cell? ⟨gb188, 1, none⟩ = some (.string a1_1) := (blk_cell BK188.out 1).trans rfl; have hcz195_2 : w194.cell? ⟨gb188, 2, none⟩ = some (.string a1_2) := (blk_cell BK188.out 2).trans rfl; have hcz195_3 : w194.cell? ⟨gb188, 3, none⟩ = some (.string a1_3) := (blk_cell BK188.out 3).trans rfl; have hfz195_0 := blk_frozen BK188.out 0; have hfz195_1 := blk_frozen BK188.out 1; have hfz195_2 := blk_frozen BK188.out 2; have hfz195_3 := blk_frozen BK188.out 3) | ((with_reducible refine gate_callee (f := 13) rfl ?_); refine goesL_ (some 56) rfl rfl Tryd.func13 (by kernel_rfl) rfl #[.int .i64 a0, .agg #[.string a1_0, .string a1_1, .string a1_2, .string a1_3], .string a2, .int .i64 (wrap64 (Int.tmod (IntKind.u64.wrap (a3)) 500))] rfl al_ ?_; (with_reducible refine (tags_Run.calls a0 a1_0 a1_1 a1_2 a1_3 a2 (wrap64 (Int.tmod (IntKind.u64.wrap (a3)) 500)) t194 t195 t196 _ A8.out).mono ?_); rintro e w196 ⟨rfl, hb⟩; refine ⟨_, rfl, ?_⟩; have n0_ := Aside0.mk (bkb_ BK188.out hb); have n1_ := Aside0.mk (below_step (hb_ HB.out) hb); clear BK188; clear HB; have BK188 := n0_; have HB := n1_; clear n0_ n1_; (try clear hb); (try clear hb2); (try clear hk); (try clear hi); have hcz197_0 : w196.cell? ⟨gb188, 0, none⟩ = some (.string a1_0) := (blk_cell BK188.out 0).trans rfl; have hcz197_1 : w196.cell? ⟨gb188, 1, none⟩ = some (.string a1_1) := (blk_cell BK188.out 1).trans rfl; have hcz197_2 : w196.cell? ⟨gb188, 2, none⟩ = some (.string a1_2) := (blk_cell BK188.out 2).trans rfl; have hcz197_3 : w196.cell? ⟨gb188, 3, none⟩ = some (.string a1_3) := (blk_cell BK188.out 3).trans rfl; have hfz197_0 := blk_frozen BK188.out 0; have hfz197_1 := blk_frozen BK188.out 1; have hfz197_2 := blk_frozen BK188.out 2; have hfz197_3 := blk_frozen BK188.out 3) | ((with_reducible refine gate_callee (f := 13) rfl ?_); refine goesL_ (some 67) rfl rfl Tryd.func13 (by kernel_rfl) rfl #[.int .i64 a0, .agg #[.string a1_0, .string a1_1, .string a1_2, .string a1_3], .string a2, .int .i64 (wrap64 ((wrap64 (Int.tmod (IntKind.u64.wrap (a3)) 500)) + (wrap64 (Int.tmod (IntKind.u64.wrap (a4)) 500))))] rfl al_ ?_; (with_reducible refine (tags_Run.calls a0 a1_0 a1_1 a1_2 a1_3 a2 (wrap64 ((wrap64 (Int.tmod (IntKind.u64.wrap (a3)) 500)) + (wrap64 (Int.tmod (IntKind.u64.wrap (a4)) 500)))) t197 t198 t199 _ A9.out).mono ?_); rintro e w198 ⟨rfl, hb⟩; refine ⟨_, rfl, ?_⟩; have n0_ := Aside0.mk (bkb_ BK188.out hb); have n1_ := Aside0.mk (below_step (hb_ HB.out) hb); clear BK188; clear HB; have BK188 := n0_; have HB := n1_; clear n0_ n1_; (try clear hb); (try clear hb2); (try clear hk); (try clear hi)) | (go_at_call 10; (with_reducible refine (comfitlaw06_awake.calls k  t200 _ A191.out).mono ?_); rintro e w199 ⟨rfl, hb⟩; have n0_ := Aside0.mk (bkb_ BK188.out hb); have n1_ := Aside0.mk (below_step (hb_ HB.out) hb); clear BK188; clear HB; have BK188 := n0_; have HB := n1_; clear n0_ n1_; (try clear hb); (try clear hb2); (try clear hk); (try clear hi)))
     go_ret
     exact ⟨by first | rfl | (simp [errW_none, errW_some] <;> rfl) | (simp [*, errW_none, errW_some] <;> rfl), by repeat (first | (with_reducible first | exact HB.out | apply below_alloc | apply pw_below_drewN | apply below_drew1 | refine below_set ?_ GE188.out) | exact HB.out)⟩
    ·rw [if_neg c190] at H
     have c190b0 : (t199 == t196) = false := beq_eq_false_iff_ne.mpr c190
     have c190b1 : (t199 != t196) = true := bne_iff_ne.mpr c190
     obtain rfl := Option.some.inj H
     go_enter Tryd.func5, Tryd.ntmps5
     go_wp2_with (first | ((with_reducible refine gate_dst (N := 6) rfl ?_); (try (refine gate_guard (by rfl) ?_; dsimp only)); refine box_event ?hg (N := 6) ?hd (cs := #[.string a1_0, .string a1_1, .string a1_2, .string a1_3]) (t := 22) ?hr ?_; (case hd => rfl); (case hg => rfl); (case hr => first | (go_simp; done) | (go_simp; rfl)); intro gb188 hg w200 hbox hb; have n0_ := Aside0.mk (below_step (hb_ HB.out) hb); have n1_ := Aside0.mk (hbox); have n2_ := Aside0.mk ((by rw [hg]; exact (below_size (hb_ HB.out)) : w.heap.size ≤ gb188)); have n3_ := Aside0.mk ((by rw [hg]; exact (below_size (hb_ HB.out)) : w.heap.size ≤ gb188)); clear HB; have HB := n0_; have BK188 := n1_; have GW188 := n2_; have GE188 := n3_; clear n0_ n1_ n2_ n3_; clear hb hbox hg; have hcz201_0 : w200.cell? ⟨gb188, 0, none⟩ = some (.string a1_0) := (blk_cell BK188.out 0).trans rfl; have hcz201_1 : w200.cell? ⟨gb188, 1, none⟩ = some (.string a1_1) := (blk_cell BK188.out 1).trans rfl; have hcz201_2 : w200.cell? ⟨gb188, 2, none⟩ = some (.string a1_2) := (blk_cell BK188.out 2).trans rfl; have hcz201_3 : w200.cell? ⟨gb188, 3, none⟩ = some (.string a1_3) := (blk_cell BK188.out 3).trans rfl; have hfz201_0 := blk_frozen BK188.out 0; have hfz201_1 := blk_frozen BK188.out 1; have hfz201_2 := blk_frozen BK188.out 2; have hfz201_3 := blk_frozen BK188.out 3) | ((with_reducible refine gate_callee (f := 9) rfl ?_); refine goesL_ (some 28) rfl rfl Tryd.func9 (by kernel_rfl) rfl #[.int .i64 a0, .agg #[.string a1_0, .string a1_1, .string a1_2, .string a1_3], .string a2] rfl al_ ?_; (with_reducible refine (comfitref06_Cutter.calls a0 a1_0 a1_1 a1_2 a1_3 a2 true _ A6.out).mono ?_); rintro e w202 ⟨rfl, hb⟩; refine ⟨_, rfl, ?_⟩; have n0_ := Aside0.mk (bkb_ BK188.out hb); have n1_ := Aside0.mk (below_step (hb_ HB.out) hb); clear BK188; clear HB; have BK188 := n0_; have HB := n1_; clear n0_ n1_; (try clear hb); (try clear hb2); (try clear hk); (try clear hi); have hcz203_0 : w202.cell? ⟨gb188, 0, none⟩ = some (.string a1_0) := (blk_cell BK188.out 0).trans rfl; have hcz203_1 : w202.cell? ⟨gb188, 1, none⟩ = some (.string a1_1) := (blk_cell BK188.out 1).trans rfl; have hcz203_2 : w202.cell? ⟨gb188, 2, none⟩ = some (.string a1_2) := (blk_cell BK188.out 2).trans rfl; have hcz203_3 : w202.cell? ⟨gb188, 3, none⟩ = some (.string a1_3) := (blk_cell BK188.out 3).trans rfl; have hfz203_0 := blk_frozen BK188.out 0; have hfz203_1 := blk_frozen BK188.out 1; have hfz203_2 := blk_frozen BK188.out 2; have hfz203_3 := blk_frozen BK188.out 3) | ((with_reducible refine gate_callee (f := 13) rfl ?_); refine goesL_ (some 56) rfl rfl Tryd.func13 (by kernel_rfl) rfl #[.int .i64 a0, .agg #[.string a1_0, .string a1_1, .string a1_2, .string a1_3], .string a2, .int .i64 (wrap64 (Int.tmod (IntKind.u64.wrap (a3)) 500))] rfl al_ ?_; (with_reducible refine (tags_Run.calls a0 a1_0 a1_1 a1_2 a1_3 a2 (wrap64 (Int.tmod (IntKind.u64.wrap (a3)) 500)) t194 t195 t196 _ A8.out).mono ?_); rintro e w204 ⟨rfl, hb⟩; refine ⟨_, rfl, ?_⟩; have n0_ := Aside0.mk (bkb_ BK188.out hb); have n1_ := Aside0.mk (below_step (hb_ HB.out) hb); clear BK188; clear HB; have BK188 := n0_; have HB := n1_; clear n0_ n1_; (try clear hb); (try clear hb2); (try clear hk); (try clear hi); have hcz205_0 : w204.cell? ⟨gb188, 0, none⟩ = some (.string a1_0) := (blk_cell BK188.out 0).trans rfl; have hcz205_1 : w204.cell? ⟨gb188, 1, none⟩ = some (.string a1_1) := (blk_cell BK188.out 1).trans rfl; have hcz205_2 : w204.cell? ⟨gb188, 2, none⟩ = some (.string a1_2) := (blk_cell BK188.out 2).trans rfl; have hcz205_3 : w204.cell? ⟨gb188, 3, none⟩ = some (.string a1_3) := (blk_cell BK188.out 3).trans rfl; have hfz205_0 := blk_frozen BK188.out 0; have hfz205_1 := blk_frozen BK188.out 1; have hfz205_2 := blk_frozen BK188.out 2; have hfz205_3 := blk_frozen BK188.out 3) | ((with_reducible refine gate_callee (f := 13) rfl ?_); refine goesL_ (some 67) rfl rfl Tryd.func13 (by kernel_rfl) rfl #[.int .i64 a0, .agg #[.string a1_0, .string a1_1, .string a1_2, .string a1_3], .string a2, .int .i64 (wrap64 ((wrap64 (Int.tmod (IntKind.u64.wrap (a3)) 500)) + (wrap64 (Int.tmod (IntKind.u64.wrap (a4)) 500))))] rfl al_ ?_; (with_reducible refine (tags_Run.calls a0 a1_0 a1_1 a1_2 a1_3 a2 (wrap64 ((wrap64 (Int.tmod (IntKind.u64.wrap (a3)) 500)) + (wrap64 (Int.tmod (IntKind.u64.wrap (a4)) 500)))) t197 t198 t199 _ A9.out).mono ?_); rintro e w206 ⟨rfl, hb⟩; refine ⟨_, rfl, ?_⟩; have n0_ := Aside0.mk (bkb_ BK188.out hb); have n1_ := Aside0.mk (below_step (hb_ HB.out) hb); clear BK188; clear HB; have BK188 := n0_; have HB := n1_; clear n0_ n1_; (try clear hb); (try clear hb2); (try clear hk); (try clear hi)))
     go_ret
     exact ⟨by first | rfl | (simp [errW_none, errW_some] <;> rfl) | (simp [*, errW_none, errW_some] <;> rfl), by repeat (first | (with_reducible first | exact HB.out | apply below_alloc | apply pw_below_drewN | apply below_drew1 | refine below_set ?_ GE188.out) | exact HB.out)⟩
   ·rw [if_neg c189] at H
    have c189b0 : (t196 == 6) = false := beq_eq_false_iff_ne.mpr c189
    have c189b1 : (t196 != 6) = true := bne_iff_ne.mpr c189
    obtain rfl := Option.some.inj H
    go_enter Tryd.func5, Tryd.ntmps5
    go_wp2_with (first | ((with_reducible refine gate_dst (N := 6) rfl ?_); (try (refine gate_guard (by rfl) ?_; dsimp only)); refine box_event ?hg (N := 6) ?hd (cs := #[.string a1_0, .string a1_1, .string a1_2, .string a1_3]) (t := 22) ?hr ?_; (case hd => rfl); (case hg => rfl); (case hr => first | (go_simp; done) | (go_simp; rfl)); intro gb188 hg w207 hbox hb; have n0_ := Aside0.mk (below_step (hb_ HB.out) hb); have n1_ := Aside0.mk (hbox); have n2_ := Aside0.mk ((by rw [hg]; exact (below_size (hb_ HB.out)) : w.heap.size ≤ gb188)); have n3_ := Aside0.mk ((by rw [hg]; exact (below_size (hb_ HB.out)) : w.heap.size ≤ gb188)); clear HB; have HB := n0_; have BK188 := n1_; have GW188 := n2_; have GE188 := n3_; clear n0_ n1_ n2_ n3_; clear hb hbox hg; have hcz208_0 : w207.cell? ⟨gb188, 0, none⟩ = some (.string a1_0) := (blk_cell BK188.out 0).trans rfl; have hcz208_1 : w207.cell? ⟨gb188, 1, none⟩ = some (.string a1_1) := (blk_cell BK188.out 1).trans rfl; have hcz208_2 : w207.cell? ⟨gb188, 2, none⟩ = some (.string a1_2) := (blk_cell BK188.out 2).trans rfl; have hcz208_3 : w207.cell? ⟨gb188, 3, none⟩ = some (.string a1_3) := (blk_cell BK188.out 3).trans rfl; have hfz208_0 := blk_frozen BK188.out 0; have hfz208_1 := blk_frozen BK188.out 1; have hfz208_2 := blk_frozen BK188.out 2; have hfz208_3 := blk_frozen BK188.out 3) | ((with_reducible refine gate_callee (f := 9) rfl ?_); refine goesL_ (some 28) rfl rfl Tryd.func9 (by kernel_rfl) rfl #[.int .i64 a0, .agg #[.string a1_0, .string a1_1, .string a1_2, .string a1_3], .string a2] rfl al_ ?_; (with_reducible refine (comfitref06_Cutter.calls a0 a1_0 a1_1 a1_2 a1_3 a2 true _ A6.out).mono ?_); rintro e w209 ⟨rfl, hb⟩; refine ⟨_, rfl, ?_⟩; have n0_ := Aside0.mk (bkb_ BK188.out hb); have n1_ := Aside0.mk (below_step (hb_ HB.out) hb); clear BK188; clear HB; have BK188 := n0_; have HB := n1_; clear n0_ n1_; (try clear hb); (try clear hb2); (try clear hk); (try clear hi); have hcz210_0 : w209.cell? ⟨gb188, 0, none⟩ = some (.string a1_0) := (blk_cell BK188.out 0).trans rfl; have hcz210_1 : w209.cell? ⟨gb188, 1, none⟩ = some (.string a1_1) := (blk_cell BK188.out 1).trans rfl; have hcz210_2 : w209.cell? ⟨gb188, 2, none⟩ = some (.string a1_2) := (blk_cell BK188.out 2).trans rfl; have hcz210_3 : w209.cell? ⟨gb188, 3, none⟩ = some (.string a1_3) := (blk_cell BK188.out 3).trans rfl; have hfz210_0 := blk_frozen BK188.out 0; have hfz210_1 := blk_frozen BK188.out 1; have hfz210_2 := blk_frozen BK188.out 2; have hfz210_3 := blk_frozen BK188.out 3) | ((with_reducible refine gate_callee (f := 13) rfl ?_); refine goesL_ (some 56) rfl rfl Tryd.func13 (by kernel_rfl) rfl #[.int .i64 a0, .agg #[.string a1_0, .string a1_1, .string a1_2, .string a1_3], .string a2, .int .i64 (wrap64 (Int.tmod (IntKind.u64.wrap (a3)) 500))] rfl al_ ?_; (with_reducible refine (tags_Run.calls a0 a1_0 a1_1 a1_2 a1_3 a2 (wrap64 (Int.tmod (IntKind.u64.wrap (a3)) 500)) t194 t195 t196 _ A8.out).mono ?_); rintro e w211 ⟨rfl, hb⟩; refine ⟨_, rfl, ?_⟩; have n0_ := Aside0.mk (bkb_ BK188.out hb); have n1_ := Aside0.mk (below_step (hb_ HB.out) hb); clear BK188; clear HB; have BK188 := n0_; have HB := n1_; clear n0_ n1_; (try clear hb); (try clear hb2); (try clear hk); (try clear hi); have hcz212_0 : w211.cell? ⟨gb188, 0, none⟩ = some (.string a1_0) := (blk_cell BK188.out 0).trans rfl; have hcz212_1 : w211.cell? ⟨gb188, 1, none⟩ = some (.string a1_1) := (blk_cell BK188.out 1).trans rfl; have hcz212_2 : w211.cell? ⟨gb188, 2, none⟩ = some (.string a1_2) := (blk_cell BK188.out 2).trans rfl; have hcz212_3 : w211.cell? ⟨gb188, 3, none⟩ = some (.string a1_3) := (blk_cell BK188.out 3).trans rfl; have hfz212_0 := blk_frozen BK188.out 0; have hfz212_1 := blk_frozen BK188.out 1; have hfz212_2 := blk_frozen BK188.out 2; have hfz212_3 := blk_frozen BK188.out 3) | ((with_reducible refine gate_callee (f := 13) rfl ?_); refine goesL_ (some 67) rfl rfl Tryd.func13 (by kernel_rfl) rfl #[.int .i64 a0, .agg #[.string a1_0, .string a1_1, .string a1_2, .string a1_3], .string a2, .int .i64 (wrap64 ((wrap64 (Int.tmod (IntKind.u64.wrap (a3)) 500)) + (wrap64 (Int.tmod (IntKind.u64.wrap (a4)) 500))))] rfl al_ ?_; (with_reducible refine (tags_Run.calls a0 a1_0 a1_1 a1_2 a1_3 a2 (wrap64 ((wrap64 (Int.tmod (IntKind.u64.wrap (a3)) 500)) + (wrap64 (Int.tmod (IntKind.u64.wrap (a4)) 500)))) t197 t198 t199 _ A9.out).mono ?_); rintro e w213 ⟨rfl, hb⟩; refine ⟨_, rfl, ?_⟩; have n0_ := Aside0.mk (bkb_ BK188.out hb); have n1_ := Aside0.mk (below_step (hb_ HB.out) hb); clear BK188; clear HB; have BK188 := n0_; have HB := n1_; clear n0_ n1_; (try clear hb); (try clear hb2); (try clear hk); (try clear hi)))
    go_ret
    exact ⟨by first | rfl | (simp [errW_none, errW_some] <;> rfl) | (simp [*, errW_none, errW_some] <;> rfl), by repeat (first | (with_reducible first | exact HB.out | apply below_alloc | apply pw_below_drewN | apply below_drew1 | refine below_set ?_ GE188.out) | exact HB.out)⟩
 ·replace c7 := Bool.eq_false_iff.mpr c7
  subst c7
  have H1 : ((comfitlaw06_text.f a2).bind fun t190 => ((tags_Cut.f a0 a1_0 a1_1 a1_2 a1_3 t190).bind fun bt191 => (if bt191.2 = 2 then ((comfitlaw06_awake.f k).bind fun t193 => (some t193)) else (some false)))) = some r := by rw [if_neg (show ¬ (false = true) by decide)] at H; exact H
  clear H
  have H := H1
  clear H1
  replace H := Option.bind_eq_some_iff.mp H
  obtain ⟨t190, A2140, H⟩ := H
  replace H : ((tags_Cut.f a0 a1_0 a1_1 a1_2 a1_3 t190).bind fun bt191 => (if bt191.2 = 2 then ((comfitlaw06_awake.f k).bind fun t193 => (some t193)) else (some false))) = some r := H
  have A214 := Aside0.mk A2140
  clear A2140
  replace H := Option.bind_eq_some_iff.mp H
  obtain ⟨⟨t191, t192⟩, A2150, H⟩ := H
  replace H : (if t192 = 2 then ((comfitlaw06_awake.f k).bind fun t193 => (some t193)) else (some false)) = some r := H
  have A215 := Aside0.mk A2150
  clear A2150
  by_cases c216 : t192 = 2
  ·rw [if_pos c216] at H
   have c216b0 : (t192 == 2) = true := beq_iff_eq.mpr c216
   have c216b1 : (t192 != 2) = false := bne_eq_false_iff_eq.mpr c216
   clear c216
   replace H := Option.bind_eq_some_iff.mp H
   obtain ⟨t193, A2170, H⟩ := H
   replace H : (some t193) = some r := H
   have A217 := Aside0.mk A2170
   clear A2170
   obtain rfl := Option.some.inj H
   go_enter Tryd.func5, Tryd.ntmps5
   try go_wp2_with (first | ((with_reducible refine gate_dst (N := 6) rfl ?_); (try (refine gate_guard (by rfl) ?_; dsimp only)); refine box_event ?hg (N := 6) ?hd (cs := #[.string a1_0, .string a1_1, .string a1_2, .string a1_3]) (t := 22) ?hr ?_; (case hd => rfl); (case hg => rfl); (case hr => first | (go_simp; done) | (go_simp; rfl)); intro gb188 hg w218 hbox hb; have n0_ := Aside0.mk (below_step (hb_ HB.out) hb); have n1_ := Aside0.mk (hbox); have n2_ := Aside0.mk ((by rw [hg]; exact (below_size (hb_ HB.out)) : w.heap.size ≤ gb188)); have n3_ := Aside0.mk ((by rw [hg]; exact (below_size (hb_ HB.out)) : w.heap.size ≤ gb188)); clear HB; have HB := n0_; have BK188 := n1_; have GW188 := n2_; have GE188 := n3_; clear n0_ n1_ n2_ n3_; clear hb hbox hg; have hcz219_0 : w218.cell? ⟨gb188, 0, none⟩ = some (.string a1_0) := (blk_cell BK188.out 0).trans rfl; have hcz219_1 : w218.cell? ⟨gb188, 1, none⟩ = some (.string a1_1) := (blk_cell BK188.out 1).trans rfl; have hcz219_2 : w218.cell? ⟨gb188, 2, none⟩ = some (.string a1_2) := (blk_cell BK188.out 2).trans rfl; have hcz219_3 : w218.cell? ⟨gb188, 3, none⟩ = some (.string a1_3) := (blk_cell BK188.out 3).trans rfl; have hfz219_0 := blk_frozen BK188.out 0; have hfz219_1 := blk_frozen BK188.out 1; have hfz219_2 := blk_frozen BK188.out 2; have hfz219_3 := blk_frozen BK188.out 3) | ((with_reducible refine gate_callee (f := 9) rfl ?_); refine goesL_ (some 28) rfl rfl Tryd.func9 (by kernel_rfl) rfl #[.int .i64 a0, .agg #[.string a1_0, .string a1_1, .string a1_2, .string a1_3], .string a2] rfl al_ ?_; (with_reducible refine (comfitref06_Cutter.calls a0 a1_0 a1_1 a1_2 a1_3 a2 false _ A6.out).mono ?_); rintro e w220 ⟨rfl, hb⟩; refine ⟨_, rfl, ?_⟩; have n0_ := Aside0.mk (bkb_ BK188.out hb); have n1_ := Aside0.mk (below_step (hb_ HB.out) hb); clear BK188; clear HB; have BK188 := n0_; have HB := n1_; clear n0_ n1_; (try clear hb); (try clear hb2); (try clear hk); (try clear hi)))
   have n0_ := Aside0.mk (blk_drew BK188.out)
   have n1_ := Aside0.mk (below_drew1 HB.out)
   clear BK188
   clear HB
   have BK188 := n0_
   have HB := n1_
   clear n0_ n1_
   refine start_ (n := 10) (S := fun w' => w'.cell? ⟨gb188, 0, none⟩ = some (.string a1_0) ∧ w'.cell? ⟨gb188, 1, none⟩ = some (.string a1_1) ∧ w'.cell? ⟨gb188, 2, none⟩ = some (.string a1_2) ∧ w'.cell? ⟨gb188, 3, none⟩ = some (.string a1_3)) (ds := []) #[false, false, false, false, false, false, false, false, false, false] (by kernel_rfl) rfl rfl ⟨(blk_cell BK188.out 0).trans rfl, (blk_cell BK188.out 1).trans rfl, (blk_cell BK188.out 2).trans rfl, (blk_cell BK188.out 3).trans rfl⟩ (fun hHeld => ?_); refine with_tabW comfitlaw06_TagsParts.tab2 comfitlaw06_TagsParts.bits2 (fun HT_ HW_ => ?_)
   generalize w220.drew = w221 at BK188 HB hHeld ⊢
   refine pure_ (i := 0) (N := some 31) (v := ?_) (a' := ?_) #[true, false, false, false, false, false, false, false, false, false] rfl rfl (any_of HT_.out (by kernel_rfl)) (fun _ _ _ h => h) (Or.inl ⟨by rfl, ?_⟩) ?_ ?_
   rotate_left
   ·intro w'
    go_simp
    with_reducible rfl
   rotate_left
   ·simp only [Act.put, List.setIfInBounds_toArray, List.set_cons_zero, List.set_cons_succ, i64_w, i32_w]
    rfl
   refine pure_ (i := 2) (N := some 33) (v := ?_) (a' := ?_) #[true, false, true, false, false, false, false, false, false, false] rfl rfl (any_of HT_.out (by kernel_rfl)) (fun _ _ _ h => h) (Or.inl ⟨by rfl, ?_⟩) ?_ ?_
   rotate_left
   ·intro w'
    go_simp
    with_reducible rfl
   rotate_left
   ·simp only [Act.put, List.setIfInBounds_toArray, List.set_cons_zero, List.set_cons_succ, i64_w, i32_w]
    rfl
   refine take_ (i := 1) (N := some 32) (v := ?_) (a' := ?_) #[true, true, true, false, false, false, false, false, false, false] rfl rfl (take_ofW HT_.out HW_.out (by kernel_rfl)) (fun _ _ _ h => h) (Or.inl ⟨by rfl, ?_⟩) hHeld ?_ ?_
   rotate_left
   ·rintro w' ⟨s0, s1, s2, s3⟩
    go_simp
    with_reducible rfl
   rotate_left
   ·simp only [Act.put, List.setIfInBounds_toArray, List.set_cons_zero, List.set_cons_succ, i64_w, i32_w]
    rfl
   refine one_ (i := 3) (N := some 34) #[true, true, true, true, false, false, false, false, false, false] rfl rfl (one_of HT_.out (by kernel_rfl)) (by decide) (fun K hK => ?_)
   refine goes_ Tryd.func8 (by kernel_rfl) rfl #[.string a2] (by rfl) rfl rfl al_ ?_
   with_reducible refine (comfitlaw06_text.calls a2 t190 _ A214.out).mono ?_
   rintro e w222 ⟨rfl, hb⟩
   refine ⟨_, rfl, ?_⟩
   have n0_ := Aside0.mk (bkb_ BK188.out hb)
   have n1_ := Aside0.mk (below_step (hb_ HB.out) hb)
   clear BK188
   clear HB
   have BK188 := n0_
   have HB := n1_
   clear n0_ n1_
   (try clear hb)
   (try clear hb2)
   (try clear hk)
   (try clear hi)
   refine hK.out _ _ ⟨(blk_cell BK188.out 0).trans rfl, (blk_cell BK188.out 1).trans rfl, (blk_cell BK188.out 2).trans rfl, (blk_cell BK188.out 3).trans rfl⟩ (fun hHeld => ?_)
   clear hK K
   refine norm_ (a' := ?_) ?_ ?_
   rotate_left
   ·show Act.put _ (some 34) _ = _
    simp only [Act.put, List.setIfInBounds_toArray, List.set_cons_zero, List.set_cons_succ, i64_w, i32_w]
    rfl
   refine one_ (i := 4) (N := some 35) #[true, true, true, true, true, false, false, false, false, false] rfl rfl (one_of HT_.out (by kernel_rfl)) (by decide) (fun K hK => ?_)
   refine goes_ Tryd.func12 (by kernel_rfl) rfl #[.int .i64 a0, .agg #[.string a1_0, .string a1_1, .string a1_2, .string a1_3], .string t190] (by rfl) rfl rfl al_ ?_
   with_reducible refine (tags_Cut.calls a0 a1_0 a1_1 a1_2 a1_3 t190 t191 t192 _ A215.out).mono ?_
   rintro e w223 ⟨rfl, hb⟩
   refine ⟨_, rfl, ?_⟩
   have n0_ := Aside0.mk (bkb_ BK188.out hb)
   have n1_ := Aside0.mk (below_step (hb_ HB.out) hb)
   clear BK188
   clear HB
   have BK188 := n0_
   have HB := n1_
   clear n0_ n1_
   (try clear hb)
   (try clear hb2)
   (try clear hk)
   (try clear hi)
   refine hK.out _ _ ⟨(blk_cell BK188.out 0).trans rfl, (blk_cell BK188.out 1).trans rfl, (blk_cell BK188.out 2).trans rfl, (blk_cell BK188.out 3).trans rfl⟩ (fun hHeld => ?_)
   clear hK K
   refine norm_ (a' := ?_) ?_ ?_
   rotate_left
   ·show Act.put _ (some 35) _ = _
    simp only [Act.put, List.setIfInBounds_toArray, List.set_cons_zero, List.set_cons_succ, i64_w, i32_w]
    rfl
   refine pure_ (i := 5) (N := some 30) (v := ?_) (a' := ?_) #[true, true, true, true, true, true, false, false, false, false] rfl rfl (any_of HT_.out (by kernel_rfl)) (fun _ _ _ h => h) (Or.inl ⟨by rfl, ?_⟩) ?_ ?_
   rotate_left
   ·intro w'
    go_simp
    with_reducible rfl
   rotate_left
   ·simp only [Act.put, List.setIfInBounds_toArray, List.set_cons_zero, List.set_cons_succ, i64_w, i32_w]
    rfl
   refine pure_ (i := 6) (N := some 36) (v := ?_) (a' := ?_) #[true, true, true, true, true, true, true, false, false, false] rfl rfl (any_of HT_.out (by kernel_rfl)) (fun _ _ _ h => h) (Or.inl ⟨by rfl, ?_⟩) ?_ ?_
   rotate_left
   ·intro w'
    go_simp
    with_reducible rfl
   rotate_left
   ·simp only [Act.put, List.setIfInBounds_toArray, List.set_cons_zero, List.set_cons_succ, i64_w, i32_w]
    rfl
   refine pure_ (i := 7) (N := some 37) (v := ?_) (a' := ?_) #[true, true, true, true, true, true, true, true, false, false] rfl rfl (any_of HT_.out (by kernel_rfl)) (fun _ _ _ h => h) (Or.inl ⟨by rfl, ?_⟩) ?_ ?_
   rotate_left
   ·intro w'
    go_simp
    with_reducible rfl
   rotate_left
   ·simp only [Act.put, List.setIfInBounds_toArray, List.set_cons_zero, List.set_cons_succ, i64_w, i32_w]
    rfl
   refine pure_ (i := 8) (N := some 11) (v := ?_) (a' := ?_) #[true, true, true, true, true, true, true, true, true, false] rfl rfl (any_of HT_.out (by kernel_rfl)) (fun _ _ _ h => h) (Or.inl ⟨by rfl, ?_⟩) ?_ ?_
   rotate_left
   ·intro w'
    go_simp
    with_reducible rfl
   rotate_left
   ·simp only [Act.put, List.setIfInBounds_toArray, List.set_cons_zero, List.set_cons_succ, i64_w, i32_w]
    rfl
   refine pure_ (i := 9) (N := some 12) (v := ?_) (a' := ?_) #[true, true, true, true, true, true, true, true, true, true] rfl rfl (any_of HT_.out (by kernel_rfl)) (fun _ _ _ h => h) (Or.inl ⟨by rfl, ?_⟩) ?_ ?_
   rotate_left
   ·intro w'
    go_simp
    with_reducible rfl
   rotate_left
   ·simp only [Act.put, List.setIfInBounds_toArray, List.set_cons_zero, List.set_cons_succ, i64_w, i32_w]
    rfl
   refine done_ (done_of HT_.out (by kernel_rfl)) ?_
   try go_wp2_with (first | (go_at_call 10; (with_reducible refine (comfitlaw06_awake.calls k  t193 _ A217.out).mono ?_); rintro e w224 ⟨rfl, hb⟩; have n0_ := Aside0.mk (bkb_ BK188.out hb); have n1_ := Aside0.mk (below_step (hb_ HB.out) hb); clear BK188; clear HB; have BK188 := n0_; have HB := n1_; clear n0_ n1_; (try clear hb); (try clear hb2); (try clear hk); (try clear hi)))
   go_ret
   exact ⟨by first | rfl | (simp [errW_none, errW_some] <;> rfl) | (simp [*, errW_none, errW_some] <;> rfl), by repeat (first | (with_reducible first | exact HB.out | apply below_alloc | apply pw_below_drewN | apply below_drew1 | refine below_set ?_ GE188.out) | exact HB.out)⟩
  ·rw [if_neg c216] at H
   have c216b0 : (t192 == 2) = false := beq_eq_false_iff_ne.mpr c216
   have c216b1 : (t192 != 2) = true := bne_iff_ne.mpr c216
   obtain rfl := Option.some.inj H
   go_enter Tryd.func5, Tryd.ntmps5
   try go_wp2_with (first | ((with_reducible refine gate_dst (N := 6) rfl ?_); (try (refine gate_guard (by rfl) ?_; dsimp only)); refine box_event ?hg (N := 6) ?hd (cs := #[.string a1_0, .string a1_1, .string a1_2, .string a1_3]) (t := 22) ?hr ?_; (case hd => rfl); (case hg => rfl); (case hr => first | (go_simp; done) | (go_simp; rfl)); intro gb188 hg w225 hbox hb; have n0_ := Aside0.mk (below_step (hb_ HB.out) hb); have n1_ := Aside0.mk (hbox); have n2_ := Aside0.mk ((by rw [hg]; exact (below_size (hb_ HB.out)) : w.heap.size ≤ gb188)); have n3_ := Aside0.mk ((by rw [hg]; exact (below_size (hb_ HB.out)) : w.heap.size ≤ gb188)); clear HB; have HB := n0_; have BK188 := n1_; have GW188 := n2_; have GE188 := n3_; clear n0_ n1_ n2_ n3_; clear hb hbox hg; have hcz226_0 : w225.cell? ⟨gb188, 0, none⟩ = some (.string a1_0) := (blk_cell BK188.out 0).trans rfl; have hcz226_1 : w225.cell? ⟨gb188, 1, none⟩ = some (.string a1_1) := (blk_cell BK188.out 1).trans rfl; have hcz226_2 : w225.cell? ⟨gb188, 2, none⟩ = some (.string a1_2) := (blk_cell BK188.out 2).trans rfl; have hcz226_3 : w225.cell? ⟨gb188, 3, none⟩ = some (.string a1_3) := (blk_cell BK188.out 3).trans rfl; have hfz226_0 := blk_frozen BK188.out 0; have hfz226_1 := blk_frozen BK188.out 1; have hfz226_2 := blk_frozen BK188.out 2; have hfz226_3 := blk_frozen BK188.out 3) | ((with_reducible refine gate_callee (f := 9) rfl ?_); refine goesL_ (some 28) rfl rfl Tryd.func9 (by kernel_rfl) rfl #[.int .i64 a0, .agg #[.string a1_0, .string a1_1, .string a1_2, .string a1_3], .string a2] rfl al_ ?_; (with_reducible refine (comfitref06_Cutter.calls a0 a1_0 a1_1 a1_2 a1_3 a2 false _ A6.out).mono ?_); rintro e w227 ⟨rfl, hb⟩; refine ⟨_, rfl, ?_⟩; have n0_ := Aside0.mk (bkb_ BK188.out hb); have n1_ := Aside0.mk (below_step (hb_ HB.out) hb); clear BK188; clear HB; have BK188 := n0_; have HB := n1_; clear n0_ n1_; (try clear hb); (try clear hb2); (try clear hk); (try clear hi)))
   have n0_ := Aside0.mk (blk_drew BK188.out)
   have n1_ := Aside0.mk (below_drew1 HB.out)
   clear BK188
   clear HB
   have BK188 := n0_
   have HB := n1_
   clear n0_ n1_
   refine start_ (n := 10) (S := fun w' => w'.cell? ⟨gb188, 0, none⟩ = some (.string a1_0) ∧ w'.cell? ⟨gb188, 1, none⟩ = some (.string a1_1) ∧ w'.cell? ⟨gb188, 2, none⟩ = some (.string a1_2) ∧ w'.cell? ⟨gb188, 3, none⟩ = some (.string a1_3)) (ds := []) #[false, false, false, false, false, false, false, false, false, false] (by kernel_rfl) rfl rfl ⟨(blk_cell BK188.out 0).trans rfl, (blk_cell BK188.out 1).trans rfl, (blk_cell BK188.out 2).trans rfl, (blk_cell BK188.out 3).trans rfl⟩ (fun hHeld => ?_); refine with_tabW comfitlaw06_TagsParts.tab2 comfitlaw06_TagsParts.bits2 (fun HT_ HW_ => ?_)
   generalize w227.drew = w228 at BK188 HB hHeld ⊢
   refine pure_ (i := 0) (N := some 31) (v := ?_) (a' := ?_) #[true, false, false, false, false, false, false, false, false, false] rfl rfl (any_of HT_.out (by kernel_rfl)) (fun _ _ _ h => h) (Or.inl ⟨by rfl, ?_⟩) ?_ ?_
   rotate_left
   ·intro w'
    go_simp
    with_reducible rfl
   rotate_left
   ·simp only [Act.put, List.setIfInBounds_toArray, List.set_cons_zero, List.set_cons_succ, i64_w, i32_w]
    rfl
   refine pure_ (i := 2) (N := some 33) (v := ?_) (a' := ?_) #[true, false, true, false, false, false, false, false, false, false] rfl rfl (any_of HT_.out (by kernel_rfl)) (fun _ _ _ h => h) (Or.inl ⟨by rfl, ?_⟩) ?_ ?_
   rotate_left
   ·intro w'
    go_simp
    with_reducible rfl
   rotate_left
   ·simp only [Act.put, List.setIfInBounds_toArray, List.set_cons_zero, List.set_cons_succ, i64_w, i32_w]
    rfl
   refine take_ (i := 1) (N := some 32) (v := ?_) (a' := ?_) #[true, true, true, false, false, false, false, false, false, false] rfl rfl (take_ofW HT_.out HW_.out (by kernel_rfl)) (fun _ _ _ h => h) (Or.inl ⟨by rfl, ?_⟩) hHeld ?_ ?_
   rotate_left
   ·rintro w' ⟨s0, s1, s2, s3⟩
    go_simp
    with_reducible rfl
   rotate_left
   ·simp only [Act.put, List.setIfInBounds_toArray, List.set_cons_zero, List.set_cons_succ, i64_w, i32_w]
    rfl
   refine one_ (i := 3) (N := some 34) #[true, true, true, true, false, false, false, false, false, false] rfl rfl (one_of HT_.out (by kernel_rfl)) (by decide) (fun K hK => ?_)
   refine goes_ Tryd.func8 (by kernel_rfl) rfl #[.string a2] (by rfl) rfl rfl al_ ?_
   with_reducible refine (comfitlaw06_text.calls a2 t190 _ A214.out).mono ?_
   rintro e w229 ⟨rfl, hb⟩
   refine ⟨_, rfl, ?_⟩
   have n0_ := Aside0.mk (bkb_ BK188.out hb)
   have n1_ := Aside0.mk (below_step (hb_ HB.out) hb)
   clear BK188
   clear HB
   have BK188 := n0_
   have HB := n1_
   clear n0_ n1_
   (try clear hb)
   (try clear hb2)
   (try clear hk)
   (try clear hi)
   refine hK.out _ _ ⟨(blk_cell BK188.out 0).trans rfl, (blk_cell BK188.out 1).trans rfl, (blk_cell BK188.out 2).trans rfl, (blk_cell BK188.out 3).trans rfl⟩ (fun hHeld => ?_)
   clear hK K
   refine norm_ (a' := ?_) ?_ ?_
   rotate_left
   ·show Act.put _ (some 34) _ = _
    simp only [Act.put, List.setIfInBounds_toArray, List.set_cons_zero, List.set_cons_succ, i64_w, i32_w]
    rfl
   refine one_ (i := 4) (N := some 35) #[true, true, true, true, true, false, false, false, false, false] rfl rfl (one_of HT_.out (by kernel_rfl)) (by decide) (fun K hK => ?_)
   refine goes_ Tryd.func12 (by kernel_rfl) rfl #[.int .i64 a0, .agg #[.string a1_0, .string a1_1, .string a1_2, .string a1_3], .string t190] (by rfl) rfl rfl al_ ?_
   with_reducible refine (tags_Cut.calls a0 a1_0 a1_1 a1_2 a1_3 t190 t191 t192 _ A215.out).mono ?_
   rintro e w230 ⟨rfl, hb⟩
   refine ⟨_, rfl, ?_⟩
   have n0_ := Aside0.mk (bkb_ BK188.out hb)
   have n1_ := Aside0.mk (below_step (hb_ HB.out) hb)
   clear BK188
   clear HB
   have BK188 := n0_
   have HB := n1_
   clear n0_ n1_
   (try clear hb)
   (try clear hb2)
   (try clear hk)
   (try clear hi)
   refine hK.out _ _ ⟨(blk_cell BK188.out 0).trans rfl, (blk_cell BK188.out 1).trans rfl, (blk_cell BK188.out 2).trans rfl, (blk_cell BK188.out 3).trans rfl⟩ (fun hHeld => ?_)
   clear hK K
   refine norm_ (a' := ?_) ?_ ?_
   rotate_left
   ·show Act.put _ (some 35) _ = _
    simp only [Act.put, List.setIfInBounds_toArray, List.set_cons_zero, List.set_cons_succ, i64_w, i32_w]
    rfl
   refine pure_ (i := 5) (N := some 30) (v := ?_) (a' := ?_) #[true, true, true, true, true, true, false, false, false, false] rfl rfl (any_of HT_.out (by kernel_rfl)) (fun _ _ _ h => h) (Or.inl ⟨by rfl, ?_⟩) ?_ ?_
   rotate_left
   ·intro w'
    go_simp
    with_reducible rfl
   rotate_left
   ·simp only [Act.put, List.setIfInBounds_toArray, List.set_cons_zero, List.set_cons_succ, i64_w, i32_w]
    rfl
   refine pure_ (i := 6) (N := some 36) (v := ?_) (a' := ?_) #[true, true, true, true, true, true, true, false, false, false] rfl rfl (any_of HT_.out (by kernel_rfl)) (fun _ _ _ h => h) (Or.inl ⟨by rfl, ?_⟩) ?_ ?_
   rotate_left
   ·intro w'
    go_simp
    with_reducible rfl
   rotate_left
   ·simp only [Act.put, List.setIfInBounds_toArray, List.set_cons_zero, List.set_cons_succ, i64_w, i32_w]
    rfl
   refine pure_ (i := 7) (N := some 37) (v := ?_) (a' := ?_) #[true, true, true, true, true, true, true, true, false, false] rfl rfl (any_of HT_.out (by kernel_rfl)) (fun _ _ _ h => h) (Or.inl ⟨by rfl, ?_⟩) ?_ ?_
   rotate_left
   ·intro w'
    go_simp
    with_reducible rfl
   rotate_left
   ·simp only [Act.put, List.setIfInBounds_toArray, List.set_cons_zero, List.set_cons_succ, i64_w, i32_w]
    rfl
   refine pure_ (i := 8) (N := some 11) (v := ?_) (a' := ?_) #[true, true, true, true, true, true, true, true, true, false] rfl rfl (any_of HT_.out (by kernel_rfl)) (fun _ _ _ h => h) (Or.inl ⟨by rfl, ?_⟩) ?_ ?_
   rotate_left
   ·intro w'
    go_simp
    with_reducible rfl
   rotate_left
   ·simp only [Act.put, List.setIfInBounds_toArray, List.set_cons_zero, List.set_cons_succ, i64_w, i32_w]
    rfl
   refine pure_ (i := 9) (N := some 12) (v := ?_) (a' := ?_) #[true, true, true, true, true, true, true, true, true, true] rfl rfl (any_of HT_.out (by kernel_rfl)) (fun _ _ _ h => h) (Or.inl ⟨by rfl, ?_⟩) ?_ ?_
   rotate_left
   ·intro w'
    go_simp
    with_reducible rfl
   rotate_left
   ·simp only [Act.put, List.setIfInBounds_toArray, List.set_cons_zero, List.set_cons_succ, i64_w, i32_w]
    rfl
   refine done_ (done_of HT_.out (by kernel_rfl)) ?_
   try go_wp2
   go_ret
   exact ⟨by first | rfl | (simp [errW_none, errW_some] <;> rfl) | (simp [*, errW_none, errW_some] <;> rfl), by repeat (first | (with_reducible first | exact HB.out | apply below_alloc | apply pw_below_drewN | apply below_drew1 | refine below_set ?_ GE188.out) | exact HB.out)⟩

end Go.Proofs.YtjmbjnobbeflfaaDoor.X
