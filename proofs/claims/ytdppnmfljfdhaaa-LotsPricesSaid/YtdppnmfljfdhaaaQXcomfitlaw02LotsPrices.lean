/- Written by a program of this session (wip/tools/xprint.py, which calls the kit's print): Go functions as Lean functions, and for each the proof that the machine's call does what it says; no conditions but those that each theorem names. -/
import Derived.Test.YtdppnmfljfdhaaaQX0
import Derived.Test.YtdppnmfljfdhaaaQXEq
import Derived.Test.YtdppnmfljfdhaaaQXL
import Derived.Test.YtdppnmfljfdhaaaQXLO
import Derived.Test.YtdppnmfljfdhaaaQXR
import Derived.Test.YtdppnmfljfdhaaaQXcomfitlaw02awake
import Derived.Test.YtdppnmfljfdhaaaQXcomfitref02Price
import Derived.Test.YtdppnmfljfdhaaaQXlotsPrice
namespace Go.Proofs.Ytdppnmfljfdhaaa.X
open Go.RowKit Go.Proofs.YtdppnmfljfdhaaaW.PrintWords Go.Proofs.YtdppnmfljfdhaaaW.PrintLast Go.Proofs.YtdppnmfljfdhaaaW.PrintMore
attribute [local go_sem] max2_int min2_int max_two min_two max_three min_three max_four min_four   -- for this text's walks alone
set_option linter.unusedVariables false
set_option linter.unusedSimpArgs false

attribute [local go_sem high] eqA28
/-! ### comfitlaw02_LotsPrices: function 12 -/
def comfitlaw02_LotsPrices.j0 : Nat → Int → Int → Int → Bool → List Int → List Int → Int → Int → Int → Int → Int → Int → Int → Int → Option (Bool)
 | 0, _, _, _, _, _, _, _, _, _, _, _, _, _, _ => none
 | k + 1, x4, x5, x14, x58, x549000, x549001, x550000, x550001, x551000, x551001, x552000, x552001, x568000, x568001 => if x58 = true then ((comfitlaw02_none.f x568000 x568001).bind fun t573 => (if t573 = true then (if x14 = 2 then ((comfitlaw02_awake.f k).bind fun t574 => (some t574)) else (some false)) else (some false))) else ((comfitref02_Price.f k x549000 x549001 x550000 x550001 x551000 x551001 x552000 x552001 x4 x5).bind fun bt575 => (if (x568000 == bt575.1 && (x568001 == bt575.2)) = true then (if x14 = 0 then ((comfitlaw02_awake.f k).bind fun t577 => (some t577)) else (some false)) else (some false)))
def comfitlaw02_LotsPrices.f (k : Nat) (l0_0 : List Int) (l0_1 : List Int) (a1_0 : Int) (a1_1 : Int) (a2_0 : Int) (a2_1 : Int) (a3_0 : Int) (a3_1 : Int) (a4 : Int) (a5 : Int) : Option (Bool) := (comfitlaw02_Of.f l0_0 l0_1).bind fun bt552 => ((comfitlaw02_chance.f a1_0 a1_1).bind fun bt558 => ((comfitlaw02_chance.f a2_0 a2_1).bind fun bt560 => ((comfitlaw02_chance.f a3_0 a3_1).bind fun bt562 => ((lots_Price.f k bt552.1 bt552.2 bt558.1 bt558.2 bt560.1 bt560.2 bt562.1 bt562.2 a4 a5).bind fun bt564 => ((comfitref02_Valid.f k l0_0 l0_1).bind fun t568 => (if t568 = true then (if (l0_0.length : Int) > 6 then (comfitlaw02_LotsPrices.j0 k a4 a5 bt564.2.2 true l0_0 l0_1 a1_0 a1_1 a2_0 a2_1 a3_0 a3_1 bt564.1 bt564.2.1) else ((comfitref02_Is.f a1_0 a1_1).bind fun t569 => (if t569 = true then ((comfitref02_Is.f a2_0 a2_1).bind fun t570 => (if t570 = true then ((comfitref02_Is.f a3_0 a3_1).bind fun t571 => (if t571 = true then ((comfitref02_Cost.f a4 a5).bind fun t572 => (comfitlaw02_LotsPrices.j0 k a4 a5 bt564.2.2 (!t572) l0_0 l0_1 a1_0 a1_1 a2_0 a2_1 a3_0 a3_1 bt564.1 bt564.2.1)) else (comfitlaw02_LotsPrices.j0 k a4 a5 bt564.2.2 true l0_0 l0_1 a1_0 a1_1 a2_0 a2_1 a3_0 a3_1 bt564.1 bt564.2.1))) else (comfitlaw02_LotsPrices.j0 k a4 a5 bt564.2.2 true l0_0 l0_1 a1_0 a1_1 a2_0 a2_1 a3_0 a3_1 bt564.1 bt564.2.1))) else (comfitlaw02_LotsPrices.j0 k a4 a5 bt564.2.2 true l0_0 l0_1 a1_0 a1_1 a2_0 a2_1 a3_0 a3_1 bt564.1 bt564.2.1)))) else (comfitlaw02_LotsPrices.j0 k a4 a5 bt564.2.2 true l0_0 l0_1 a1_0 a1_1 a2_0 a2_1 a3_0 a3_1 bt564.1 bt564.2.1)))))))
def comfitlaw02_LotsPrices.T1 : Bool × List (List Nat × List Nat) := (true, [([], []), ([0], [0]), ([], []), ([2, 1], [2]), ([], []), ([4, 3], [4]), ([], []), ([6, 5], [6]), ([], []), ([], []), ([1, 3, 5, 7, 8, 9, 7], [1, 3, 5, 7, 8, 9]), ([10], [10]), ([11], [11]), ([11], [11]), ([], []), ([14, 12, 10, 0, 1, 2, 3, 4, 5, 6, 7, 8, 9, 10, 11, 12, 14], [12, 14]), ([13, 15, 0, 1, 2, 3, 4, 5, 6, 7, 8, 9, 10, 11, 12, 13, 14, 15], [13])])
def comfitlaw02_LotsPrices.B1 : List Nat := [0, 1, 0, 7, 0, 31, 0, 127, 0, 0, 1023, 2047, 4095, 4095, 0, 24575, 65535]
theorem comfitlaw02_LotsPrices.tab1 : rtab .any (opsOf Try.f12 1) = comfitlaw02_LotsPrices.T1 := by kernel_rfl
theorem comfitlaw02_LotsPrices.bits1 : waitsOk comfitlaw02_LotsPrices.T1.2 comfitlaw02_LotsPrices.B1 = true := by kernel_rfl
def comfitlaw02_LotsPrices.T4 : Bool × List (List Nat × List Nat) := (true, [([], []), ([], []), ([], []), ([], []), ([], []), ([], []), ([], []), ([1, 2, 3, 4, 5, 6], [1, 2, 3, 4, 5, 6]), ([0, 7], [0, 7]), ([8, 7], [8]), ([9], [9]), ([10, 9], [9, 10]), ([9, 11], [9, 11]), ([12, 9], [12]), ([13, 13], [13]), ([13, 14], [13, 14]), ([15, 14, 0, 1, 2, 3, 4, 5, 6, 7, 8, 9, 10, 11, 12, 13, 14, 15], [15])])
def comfitlaw02_LotsPrices.B4 : List Nat := [0, 0, 0, 0, 0, 0, 0, 126, 255, 511, 1023, 2047, 4095, 8191, 16383, 32767, 65535]
theorem comfitlaw02_LotsPrices.tab4 : rtab .any (opsOf Try.f12 4) = comfitlaw02_LotsPrices.T4 := by kernel_rfl
theorem comfitlaw02_LotsPrices.bits4 : waitsOk comfitlaw02_LotsPrices.T4.2 comfitlaw02_LotsPrices.B4 = true := by kernel_rfl
set_option maxHeartbeats 8000000 in
set_option maxRecDepth 100000 in
theorem comfitlaw02_LotsPrices.calls (k : Nat) (A0_0 : Option Addr) (c0_0 : Nat) (l0_0 : List Int) (A0_1 : Option Addr) (c0_1 : Nat) (l0_1 : List Int) (a1_0 : Int) (a1_1 : Int) (a2_0 : Int) (a2_1 : Int) (a3_0 : Int) (a3_1 : Int) (a4 : Int) (a5 : Int) (r : Bool) (w : World) (hr0_0 : Kd.C (Kd.int .i64) w A0_0 l0_0.length l0_0) (hc0_0 : l0_0.length ≤ c0_0) (hr0_1 : Kd.C (Kd.int .i64) w A0_1 l0_1.length l0_1) (hc0_1 : l0_1.length ≤ c0_1) (h : comfitlaw02_LotsPrices.f k l0_0 l0_1 a1_0 a1_1 a2_0 a2_1 a3_0 a3_1 a4 a5 = some r) :
  Calls Try.prog 12 #[.agg #[.slice A0_0 l0_0.length c0_0, .slice A0_1 l0_1.length c0_1], .agg #[.int .i64 a1_0, .int .i64 a1_1], .agg #[.int .i64 a2_0, .int .i64 a2_1], .agg #[.int .i64 a3_0, .int .i64 a3_1], .int .i64 a4, .int .i64 a5] w fun e w' => e = .returned (.bool r) ∧ Below w.heap.size w w' := by
 have hu24 := Try.underlying24
 have hu26 := Try.underlying26
 have hu28 := Try.underlying28
 have HR0_0 := Aside0.mk hr0_0
 have HC0_0 := Aside0.mk hc0_0
 clear hr0_0 hc0_0
 have HR0_1 := Aside0.mk hr0_1
 have HC0_1 := Aside0.mk hc0_1
 clear hr0_1 hc0_1
 have HB := Aside0.mk (Below.refl w.heap.size w)
 have H : ((comfitlaw02_Of.f l0_0 l0_1).bind fun bt552 => ((comfitlaw02_chance.f a1_0 a1_1).bind fun bt558 => ((comfitlaw02_chance.f a2_0 a2_1).bind fun bt560 => ((comfitlaw02_chance.f a3_0 a3_1).bind fun bt562 => ((lots_Price.f k bt552.1 bt552.2 bt558.1 bt558.2 bt560.1 bt560.2 bt562.1 bt562.2 a4 a5).bind fun bt564 => ((comfitref02_Valid.f k l0_0 l0_1).bind fun t568 => (if t568 = true then (if (l0_0.length : Int) > 6 then (comfitlaw02_LotsPrices.j0 k a4 a5 bt564.2.2 true l0_0 l0_1 a1_0 a1_1 a2_0 a2_1 a3_0 a3_1 bt564.1 bt564.2.1) else ((comfitref02_Is.f a1_0 a1_1).bind fun t569 => (if t569 = true then ((comfitref02_Is.f a2_0 a2_1).bind fun t570 => (if t570 = true then ((comfitref02_Is.f a3_0 a3_1).bind fun t571 => (if t571 = true then ((comfitref02_Cost.f a4 a5).bind fun t572 => (comfitlaw02_LotsPrices.j0 k a4 a5 bt564.2.2 (!t572) l0_0 l0_1 a1_0 a1_1 a2_0 a2_1 a3_0 a3_1 bt564.1 bt564.2.1)) else (comfitlaw02_LotsPrices.j0 k a4 a5 bt564.2.2 true l0_0 l0_1 a1_0 a1_1 a2_0 a2_1 a3_0 a3_1 bt564.1 bt564.2.1))) else (comfitlaw02_LotsPrices.j0 k a4 a5 bt564.2.2 true l0_0 l0_1 a1_0 a1_1 a2_0 a2_1 a3_0 a3_1 bt564.1 bt564.2.1))) else (comfitlaw02_LotsPrices.j0 k a4 a5 bt564.2.2 true l0_0 l0_1 a1_0 a1_1 a2_0 a2_1 a3_0 a3_1 bt564.1 bt564.2.1)))) else (comfitlaw02_LotsPrices.j0 k a4 a5 bt564.2.2 true l0_0 l0_1 a1_0 a1_1 a2_0 a2_1 a3_0 a3_1 bt564.1 bt564.2.1)))))))) = some r := h
 clear h
 replace H := Option.bind_eq_some_iff.mp H
 obtain ⟨⟨t552, t555⟩, A70, H⟩ := H
 replace H : ((comfitlaw02_chance.f a1_0 a1_1).bind fun bt558 => ((comfitlaw02_chance.f a2_0 a2_1).bind fun bt560 => ((comfitlaw02_chance.f a3_0 a3_1).bind fun bt562 => ((lots_Price.f k t552 t555 bt558.1 bt558.2 bt560.1 bt560.2 bt562.1 bt562.2 a4 a5).bind fun bt564 => ((comfitref02_Valid.f k l0_0 l0_1).bind fun t568 => (if t568 = true then (if (l0_0.length : Int) > 6 then (comfitlaw02_LotsPrices.j0 k a4 a5 bt564.2.2 true l0_0 l0_1 a1_0 a1_1 a2_0 a2_1 a3_0 a3_1 bt564.1 bt564.2.1) else ((comfitref02_Is.f a1_0 a1_1).bind fun t569 => (if t569 = true then ((comfitref02_Is.f a2_0 a2_1).bind fun t570 => (if t570 = true then ((comfitref02_Is.f a3_0 a3_1).bind fun t571 => (if t571 = true then ((comfitref02_Cost.f a4 a5).bind fun t572 => (comfitlaw02_LotsPrices.j0 k a4 a5 bt564.2.2 (!t572) l0_0 l0_1 a1_0 a1_1 a2_0 a2_1 a3_0 a3_1 bt564.1 bt564.2.1)) else (comfitlaw02_LotsPrices.j0 k a4 a5 bt564.2.2 true l0_0 l0_1 a1_0 a1_1 a2_0 a2_1 a3_0 a3_1 bt564.1 bt564.2.1))) else (comfitlaw02_LotsPrices.j0 k a4 a5 bt564.2.2 true l0_0 l0_1 a1_0 a1_1 a2_0 a2_1 a3_0 a3_1 bt564.1 bt564.2.1))) else (comfitlaw02_LotsPrices.j0 k a4 a5 bt564.2.2 true l0_0 l0_1 a1_0 a1_1 a2_0 a2_1 a3_0 a3_1 bt564.1 bt564.2.1)))) else (comfitlaw02_LotsPrices.j0 k a4 a5 bt564.2.2 true l0_0 l0_1 a1_0 a1_1 a2_0 a2_1 a3_0 a3_1 bt564.1 bt564.2.1))))))) = some r := H
 have A7 := Aside0.mk A70
 clear A70
 replace H := Option.bind_eq_some_iff.mp H
 obtain ⟨⟨t558, t559⟩, A80, H⟩ := H
 replace H : ((comfitlaw02_chance.f a2_0 a2_1).bind fun bt560 => ((comfitlaw02_chance.f a3_0 a3_1).bind fun bt562 => ((lots_Price.f k t552 t555 t558 t559 bt560.1 bt560.2 bt562.1 bt562.2 a4 a5).bind fun bt564 => ((comfitref02_Valid.f k l0_0 l0_1).bind fun t568 => (if t568 = true then (if (l0_0.length : Int) > 6 then (comfitlaw02_LotsPrices.j0 k a4 a5 bt564.2.2 true l0_0 l0_1 a1_0 a1_1 a2_0 a2_1 a3_0 a3_1 bt564.1 bt564.2.1) else ((comfitref02_Is.f a1_0 a1_1).bind fun t569 => (if t569 = true then ((comfitref02_Is.f a2_0 a2_1).bind fun t570 => (if t570 = true then ((comfitref02_Is.f a3_0 a3_1).bind fun t571 => (if t571 = true then ((comfitref02_Cost.f a4 a5).bind fun t572 => (comfitlaw02_LotsPrices.j0 k a4 a5 bt564.2.2 (!t572) l0_0 l0_1 a1_0 a1_1 a2_0 a2_1 a3_0 a3_1 bt564.1 bt564.2.1)) else (comfitlaw02_LotsPrices.j0 k a4 a5 bt564.2.2 true l0_0 l0_1 a1_0 a1_1 a2_0 a2_1 a3_0 a3_1 bt564.1 bt564.2.1))) else (comfitlaw02_LotsPrices.j0 k a4 a5 bt564.2.2 true l0_0 l0_1 a1_0 a1_1 a2_0 a2_1 a3_0 a3_1 bt564.1 bt564.2.1))) else (comfitlaw02_LotsPrices.j0 k a4 a5 bt564.2.2 true l0_0 l0_1 a1_0 a1_1 a2_0 a2_1 a3_0 a3_1 bt564.1 bt564.2.1)))) else (comfitlaw02_LotsPrices.j0 k a4 a5 bt564.2.2 true l0_0 l0_1 a1_0 a1_1 a2_0 a2_1 a3_0 a3_1 bt564.1 bt564.2.1)))))) = some r := H
 have A8 := Aside0.mk A80
 clear A80
 replace H := Option.bind_eq_some_iff.mp H
 obtain ⟨⟨t560, t561⟩, A90, H⟩ := H
 replace H : ((comfitlaw02_chance.f a3_0 a3_1).bind fun bt562 => ((lots_Price.f k t552 t555 t558 t559 t560 t561 bt562.1 bt562.2 a4 a5).bind fun bt564 => ((comfitref02_Valid.f k l0_0 l0_1).bind fun t568 => (if t568 = true then (if (l0_0.length : Int) > 6 then (comfitlaw02_LotsPrices.j0 k a4 a5 bt564.2.2 true l0_0 l0_1 a1_0 a1_1 a2_0 a2_1 a3_0 a3_1 bt564.1 bt564.2.1) else ((comfitref02_Is.f a1_0 a1_1).bind fun t569 => (if t569 = true then ((comfitref02_Is.f a2_0 a2_1).bind fun t570 => (if t570 = true then ((comfitref02_Is.f a3_0 a3_1).bind fun t571 => (if t571 = true then ((comfitref02_Cost.f a4 a5).bind fun t572 => (comfitlaw02_LotsPrices.j0 k a4 a5 bt564.2.2 (!t572) l0_0 l0_1 a1_0 a1_1 a2_0 a2_1 a3_0 a3_1 bt564.1 bt564.2.1)) else (comfitlaw02_LotsPrices.j0 k a4 a5 bt564.2.2 true l0_0 l0_1 a1_0 a1_1 a2_0 a2_1 a3_0 a3_1 bt564.1 bt564.2.1))) else (comfitlaw02_LotsPrices.j0 k a4 a5 bt564.2.2 true l0_0 l0_1 a1_0 a1_1 a2_0 a2_1 a3_0 a3_1 bt564.1 bt564.2.1))) else (comfitlaw02_LotsPrices.j0 k a4 a5 bt564.2.2 true l0_0 l0_1 a1_0 a1_1 a2_0 a2_1 a3_0 a3_1 bt564.1 bt564.2.1)))) else (comfitlaw02_LotsPrices.j0 k a4 a5 bt564.2.2 true l0_0 l0_1 a1_0 a1_1 a2_0 a2_1 a3_0 a3_1 bt564.1 bt564.2.1))))) = some r := H
 have A9 := Aside0.mk A90
 clear A90
 replace H := Option.bind_eq_some_iff.mp H
 obtain ⟨⟨t562, t563⟩, A100, H⟩ := H
 replace H : ((lots_Price.f k t552 t555 t558 t559 t560 t561 t562 t563 a4 a5).bind fun bt564 => ((comfitref02_Valid.f k l0_0 l0_1).bind fun t568 => (if t568 = true then (if (l0_0.length : Int) > 6 then (comfitlaw02_LotsPrices.j0 k a4 a5 bt564.2.2 true l0_0 l0_1 a1_0 a1_1 a2_0 a2_1 a3_0 a3_1 bt564.1 bt564.2.1) else ((comfitref02_Is.f a1_0 a1_1).bind fun t569 => (if t569 = true then ((comfitref02_Is.f a2_0 a2_1).bind fun t570 => (if t570 = true then ((comfitref02_Is.f a3_0 a3_1).bind fun t571 => (if t571 = true then ((comfitref02_Cost.f a4 a5).bind fun t572 => (comfitlaw02_LotsPrices.j0 k a4 a5 bt564.2.2 (!t572) l0_0 l0_1 a1_0 a1_1 a2_0 a2_1 a3_0 a3_1 bt564.1 bt564.2.1)) else (comfitlaw02_LotsPrices.j0 k a4 a5 bt564.2.2 true l0_0 l0_1 a1_0 a1_1 a2_0 a2_1 a3_0 a3_1 bt564.1 bt564.2.1))) else (comfitlaw02_LotsPrices.j0 k a4 a5 bt564.2.2 true l0_0 l0_1 a1_0 a1_1 a2_0 a2_1 a3_0 a3_1 bt564.1 bt564.2.1))) else (comfitlaw02_LotsPrices.j0 k a4 a5 bt564.2.2 true l0_0 l0_1 a1_0 a1_1 a2_0 a2_1 a3_0 a3_1 bt564.1 bt564.2.1)))) else (comfitlaw02_LotsPrices.j0 k a4 a5 bt564.2.2 true l0_0 l0_1 a1_0 a1_1 a2_0 a2_1 a3_0 a3_1 bt564.1 bt564.2.1)))) = some r := H
 have A10 := Aside0.mk A100
 clear A100
 replace H := Option.bind_eq_some_iff.mp H
 obtain ⟨⟨t564, t565, t566⟩, A110, H⟩ := H
 replace H : ((comfitref02_Valid.f k l0_0 l0_1).bind fun t568 => (if t568 = true then (if (l0_0.length : Int) > 6 then (comfitlaw02_LotsPrices.j0 k a4 a5 t566 true l0_0 l0_1 a1_0 a1_1 a2_0 a2_1 a3_0 a3_1 t564 t565) else ((comfitref02_Is.f a1_0 a1_1).bind fun t569 => (if t569 = true then ((comfitref02_Is.f a2_0 a2_1).bind fun t570 => (if t570 = true then ((comfitref02_Is.f a3_0 a3_1).bind fun t571 => (if t571 = true then ((comfitref02_Cost.f a4 a5).bind fun t572 => (comfitlaw02_LotsPrices.j0 k a4 a5 t566 (!t572) l0_0 l0_1 a1_0 a1_1 a2_0 a2_1 a3_0 a3_1 t564 t565)) else (comfitlaw02_LotsPrices.j0 k a4 a5 t566 true l0_0 l0_1 a1_0 a1_1 a2_0 a2_1 a3_0 a3_1 t564 t565))) else (comfitlaw02_LotsPrices.j0 k a4 a5 t566 true l0_0 l0_1 a1_0 a1_1 a2_0 a2_1 a3_0 a3_1 t564 t565))) else (comfitlaw02_LotsPrices.j0 k a4 a5 t566 true l0_0 l0_1 a1_0 a1_1 a2_0 a2_1 a3_0 a3_1 t564 t565)))) else (comfitlaw02_LotsPrices.j0 k a4 a5 t566 true l0_0 l0_1 a1_0 a1_1 a2_0 a2_1 a3_0 a3_1 t564 t565))) = some r := H
 have A11 := Aside0.mk A110
 clear A110
 have HC12 := Aside0.mk H
 clear H
 go_enter Try.func12, Try.ntmps12
 try go_wp2_with (first | ((with_reducible refine gate_dst (N := 6) rfl ?_); (try (refine gate_guard (by rfl) ?_; dsimp only)); refine box_event ?hg (N := 6) ?hd (cs := #[.slice A0_0 l0_0.length c0_0, .slice A0_1 l0_1.length c0_1]) (t := 24) ?hr ?_; (case hd => rfl); (case hg => rfl); (case hr => first | (go_simp; done) | (go_simp; rfl)); intro gb548 hg w13 hbox hb; have n0_ := Aside0.mk (below_step (hb_ HB.out) hb); have n1_ := Aside0.mk (hbox); have n2_ := Aside0.mk ((by rw [hg]; exact (below_size (hb_ HB.out)) : w.heap.size ≤ gb548)); have n3_ := Aside0.mk ((by rw [hg]; exact (below_size (hb_ HB.out)) : w.heap.size ≤ gb548)); clear HB; have HB := n0_; have BK548 := n1_; have GW548 := n2_; have GE548 := n3_; clear n0_ n1_ n2_ n3_; clear hb hbox hg) | ((with_reducible refine gate_dst (N := 7) rfl ?_); (try (refine gate_guard (by rfl) ?_; dsimp only)); refine box_event ?hg (N := 7) ?hd (cs := #[.int .i64 a1_0, .int .i64 a1_1]) (t := 26) ?hr ?_; (case hd => rfl); (case hg => rfl); (case hr => first | (go_simp; done) | (go_simp; rfl)); intro gb549 hg w14 hbox hb; have n0_ := Aside0.mk (bkb_ BK548.out hb); have n1_ := Aside0.mk (below_step (hb_ HB.out) hb); have n2_ := Aside0.mk (hbox); have n3_ := Aside0.mk ((by rw [hg]; exact (below_size (hb_ HB.out)) : w.heap.size ≤ gb549)); have n4_ := Aside0.mk ((by rw [hg]; exact (below_size (hb_ HB.out)) : w.heap.size ≤ gb549)); have n5_ := Aside0.mk ((by rw [hg]; exact Nat.ne_of_lt (bkl_ BK548.out) : gb548 ≠ gb549)); have n6_ := Aside0.mk ((by rw [hg]; exact Nat.ne_of_gt (bkl_ BK548.out) : gb549 ≠ gb548)); clear BK548; clear HB; have BK548 := n0_; have HB := n1_; have BK549 := n2_; have GW549 := n3_; have GE549 := n4_; have NB548_549 := n5_; have NB549_548 := n6_; clear n0_ n1_ n2_ n3_ n4_ n5_ n6_; clear hb hbox hg) | ((with_reducible refine gate_dst (N := 8) rfl ?_); (try (refine gate_guard (by rfl) ?_; dsimp only)); refine box_event ?hg (N := 8) ?hd (cs := #[.int .i64 a2_0, .int .i64 a2_1]) (t := 26) ?hr ?_; (case hd => rfl); (case hg => rfl); (case hr => first | (go_simp; done) | (go_simp; rfl)); intro gb550 hg w15 hbox hb; have n0_ := Aside0.mk (bkb_ BK548.out hb); have n1_ := Aside0.mk (bkb_ BK549.out hb); have n2_ := Aside0.mk (below_step (hb_ HB.out) hb); have n3_ := Aside0.mk (hbox); have n4_ := Aside0.mk ((by rw [hg]; exact (below_size (hb_ HB.out)) : w.heap.size ≤ gb550)); have n5_ := Aside0.mk ((by rw [hg]; exact (below_size (hb_ HB.out)) : w.heap.size ≤ gb550)); have n6_ := Aside0.mk ((by rw [hg]; exact Nat.ne_of_lt (bkl_ BK548.out) : gb548 ≠ gb550)); have n7_ := Aside0.mk ((by rw [hg]; exact Nat.ne_of_gt (bkl_ BK548.out) : gb550 ≠ gb548)); have n8_ := Aside0.mk ((by rw [hg]; exact Nat.ne_of_lt (bkl_ BK549.out) : gb549 ≠ gb550)); have n9_ := Aside0.mk ((by rw [hg]; exact Nat.ne_of_gt (bkl_ BK549.out) : gb550 ≠ gb549)); clear BK548; clear BK549; clear HB; have BK548 := n0_; have BK549 := n1_; have HB := n2_; have BK550 := n3_; have GW550 := n4_; have GE550 := n5_; have NB548_550 := n6_; have NB550_548 := n7_; have NB549_550 := n8_; have NB550_549 := n9_; clear n0_ n1_ n2_ n3_ n4_ n5_ n6_ n7_ n8_ n9_; clear hb hbox hg) | ((with_reducible refine gate_dst (N := 9) rfl ?_); (try (refine gate_guard (by rfl) ?_; dsimp only)); refine box_event ?hg (N := 9) ?hd (cs := #[.int .i64 a3_0, .int .i64 a3_1]) (t := 26) ?hr ?_; (case hd => rfl); (case hg => rfl); (case hr => first | (go_simp; done) | (go_simp; rfl)); intro gb551 hg w16 hbox hb; have n0_ := Aside0.mk (bkb_ BK548.out hb); have n1_ := Aside0.mk (bkb_ BK549.out hb); have n2_ := Aside0.mk (bkb_ BK550.out hb); have n3_ := Aside0.mk (below_step (hb_ HB.out) hb); have n4_ := Aside0.mk (hbox); have n5_ := Aside0.mk ((by rw [hg]; exact (below_size (hb_ HB.out)) : w.heap.size ≤ gb551)); have n6_ := Aside0.mk ((by rw [hg]; exact (below_size (hb_ HB.out)) : w.heap.size ≤ gb551)); have n7_ := Aside0.mk ((by rw [hg]; exact Nat.ne_of_lt (bkl_ BK548.out) : gb548 ≠ gb551)); have n8_ := Aside0.mk ((by rw [hg]; exact Nat.ne_of_gt (bkl_ BK548.out) : gb551 ≠ gb548)); have n9_ := Aside0.mk ((by rw [hg]; exact Nat.ne_of_lt (bkl_ BK549.out) : gb549 ≠ gb551)); have n10_ := Aside0.mk ((by rw [hg]; exact Nat.ne_of_gt (bkl_ BK549.out) : gb551 ≠ gb549)); have n11_ := Aside0.mk ((by rw [hg]; exact Nat.ne_of_lt (bkl_ BK550.out) : gb550 ≠ gb551)); have n12_ := Aside0.mk ((by rw [hg]; exact Nat.ne_of_gt (bkl_ BK550.out) : gb551 ≠ gb550)); clear BK548; clear BK549; clear BK550; clear HB; have BK548 := n0_; have BK549 := n1_; have BK550 := n2_; have HB := n3_; have BK551 := n4_; have GW551 := n5_; have GE551 := n6_; have NB548_551 := n7_; have NB551_548 := n8_; have NB549_551 := n9_; have NB551_549 := n10_; have NB550_551 := n11_; have NB551_550 := n12_; clear n0_ n1_ n2_ n3_ n4_ n5_ n6_ n7_ n8_ n9_ n10_ n11_ n12_; clear hb hbox hg))
 have n0_ := Aside0.mk (blk_drew BK548.out)
 have n1_ := Aside0.mk (blk_drew BK549.out)
 have n2_ := Aside0.mk (blk_drew BK550.out)
 have n3_ := Aside0.mk (blk_drew BK551.out)
 have n4_ := Aside0.mk (below_drew1 HB.out)
 clear BK548
 clear BK549
 clear BK550
 clear BK551
 clear HB
 have BK548 := n0_
 have BK549 := n1_
 have BK550 := n2_
 have BK551 := n3_
 have HB := n4_
 clear n0_ n1_ n2_ n3_ n4_
 refine start_ (n := 17) (S := fun w' => w'.cell? ⟨gb548, 0, none⟩ = some (.slice A0_0 l0_0.length c0_0) ∧ w'.cell? ⟨gb548, 1, none⟩ = some (.slice A0_1 l0_1.length c0_1) ∧ w'.cell? ⟨gb549, 0, none⟩ = some (.int .i64 a1_0) ∧ w'.cell? ⟨gb549, 1, none⟩ = some (.int .i64 a1_1) ∧ w'.cell? ⟨gb550, 0, none⟩ = some (.int .i64 a2_0) ∧ w'.cell? ⟨gb550, 1, none⟩ = some (.int .i64 a2_1) ∧ w'.cell? ⟨gb551, 0, none⟩ = some (.int .i64 a3_0) ∧ w'.cell? ⟨gb551, 1, none⟩ = some (.int .i64 a3_1)) (ds := []) #[false, false, false, false, false, false, false, false, false, false, false, false, false, false, false, false, false] (by kernel_rfl) rfl rfl ⟨(blk_cell BK548.out 0).trans rfl, (blk_cell BK548.out 1).trans rfl, (blk_cell BK549.out 0).trans rfl, (blk_cell BK549.out 1).trans rfl, (blk_cell BK550.out 0).trans rfl, (blk_cell BK550.out 1).trans rfl, (blk_cell BK551.out 0).trans rfl, (blk_cell BK551.out 1).trans rfl⟩ (fun hHeld => ?_); refine with_tabW comfitlaw02_LotsPrices.tab1 comfitlaw02_LotsPrices.bits1 (fun HT_ HW_ => ?_)
 generalize w16.drew = w17 at BK548 BK549 BK550 BK551 HB hHeld ⊢
 refine pure_ (i := 8) (N := some 24) (v := ?_) (a' := ?_) #[false, false, false, false, false, false, false, false, true, false, false, false, false, false, false, false, false] rfl rfl (any_of HT_.out (by kernel_rfl)) (fun _ _ _ h => h) (Or.inl ⟨by rfl, ?_⟩) ?_ ?_
 rotate_left
 ·intro w'
  go_simp
  with_reducible rfl
 rotate_left
 ·simp only [Act.put, List.setIfInBounds_toArray, List.set_cons_zero, List.set_cons_succ, i64_w, i32_w]
  rfl
 refine pure_ (i := 9) (N := some 25) (v := ?_) (a' := ?_) #[false, false, false, false, false, false, false, false, true, true, false, false, false, false, false, false, false] rfl rfl (any_of HT_.out (by kernel_rfl)) (fun _ _ _ h => h) (Or.inl ⟨by rfl, ?_⟩) ?_ ?_
 rotate_left
 ·intro w'
  go_simp
  with_reducible rfl
 rotate_left
 ·simp only [Act.put, List.setIfInBounds_toArray, List.set_cons_zero, List.set_cons_succ, i64_w, i32_w]
  rfl
 refine take_ (i := 0) (N := some 16) (v := ?_) (a' := ?_) #[true, false, false, false, false, false, false, false, true, true, false, false, false, false, false, false, false] rfl rfl (take_ofW HT_.out HW_.out (by kernel_rfl)) (fun _ _ _ h => h) (Or.inl ⟨by rfl, ?_⟩) hHeld ?_ ?_
 rotate_left
 ·rintro w' ⟨s0, s1, s2, s3, s4, s5, s6, s7⟩
  go_simp
  with_reducible rfl
 rotate_left
 ·simp only [Act.put, List.setIfInBounds_toArray, List.set_cons_zero, List.set_cons_succ, i64_w, i32_w]
  rfl
 refine take_ (i := 2) (N := some 18) (v := ?_) (a' := ?_) #[true, false, true, false, false, false, false, false, true, true, false, false, false, false, false, false, false] rfl rfl (take_ofW HT_.out HW_.out (by kernel_rfl)) (fun _ _ _ h => h) (Or.inl ⟨by rfl, ?_⟩) hHeld ?_ ?_
 rotate_left
 ·rintro w' ⟨s0, s1, s2, s3, s4, s5, s6, s7⟩
  go_simp
  with_reducible rfl
 rotate_left
 ·simp only [Act.put, List.setIfInBounds_toArray, List.set_cons_zero, List.set_cons_succ, i64_w, i32_w]
  rfl
 refine take_ (i := 4) (N := some 20) (v := ?_) (a' := ?_) #[true, false, true, false, true, false, false, false, true, true, false, false, false, false, false, false, false] rfl rfl (take_ofW HT_.out HW_.out (by kernel_rfl)) (fun _ _ _ h => h) (Or.inl ⟨by rfl, ?_⟩) hHeld ?_ ?_
 rotate_left
 ·rintro w' ⟨s0, s1, s2, s3, s4, s5, s6, s7⟩
  go_simp
  with_reducible rfl
 rotate_left
 ·simp only [Act.put, List.setIfInBounds_toArray, List.set_cons_zero, List.set_cons_succ, i64_w, i32_w]
  rfl
 refine take_ (i := 6) (N := some 22) (v := ?_) (a' := ?_) #[true, false, true, false, true, false, true, false, true, true, false, false, false, false, false, false, false] rfl rfl (take_ofW HT_.out HW_.out (by kernel_rfl)) (fun _ _ _ h => h) (Or.inl ⟨by rfl, ?_⟩) hHeld ?_ ?_
 rotate_left
 ·rintro w' ⟨s0, s1, s2, s3, s4, s5, s6, s7⟩
  go_simp
  with_reducible rfl
 rotate_left
 ·simp only [Act.put, List.setIfInBounds_toArray, List.set_cons_zero, List.set_cons_succ, i64_w, i32_w]
  rfl
 refine join_ (σ := Value × Value × Nat) 2 #[true, true, true, true, true, true, true, true, true, true, true, true, true, true, true, false, false] (fun s_ => [(17, .agg #[s_.1, s_.2.1]), (19, .agg #[.int .i64 t558, .int .i64 t559]), (21, .agg #[.int .i64 t560, .int .i64 t561]), (23, .agg #[.int .i64 t562, .int .i64 t563]), (26, .tuple #[.agg #[.int .i64 t564, .int .i64 t565], .int .i64 t566]), (13, .pointer (some ⟨s_.2.2, 0, none⟩)), (15, .tuple #[.agg #[.int .i64 t564, .int .i64 t565], .int .i64 t566]), (27, .agg #[.int .i64 t564, .int .i64 t565]), (28, .int .i64 t566)]) (fun s_ w' => (w'.cell? ⟨gb548, 0, none⟩ = some (.slice A0_0 l0_0.length c0_0) ∧ w'.cell? ⟨gb548, 1, none⟩ = some (.slice A0_1 l0_1.length c0_1) ∧ w'.cell? ⟨gb549, 0, none⟩ = some (.int .i64 a1_0) ∧ w'.cell? ⟨gb549, 1, none⟩ = some (.int .i64 a1_1) ∧ w'.cell? ⟨gb550, 0, none⟩ = some (.int .i64 a2_0) ∧ w'.cell? ⟨gb550, 1, none⟩ = some (.int .i64 a2_1) ∧ w'.cell? ⟨gb551, 0, none⟩ = some (.int .i64 a3_0) ∧ w'.cell? ⟨gb551, 1, none⟩ = some (.int .i64 a3_1)) ∧ (Kd.R (Kd.int .i64) 3 w' w.heap.size (fun k_ => some k_ ≠ (s_.2.1 : Value).ownBlock) s_.1 t552) ∧ (Kd.R (Kd.int .i64) 3 w' w.heap.size (fun k_ => some k_ ≠ (s_.1 : Value).ownBlock) s_.2.1 t555) ∧ (w'.heap[gb548]? = some (.cells #[.slice A0_0 l0_0.length c0_0, .slice A0_1 l0_1.length c0_1] 24 (0, 0))) ∧ (w'.heap[gb549]? = some (.cells #[.int .i64 a1_0, .int .i64 a1_1] 26 (0, 0))) ∧ (w'.heap[gb550]? = some (.cells #[.int .i64 a2_0, .int .i64 a2_1] 26 (0, 0))) ∧ (w'.heap[gb551]? = some (.cells #[.int .i64 a3_0, .int .i64 a3_1] 26 (0, 0))) ∧ (w'.heap[s_.2.2]? = some (.cells #[.int .i64 0, .int .i64 0] 28 (0, 0))) ∧ (w.heap.size ≤ s_.2.2) ∧ (w.heap.size ≤ s_.2.2) ∧ (gb548 ≠ s_.2.2) ∧ (s_.2.2 ≠ gb548) ∧ (gb549 ≠ s_.2.2) ∧ (s_.2.2 ≠ gb549) ∧ (gb550 ≠ s_.2.2) ∧ (s_.2.2 ≠ gb550) ∧ (gb551 ≠ s_.2.2) ∧ (s_.2.2 ≠ gb551) ∧ (Below w.heap.size w w')) ?_ ?_
 rotate_left
 ·intro hJ1_3_5_7_10_14
  refine join_ (σ := Value × Value) 3 #[true, true, true, true, true, true, true, true, true, true, true, true, true, true, false, false, false] (fun s_ => [(17, .agg #[s_.1, s_.2]), (19, .agg #[.int .i64 t558, .int .i64 t559]), (21, .agg #[.int .i64 t560, .int .i64 t561]), (23, .agg #[.int .i64 t562, .int .i64 t563]), (26, .tuple #[.agg #[.int .i64 t564, .int .i64 t565], .int .i64 t566]), (15, .tuple #[.agg #[.int .i64 t564, .int .i64 t565], .int .i64 t566]), (27, .agg #[.int .i64 t564, .int .i64 t565]), (28, .int .i64 t566)]) (fun s_ w' => (w'.cell? ⟨gb548, 0, none⟩ = some (.slice A0_0 l0_0.length c0_0) ∧ w'.cell? ⟨gb548, 1, none⟩ = some (.slice A0_1 l0_1.length c0_1) ∧ w'.cell? ⟨gb549, 0, none⟩ = some (.int .i64 a1_0) ∧ w'.cell? ⟨gb549, 1, none⟩ = some (.int .i64 a1_1) ∧ w'.cell? ⟨gb550, 0, none⟩ = some (.int .i64 a2_0) ∧ w'.cell? ⟨gb550, 1, none⟩ = some (.int .i64 a2_1) ∧ w'.cell? ⟨gb551, 0, none⟩ = some (.int .i64 a3_0) ∧ w'.cell? ⟨gb551, 1, none⟩ = some (.int .i64 a3_1)) ∧ (Kd.R (Kd.int .i64) 3 w' w.heap.size (fun k_ => some k_ ≠ (s_.2 : Value).ownBlock) s_.1 t552) ∧ (Kd.R (Kd.int .i64) 3 w' w.heap.size (fun k_ => some k_ ≠ (s_.1 : Value).ownBlock) s_.2 t555) ∧ (w'.heap[gb548]? = some (.cells #[.slice A0_0 l0_0.length c0_0, .slice A0_1 l0_1.length c0_1] 24 (0, 0))) ∧ (w'.heap[gb549]? = some (.cells #[.int .i64 a1_0, .int .i64 a1_1] 26 (0, 0))) ∧ (w'.heap[gb550]? = some (.cells #[.int .i64 a2_0, .int .i64 a2_1] 26 (0, 0))) ∧ (w'.heap[gb551]? = some (.cells #[.int .i64 a3_0, .int .i64 a3_1] 26 (0, 0))) ∧ (Below w.heap.size w w')) ?_ ?_
  rotate_left
  ·intro hJ1_3_5_7_10
   refine join_ (σ := Value × Value × Nat) 6 #[true, true, true, true, true, true, true, true, true, true, false, false, false, false, true, false, false] (fun s_ => [(17, .agg #[s_.1, s_.2.1]), (19, .agg #[.int .i64 t558, .int .i64 t559]), (21, .agg #[.int .i64 t560, .int .i64 t561]), (23, .agg #[.int .i64 t562, .int .i64 t563]), (13, .pointer (some ⟨s_.2.2, 0, none⟩))]) (fun s_ w' => (w'.cell? ⟨gb548, 0, none⟩ = some (.slice A0_0 l0_0.length c0_0) ∧ w'.cell? ⟨gb548, 1, none⟩ = some (.slice A0_1 l0_1.length c0_1) ∧ w'.cell? ⟨gb549, 0, none⟩ = some (.int .i64 a1_0) ∧ w'.cell? ⟨gb549, 1, none⟩ = some (.int .i64 a1_1) ∧ w'.cell? ⟨gb550, 0, none⟩ = some (.int .i64 a2_0) ∧ w'.cell? ⟨gb550, 1, none⟩ = some (.int .i64 a2_1) ∧ w'.cell? ⟨gb551, 0, none⟩ = some (.int .i64 a3_0) ∧ w'.cell? ⟨gb551, 1, none⟩ = some (.int .i64 a3_1)) ∧ (Kd.R (Kd.int .i64) 3 w' w.heap.size (fun k_ => some k_ ≠ (s_.2.1 : Value).ownBlock) s_.1 t552) ∧ (Kd.R (Kd.int .i64) 3 w' w.heap.size (fun k_ => some k_ ≠ (s_.1 : Value).ownBlock) s_.2.1 t555) ∧ (w'.heap[gb548]? = some (.cells #[.slice A0_0 l0_0.length c0_0, .slice A0_1 l0_1.length c0_1] 24 (0, 0))) ∧ (w'.heap[gb549]? = some (.cells #[.int .i64 a1_0, .int .i64 a1_1] 26 (0, 0))) ∧ (w'.heap[gb550]? = some (.cells #[.int .i64 a2_0, .int .i64 a2_1] 26 (0, 0))) ∧ (w'.heap[gb551]? = some (.cells #[.int .i64 a3_0, .int .i64 a3_1] 26 (0, 0))) ∧ (w'.heap[s_.2.2]? = some (.cells #[.int .i64 0, .int .i64 0] 28 (0, 0))) ∧ (w.heap.size ≤ s_.2.2) ∧ (w.heap.size ≤ s_.2.2) ∧ (gb548 ≠ s_.2.2) ∧ (s_.2.2 ≠ gb548) ∧ (gb549 ≠ s_.2.2) ∧ (s_.2.2 ≠ gb549) ∧ (gb550 ≠ s_.2.2) ∧ (s_.2.2 ≠ gb550) ∧ (gb551 ≠ s_.2.2) ∧ (s_.2.2 ≠ gb551) ∧ (Below w.heap.size w w')) ?_ ?_
   rotate_left
   ·intro hJ1_3_5_7_14
    refine join_ (σ := Value × Value) 7 #[true, true, true, true, true, true, true, true, true, true, false, false, false, false, false, false, false] (fun s_ => [(17, .agg #[s_.1, s_.2]), (19, .agg #[.int .i64 t558, .int .i64 t559]), (21, .agg #[.int .i64 t560, .int .i64 t561]), (23, .agg #[.int .i64 t562, .int .i64 t563])]) (fun s_ w' => (w'.cell? ⟨gb548, 0, none⟩ = some (.slice A0_0 l0_0.length c0_0) ∧ w'.cell? ⟨gb548, 1, none⟩ = some (.slice A0_1 l0_1.length c0_1) ∧ w'.cell? ⟨gb549, 0, none⟩ = some (.int .i64 a1_0) ∧ w'.cell? ⟨gb549, 1, none⟩ = some (.int .i64 a1_1) ∧ w'.cell? ⟨gb550, 0, none⟩ = some (.int .i64 a2_0) ∧ w'.cell? ⟨gb550, 1, none⟩ = some (.int .i64 a2_1) ∧ w'.cell? ⟨gb551, 0, none⟩ = some (.int .i64 a3_0) ∧ w'.cell? ⟨gb551, 1, none⟩ = some (.int .i64 a3_1)) ∧ (Kd.R (Kd.int .i64) 3 w' w.heap.size (fun k_ => some k_ ≠ (s_.2 : Value).ownBlock) s_.1 t552) ∧ (Kd.R (Kd.int .i64) 3 w' w.heap.size (fun k_ => some k_ ≠ (s_.1 : Value).ownBlock) s_.2 t555) ∧ (w'.heap[gb548]? = some (.cells #[.slice A0_0 l0_0.length c0_0, .slice A0_1 l0_1.length c0_1] 24 (0, 0))) ∧ (w'.heap[gb549]? = some (.cells #[.int .i64 a1_0, .int .i64 a1_1] 26 (0, 0))) ∧ (w'.heap[gb550]? = some (.cells #[.int .i64 a2_0, .int .i64 a2_1] 26 (0, 0))) ∧ (w'.heap[gb551]? = some (.cells #[.int .i64 a3_0, .int .i64 a3_1] 26 (0, 0))) ∧ (Below w.heap.size w w')) ?_ ?_
    rotate_left
    ·intro hJ1_3_5_7
     refine join_ (σ := Value × Value × Nat) 7 #[true, true, true, true, true, true, true, false, true, true, false, false, false, false, true, false, false] (fun s_ => [(17, .agg #[s_.1, s_.2.1]), (19, .agg #[.int .i64 t558, .int .i64 t559]), (21, .agg #[.int .i64 t560, .int .i64 t561]), (13, .pointer (some ⟨s_.2.2, 0, none⟩))]) (fun s_ w' => (w'.cell? ⟨gb548, 0, none⟩ = some (.slice A0_0 l0_0.length c0_0) ∧ w'.cell? ⟨gb548, 1, none⟩ = some (.slice A0_1 l0_1.length c0_1) ∧ w'.cell? ⟨gb549, 0, none⟩ = some (.int .i64 a1_0) ∧ w'.cell? ⟨gb549, 1, none⟩ = some (.int .i64 a1_1) ∧ w'.cell? ⟨gb550, 0, none⟩ = some (.int .i64 a2_0) ∧ w'.cell? ⟨gb550, 1, none⟩ = some (.int .i64 a2_1) ∧ w'.cell? ⟨gb551, 0, none⟩ = some (.int .i64 a3_0) ∧ w'.cell? ⟨gb551, 1, none⟩ = some (.int .i64 a3_1)) ∧ (Kd.R (Kd.int .i64) 3 w' w.heap.size (fun k_ => some k_ ≠ (s_.2.1 : Value).ownBlock) s_.1 t552) ∧ (Kd.R (Kd.int .i64) 3 w' w.heap.size (fun k_ => some k_ ≠ (s_.1 : Value).ownBlock) s_.2.1 t555) ∧ (w'.heap[gb548]? = some (.cells #[.slice A0_0 l0_0.length c0_0, .slice A0_1 l0_1.length c0_1] 24 (0, 0))) ∧ (w'.heap[gb549]? = some (.cells #[.int .i64 a1_0, .int .i64 a1_1] 26 (0, 0))) ∧ (w'.heap[gb550]? = some (.cells #[.int .i64 a2_0, .int .i64 a2_1] 26 (0, 0))) ∧ (w'.heap[gb551]? = some (.cells #[.int .i64 a3_0, .int .i64 a3_1] 26 (0, 0))) ∧ (w'.heap[s_.2.2]? = some (.cells #[.int .i64 0, .int .i64 0] 28 (0, 0))) ∧ (w.heap.size ≤ s_.2.2) ∧ (w.heap.size ≤ s_.2.2) ∧ (gb548 ≠ s_.2.2) ∧ (s_.2.2 ≠ gb548) ∧ (gb549 ≠ s_.2.2) ∧ (s_.2.2 ≠ gb549) ∧ (gb550 ≠ s_.2.2) ∧ (s_.2.2 ≠ gb550) ∧ (gb551 ≠ s_.2.2) ∧ (s_.2.2 ≠ gb551) ∧ (Below w.heap.size w w')) ?_ ?_
     rotate_left
     ·intro hJ1_3_5_14
      refine join_ (σ := Value × Value) 8 #[true, true, true, true, true, true, true, false, true, true, false, false, false, false, false, false, false] (fun s_ => [(17, .agg #[s_.1, s_.2]), (19, .agg #[.int .i64 t558, .int .i64 t559]), (21, .agg #[.int .i64 t560, .int .i64 t561])]) (fun s_ w' => (w'.cell? ⟨gb548, 0, none⟩ = some (.slice A0_0 l0_0.length c0_0) ∧ w'.cell? ⟨gb548, 1, none⟩ = some (.slice A0_1 l0_1.length c0_1) ∧ w'.cell? ⟨gb549, 0, none⟩ = some (.int .i64 a1_0) ∧ w'.cell? ⟨gb549, 1, none⟩ = some (.int .i64 a1_1) ∧ w'.cell? ⟨gb550, 0, none⟩ = some (.int .i64 a2_0) ∧ w'.cell? ⟨gb550, 1, none⟩ = some (.int .i64 a2_1) ∧ w'.cell? ⟨gb551, 0, none⟩ = some (.int .i64 a3_0) ∧ w'.cell? ⟨gb551, 1, none⟩ = some (.int .i64 a3_1)) ∧ (Kd.R (Kd.int .i64) 3 w' w.heap.size (fun k_ => some k_ ≠ (s_.2 : Value).ownBlock) s_.1 t552) ∧ (Kd.R (Kd.int .i64) 3 w' w.heap.size (fun k_ => some k_ ≠ (s_.1 : Value).ownBlock) s_.2 t555) ∧ (w'.heap[gb548]? = some (.cells #[.slice A0_0 l0_0.length c0_0, .slice A0_1 l0_1.length c0_1] 24 (0, 0))) ∧ (w'.heap[gb549]? = some (.cells #[.int .i64 a1_0, .int .i64 a1_1] 26 (0, 0))) ∧ (w'.heap[gb550]? = some (.cells #[.int .i64 a2_0, .int .i64 a2_1] 26 (0, 0))) ∧ (w'.heap[gb551]? = some (.cells #[.int .i64 a3_0, .int .i64 a3_1] 26 (0, 0))) ∧ (Below w.heap.size w w')) ?_ ?_
      rotate_left
      ·intro hJ1_3_5
       refine join_ (σ := Value × Value × Nat) 8 #[true, true, true, true, true, false, true, false, true, true, false, false, false, false, true, false, false] (fun s_ => [(17, .agg #[s_.1, s_.2.1]), (19, .agg #[.int .i64 t558, .int .i64 t559]), (13, .pointer (some ⟨s_.2.2, 0, none⟩))]) (fun s_ w' => (w'.cell? ⟨gb548, 0, none⟩ = some (.slice A0_0 l0_0.length c0_0) ∧ w'.cell? ⟨gb548, 1, none⟩ = some (.slice A0_1 l0_1.length c0_1) ∧ w'.cell? ⟨gb549, 0, none⟩ = some (.int .i64 a1_0) ∧ w'.cell? ⟨gb549, 1, none⟩ = some (.int .i64 a1_1) ∧ w'.cell? ⟨gb550, 0, none⟩ = some (.int .i64 a2_0) ∧ w'.cell? ⟨gb550, 1, none⟩ = some (.int .i64 a2_1) ∧ w'.cell? ⟨gb551, 0, none⟩ = some (.int .i64 a3_0) ∧ w'.cell? ⟨gb551, 1, none⟩ = some (.int .i64 a3_1)) ∧ (Kd.R (Kd.int .i64) 3 w' w.heap.size (fun k_ => some k_ ≠ (s_.2.1 : Value).ownBlock) s_.1 t552) ∧ (Kd.R (Kd.int .i64) 3 w' w.heap.size (fun k_ => some k_ ≠ (s_.1 : Value).ownBlock) s_.2.1 t555) ∧ (w'.heap[gb548]? = some (.cells #[.slice A0_0 l0_0.length c0_0, .slice A0_1 l0_1.length c0_1] 24 (0, 0))) ∧ (w'.heap[gb549]? = some (.cells #[.int .i64 a1_0, .int .i64 a1_1] 26 (0, 0))) ∧ (w'.heap[gb550]? = some (.cells #[.int .i64 a2_0, .int .i64 a2_1] 26 (0, 0))) ∧ (w'.heap[gb551]? = some (.cells #[.int .i64 a3_0, .int .i64 a3_1] 26 (0, 0))) ∧ (w'.heap[s_.2.2]? = some (.cells #[.int .i64 0, .int .i64 0] 28 (0, 0))) ∧ (w.heap.size ≤ s_.2.2) ∧ (w.heap.size ≤ s_.2.2) ∧ (gb548 ≠ s_.2.2) ∧ (s_.2.2 ≠ gb548) ∧ (gb549 ≠ s_.2.2) ∧ (s_.2.2 ≠ gb549) ∧ (gb550 ≠ s_.2.2) ∧ (s_.2.2 ≠ gb550) ∧ (gb551 ≠ s_.2.2) ∧ (s_.2.2 ≠ gb551) ∧ (Below w.heap.size w w')) ?_ ?_
       rotate_left
       ·intro hJ1_3_14
        refine join_ (σ := Value × Value) 9 #[true, true, true, true, true, false, true, false, true, true, false, false, false, false, false, false, false] (fun s_ => [(17, .agg #[s_.1, s_.2]), (19, .agg #[.int .i64 t558, .int .i64 t559])]) (fun s_ w' => (w'.cell? ⟨gb548, 0, none⟩ = some (.slice A0_0 l0_0.length c0_0) ∧ w'.cell? ⟨gb548, 1, none⟩ = some (.slice A0_1 l0_1.length c0_1) ∧ w'.cell? ⟨gb549, 0, none⟩ = some (.int .i64 a1_0) ∧ w'.cell? ⟨gb549, 1, none⟩ = some (.int .i64 a1_1) ∧ w'.cell? ⟨gb550, 0, none⟩ = some (.int .i64 a2_0) ∧ w'.cell? ⟨gb550, 1, none⟩ = some (.int .i64 a2_1) ∧ w'.cell? ⟨gb551, 0, none⟩ = some (.int .i64 a3_0) ∧ w'.cell? ⟨gb551, 1, none⟩ = some (.int .i64 a3_1)) ∧ (Kd.R (Kd.int .i64) 3 w' w.heap.size (fun k_ => some k_ ≠ (s_.2 : Value).ownBlock) s_.1 t552) ∧ (Kd.R (Kd.int .i64) 3 w' w.heap.size (fun k_ => some k_ ≠ (s_.1 : Value).ownBlock) s_.2 t555) ∧ (w'.heap[gb548]? = some (.cells #[.slice A0_0 l0_0.length c0_0, .slice A0_1 l0_1.length c0_1] 24 (0, 0))) ∧ (w'.heap[gb549]? = some (.cells #[.int .i64 a1_0, .int .i64 a1_1] 26 (0, 0))) ∧ (w'.heap[gb550]? = some (.cells #[.int .i64 a2_0, .int .i64 a2_1] 26 (0, 0))) ∧ (w'.heap[gb551]? = some (.cells #[.int .i64 a3_0, .int .i64 a3_1] 26 (0, 0))) ∧ (Below w.heap.size w w')) ?_ ?_
        rotate_left
        ·intro hJ1_3
         refine join_ (σ := Value × Value × Nat) 9 #[true, true, true, false, true, false, true, false, true, true, false, false, false, false, true, false, false] (fun s_ => [(17, .agg #[s_.1, s_.2.1]), (13, .pointer (some ⟨s_.2.2, 0, none⟩))]) (fun s_ w' => (w'.cell? ⟨gb548, 0, none⟩ = some (.slice A0_0 l0_0.length c0_0) ∧ w'.cell? ⟨gb548, 1, none⟩ = some (.slice A0_1 l0_1.length c0_1) ∧ w'.cell? ⟨gb549, 0, none⟩ = some (.int .i64 a1_0) ∧ w'.cell? ⟨gb549, 1, none⟩ = some (.int .i64 a1_1) ∧ w'.cell? ⟨gb550, 0, none⟩ = some (.int .i64 a2_0) ∧ w'.cell? ⟨gb550, 1, none⟩ = some (.int .i64 a2_1) ∧ w'.cell? ⟨gb551, 0, none⟩ = some (.int .i64 a3_0) ∧ w'.cell? ⟨gb551, 1, none⟩ = some (.int .i64 a3_1)) ∧ (Kd.R (Kd.int .i64) 3 w' w.heap.size (fun k_ => some k_ ≠ (s_.2.1 : Value).ownBlock) s_.1 t552) ∧ (Kd.R (Kd.int .i64) 3 w' w.heap.size (fun k_ => some k_ ≠ (s_.1 : Value).ownBlock) s_.2.1 t555) ∧ (w'.heap[gb548]? = some (.cells #[.slice A0_0 l0_0.length c0_0, .slice A0_1 l0_1.length c0_1] 24 (0, 0))) ∧ (w'.heap[gb549]? = some (.cells #[.int .i64 a1_0, .int .i64 a1_1] 26 (0, 0))) ∧ (w'.heap[gb550]? = some (.cells #[.int .i64 a2_0, .int .i64 a2_1] 26 (0, 0))) ∧ (w'.heap[gb551]? = some (.cells #[.int .i64 a3_0, .int .i64 a3_1] 26 (0, 0))) ∧ (w'.heap[s_.2.2]? = some (.cells #[.int .i64 0, .int .i64 0] 28 (0, 0))) ∧ (w.heap.size ≤ s_.2.2) ∧ (w.heap.size ≤ s_.2.2) ∧ (gb548 ≠ s_.2.2) ∧ (s_.2.2 ≠ gb548) ∧ (gb549 ≠ s_.2.2) ∧ (s_.2.2 ≠ gb549) ∧ (gb550 ≠ s_.2.2) ∧ (s_.2.2 ≠ gb550) ∧ (gb551 ≠ s_.2.2) ∧ (s_.2.2 ≠ gb551) ∧ (Below w.heap.size w w')) ?_ ?_
         rotate_left
         ·intro hJ1_14
          refine join_ (σ := Value × Value) 10 #[true, true, true, false, true, false, true, false, true, true, false, false, false, false, false, false, false] (fun s_ => [(17, .agg #[s_.1, s_.2])]) (fun s_ w' => (w'.cell? ⟨gb548, 0, none⟩ = some (.slice A0_0 l0_0.length c0_0) ∧ w'.cell? ⟨gb548, 1, none⟩ = some (.slice A0_1 l0_1.length c0_1) ∧ w'.cell? ⟨gb549, 0, none⟩ = some (.int .i64 a1_0) ∧ w'.cell? ⟨gb549, 1, none⟩ = some (.int .i64 a1_1) ∧ w'.cell? ⟨gb550, 0, none⟩ = some (.int .i64 a2_0) ∧ w'.cell? ⟨gb550, 1, none⟩ = some (.int .i64 a2_1) ∧ w'.cell? ⟨gb551, 0, none⟩ = some (.int .i64 a3_0) ∧ w'.cell? ⟨gb551, 1, none⟩ = some (.int .i64 a3_1)) ∧ (Kd.R (Kd.int .i64) 3 w' w.heap.size (fun k_ => some k_ ≠ (s_.2 : Value).ownBlock) s_.1 t552) ∧ (Kd.R (Kd.int .i64) 3 w' w.heap.size (fun k_ => some k_ ≠ (s_.1 : Value).ownBlock) s_.2 t555) ∧ (w'.heap[gb548]? = some (.cells #[.slice A0_0 l0_0.length c0_0, .slice A0_1 l0_1.length c0_1] 24 (0, 0))) ∧ (w'.heap[gb549]? = some (.cells #[.int .i64 a1_0, .int .i64 a1_1] 26 (0, 0))) ∧ (w'.heap[gb550]? = some (.cells #[.int .i64 a2_0, .int .i64 a2_1] 26 (0, 0))) ∧ (w'.heap[gb551]? = some (.cells #[.int .i64 a3_0, .int .i64 a3_1] 26 (0, 0))) ∧ (Below w.heap.size w w')) ?_ ?_
          rotate_left
          ·intro hJ1
           refine join_ (σ := Nat) 10 #[true, false, true, false, true, false, true, false, true, true, false, false, false, false, true, false, false] (fun s_ => [(13, .pointer (some ⟨s_, 0, none⟩))]) (fun s_ w' => (w'.cell? ⟨gb548, 0, none⟩ = some (.slice A0_0 l0_0.length c0_0) ∧ w'.cell? ⟨gb548, 1, none⟩ = some (.slice A0_1 l0_1.length c0_1) ∧ w'.cell? ⟨gb549, 0, none⟩ = some (.int .i64 a1_0) ∧ w'.cell? ⟨gb549, 1, none⟩ = some (.int .i64 a1_1) ∧ w'.cell? ⟨gb550, 0, none⟩ = some (.int .i64 a2_0) ∧ w'.cell? ⟨gb550, 1, none⟩ = some (.int .i64 a2_1) ∧ w'.cell? ⟨gb551, 0, none⟩ = some (.int .i64 a3_0) ∧ w'.cell? ⟨gb551, 1, none⟩ = some (.int .i64 a3_1)) ∧ (w'.heap[gb548]? = some (.cells #[.slice A0_0 l0_0.length c0_0, .slice A0_1 l0_1.length c0_1] 24 (0, 0))) ∧ (w'.heap[gb549]? = some (.cells #[.int .i64 a1_0, .int .i64 a1_1] 26 (0, 0))) ∧ (w'.heap[gb550]? = some (.cells #[.int .i64 a2_0, .int .i64 a2_1] 26 (0, 0))) ∧ (w'.heap[gb551]? = some (.cells #[.int .i64 a3_0, .int .i64 a3_1] 26 (0, 0))) ∧ (w'.heap[s_]? = some (.cells #[.int .i64 0, .int .i64 0] 28 (0, 0))) ∧ (w.heap.size ≤ s_) ∧ (w.heap.size ≤ s_) ∧ (gb548 ≠ s_) ∧ (s_ ≠ gb548) ∧ (gb549 ≠ s_) ∧ (s_ ≠ gb549) ∧ (gb550 ≠ s_) ∧ (s_ ≠ gb550) ∧ (gb551 ≠ s_) ∧ (s_ ≠ gb551) ∧ (Below w.heap.size w w')) ?_ ?_
           rotate_left
           ·intro hJ14
            refine two_ (i := 1) (j := 14) (Ni := some 17) (Nj := some 13) #[true, true, true, false, true, false, true, false, true, true, false, false, false, false, false, false, false] #[true, false, true, false, true, false, true, false, true, true, false, false, false, false, true, false, false] rfl rfl rfl rfl (two_of HT_.out (by kernel_rfl)) (by decide) (by decide) (fun K hK => ?_) (fun K hK => ?_)
            ·skip
             refine goes_ Try.func20 (by kernel_rfl) rfl #[.agg #[.slice A0_0 l0_0.length c0_0, .slice A0_1 l0_1.length c0_1]] (by rfl) rfl rfl al_ ?_
             with_reducible refine (comfitlaw02_Of.calls _ _ l0_0 _ _ l0_1 t552 t555 _ ?side1 ?side2 ?side3 ?side4 A7.out).mono ?_
             (case side1 => exact kc_ (Kd.C_below HR0_0.out HB.out))
             (case side2 => exact HC0_0.out)
             (case side3 => exact kc_ (Kd.C_below HR0_1.out HB.out))
             (case side4 => exact HC0_1.out)
             rintro e w18 ⟨v553, v556, rfl, ho0, ho1, hb⟩
             refine ⟨_, rfl, ?_⟩
             have n0_ := Aside0.mk (Kd.R_lower ho0 (below_size (hb_ HB.out)))
             have n1_ := Aside0.mk (Kd.R_lower ho1 (below_size (hb_ HB.out)))
             have n2_ := Aside0.mk (bkb_ BK548.out hb)
             have n3_ := Aside0.mk (bkb_ BK549.out hb)
             have n4_ := Aside0.mk (bkb_ BK550.out hb)
             have n5_ := Aside0.mk (bkb_ BK551.out hb)
             have n6_ := Aside0.mk (below_step (hb_ HB.out) hb)
             clear BK548
             clear BK549
             clear BK550
             clear BK551
             clear HB
             have HO554 := n0_
             have HO557 := n1_
             have BK548 := n2_
             have BK549 := n3_
             have BK550 := n4_
             have BK551 := n5_
             have HB := n6_
             clear n0_ n1_ n2_ n3_ n4_ n5_ n6_
             (try clear hb)
             (try clear hb2)
             (try clear hk)
             (try clear hi)
             (try clear ho0)
             (try clear ho1)
             refine hK.out _ _ ⟨(blk_cell BK548.out 0).trans rfl, (blk_cell BK548.out 1).trans rfl, (blk_cell BK549.out 0).trans rfl, (blk_cell BK549.out 1).trans rfl, (blk_cell BK550.out 0).trans rfl, (blk_cell BK550.out 1).trans rfl, (blk_cell BK551.out 0).trans rfl, (blk_cell BK551.out 1).trans rfl⟩ (fun hHeld => ?_)
             clear hK K
             refine norm_ (a' := ?_) ?_ ?_
             rotate_left
             ·show Act.put _ (some 17) _ = _
              simp only [Act.put, List.setIfInBounds_toArray, List.set_cons_zero, List.set_cons_succ, i64_w, i32_w]
              rfl
             exact norm_ (by first | (simp only [putAll, Act.put, List.setIfInBounds_toArray, List.set_cons_zero, List.set_cons_succ]; done) | (simp only [putAll, Act.put, List.setIfInBounds_toArray, List.set_cons_zero, List.set_cons_succ]; rfl)) (hJ1 (v553, v556) _ ⟨hHeld, (kr_ (HO554.out)), (kr_ (HO557.out)), (bk_ BK548.out), (bk_ BK549.out), (bk_ BK550.out), (bk_ BK551.out), (hb_ HB.out)⟩)
            ·skip
             refine box_step ?hg (N := 13) ?hd (cs := #[.int .i64 0, .int .i64 0]) (t := 28) ?hr ?_; (case hd => rfl); (case hg => rfl); (case hr => first | (go_simp; done) | (go_simp; rfl))
             intro gb567 hg w18 hbox hb
             have n0_ := Aside0.mk (bkb_ BK548.out hb)
             have n1_ := Aside0.mk (bkb_ BK549.out hb)
             have n2_ := Aside0.mk (bkb_ BK550.out hb)
             have n3_ := Aside0.mk (bkb_ BK551.out hb)
             have n4_ := Aside0.mk (below_step (hb_ HB.out) hb)
             have n5_ := Aside0.mk (hbox)
             have n6_ := Aside0.mk ((by rw [hg]; exact (below_size (hb_ HB.out)) : w.heap.size ≤ gb567))
             have n7_ := Aside0.mk ((by rw [hg]; exact (below_size (hb_ HB.out)) : w.heap.size ≤ gb567))
             have n8_ := Aside0.mk ((by rw [hg]; exact Nat.ne_of_lt (bkl_ BK548.out) : gb548 ≠ gb567))
             have n9_ := Aside0.mk ((by rw [hg]; exact Nat.ne_of_gt (bkl_ BK548.out) : gb567 ≠ gb548))
             have n10_ := Aside0.mk ((by rw [hg]; exact Nat.ne_of_lt (bkl_ BK549.out) : gb549 ≠ gb567))
             have n11_ := Aside0.mk ((by rw [hg]; exact Nat.ne_of_gt (bkl_ BK549.out) : gb567 ≠ gb549))
             have n12_ := Aside0.mk ((by rw [hg]; exact Nat.ne_of_lt (bkl_ BK550.out) : gb550 ≠ gb567))
             have n13_ := Aside0.mk ((by rw [hg]; exact Nat.ne_of_gt (bkl_ BK550.out) : gb567 ≠ gb550))
             have n14_ := Aside0.mk ((by rw [hg]; exact Nat.ne_of_lt (bkl_ BK551.out) : gb551 ≠ gb567))
             have n15_ := Aside0.mk ((by rw [hg]; exact Nat.ne_of_gt (bkl_ BK551.out) : gb567 ≠ gb551))
             clear BK548
             clear BK549
             clear BK550
             clear BK551
             clear HB
             have BK548 := n0_
             have BK549 := n1_
             have BK550 := n2_
             have BK551 := n3_
             have HB := n4_
             have BK567 := n5_
             have GW567 := n6_
             have GE567 := n7_
             have NB548_567 := n8_
             have NB567_548 := n9_
             have NB549_567 := n10_
             have NB567_549 := n11_
             have NB550_567 := n12_
             have NB567_550 := n13_
             have NB551_567 := n14_
             have NB567_551 := n15_
             clear n0_ n1_ n2_ n3_ n4_ n5_ n6_ n7_ n8_ n9_ n10_ n11_ n12_ n13_ n14_ n15_
             clear hb hbox hg
             refine hK.out _ _ ⟨(blk_cell BK548.out 0).trans rfl, (blk_cell BK548.out 1).trans rfl, (blk_cell BK549.out 0).trans rfl, (blk_cell BK549.out 1).trans rfl, (blk_cell BK550.out 0).trans rfl, (blk_cell BK550.out 1).trans rfl, (blk_cell BK551.out 0).trans rfl, (blk_cell BK551.out 1).trans rfl⟩ (fun hHeld => ?_)
             clear hK K
             refine norm_ (a' := ?_) ?_ ?_
             rotate_left
             ·show Act.put _ (some 13) _ = _
              simp only [Act.put, List.setIfInBounds_toArray, List.set_cons_zero, List.set_cons_succ, i64_w, i32_w]
              rfl
             exact norm_ (by first | (simp only [putAll, Act.put, List.setIfInBounds_toArray, List.set_cons_zero, List.set_cons_succ]; done) | (simp only [putAll, Act.put, List.setIfInBounds_toArray, List.set_cons_zero, List.set_cons_succ]; rfl)) (hJ14 (gb567) _ ⟨hHeld, (bk_ BK548.out), (bk_ BK549.out), (bk_ BK550.out), (bk_ BK551.out), (bk_ BK567.out), GW567.out, GE567.out, NB548_567.out, NB567_548.out, NB549_567.out, NB567_549.out, NB550_567.out, NB567_550.out, NB551_567.out, NB567_551.out, (hb_ HB.out)⟩)
           ·skip
            rintro gb567 w19 ⟨hS_, h0_, h1_, h2_, h3_, h4_, h5_, h6_, h7_, h8_, h9_, h10_, h11_, h12_, h13_, h14_, h15_⟩
            have n0_ : Aside0 (w19.heap[gb548]? = some (.cells #[.slice A0_0 l0_0.length c0_0, .slice A0_1 l0_1.length c0_1] 24 (0, 0))) := ⟨h0_⟩
            have n1_ : Aside0 (w19.heap[gb549]? = some (.cells #[.int .i64 a1_0, .int .i64 a1_1] 26 (0, 0))) := ⟨h1_⟩
            have n2_ : Aside0 (w19.heap[gb550]? = some (.cells #[.int .i64 a2_0, .int .i64 a2_1] 26 (0, 0))) := ⟨h2_⟩
            have n3_ : Aside0 (w19.heap[gb551]? = some (.cells #[.int .i64 a3_0, .int .i64 a3_1] 26 (0, 0))) := ⟨h3_⟩
            have n4_ : Aside0 (w19.heap[gb567]? = some (.cells #[.int .i64 0, .int .i64 0] 28 (0, 0))) := ⟨h4_⟩
            have n5_ : Aside0 (w.heap.size ≤ gb567) := ⟨h5_⟩
            have n6_ : Aside0 (w.heap.size ≤ gb567) := ⟨h6_⟩
            have n7_ : Aside0 (gb548 ≠ gb567) := ⟨h7_⟩
            have n8_ : Aside0 (gb567 ≠ gb548) := ⟨h8_⟩
            have n9_ : Aside0 (gb549 ≠ gb567) := ⟨h9_⟩
            have n10_ : Aside0 (gb567 ≠ gb549) := ⟨h10_⟩
            have n11_ : Aside0 (gb550 ≠ gb567) := ⟨h11_⟩
            have n12_ : Aside0 (gb567 ≠ gb550) := ⟨h12_⟩
            have n13_ : Aside0 (gb551 ≠ gb567) := ⟨h13_⟩
            have n14_ : Aside0 (gb567 ≠ gb551) := ⟨h14_⟩
            have n15_ : Aside0 (Below w.heap.size w w19) := ⟨h15_⟩
            clear BK548
            clear BK549
            clear BK550
            clear BK551
            clear HB
            clear h0_ h1_ h2_ h3_ h4_ h5_ h6_ h7_ h8_ h9_ h10_ h11_ h12_ h13_ h14_ h15_
            have BK548 := n0_
            have BK549 := n1_
            have BK550 := n2_
            have BK551 := n3_
            have BK567 := n4_
            have GW567 := n5_
            have GE567 := n6_
            have NB548_567 := n7_
            have NB567_548 := n8_
            have NB549_567 := n9_
            have NB567_549 := n10_
            have NB550_567 := n11_
            have NB567_550 := n12_
            have NB551_567 := n13_
            have NB567_551 := n14_
            have HB := n15_
            clear n0_ n1_ n2_ n3_ n4_ n5_ n6_ n7_ n8_ n9_ n10_ n11_ n12_ n13_ n14_ n15_
            have hHeld : w19.cell? ⟨gb548, 0, none⟩ = some (.slice A0_0 l0_0.length c0_0) ∧ w19.cell? ⟨gb548, 1, none⟩ = some (.slice A0_1 l0_1.length c0_1) ∧ w19.cell? ⟨gb549, 0, none⟩ = some (.int .i64 a1_0) ∧ w19.cell? ⟨gb549, 1, none⟩ = some (.int .i64 a1_1) ∧ w19.cell? ⟨gb550, 0, none⟩ = some (.int .i64 a2_0) ∧ w19.cell? ⟨gb550, 1, none⟩ = some (.int .i64 a2_1) ∧ w19.cell? ⟨gb551, 0, none⟩ = some (.int .i64 a3_0) ∧ w19.cell? ⟨gb551, 1, none⟩ = some (.int .i64 a3_1) := hS_
            refine norm_ (a' := ?_) ?_ ?_
            rotate_left
            ·simp only [putAll, Act.put, List.setIfInBounds_toArray, List.set_cons_zero, List.set_cons_succ]
             rfl
            refine one_ (i := 1) (N := some 17) #[true, true, true, false, true, false, true, false, true, true, false, false, false, false, true, false, false] rfl rfl (one_of HT_.out (by kernel_rfl)) (by decide) (fun K hK => ?_)
            refine goes_ Try.func20 (by kernel_rfl) rfl #[.agg #[.slice A0_0 l0_0.length c0_0, .slice A0_1 l0_1.length c0_1]] (by rfl) rfl rfl al_ ?_
            with_reducible refine (comfitlaw02_Of.calls _ _ l0_0 _ _ l0_1 t552 t555 _ ?side1 ?side2 ?side3 ?side4 A7.out).mono ?_
            (case side1 => exact kc_ (Kd.C_below HR0_0.out HB.out))
            (case side2 => exact HC0_0.out)
            (case side3 => exact kc_ (Kd.C_below HR0_1.out HB.out))
            (case side4 => exact HC0_1.out)
            rintro e w20 ⟨v553, v556, rfl, ho0, ho1, hb⟩
            refine ⟨_, rfl, ?_⟩
            have n0_ := Aside0.mk (Kd.R_lower ho0 (below_size (hb_ HB.out)))
            have n1_ := Aside0.mk (Kd.R_lower ho1 (below_size (hb_ HB.out)))
            have n2_ := Aside0.mk (bkb_ BK548.out hb)
            have n3_ := Aside0.mk (bkb_ BK549.out hb)
            have n4_ := Aside0.mk (bkb_ BK550.out hb)
            have n5_ := Aside0.mk (bkb_ BK551.out hb)
            have n6_ := Aside0.mk (bkb_ BK567.out hb)
            have n7_ := Aside0.mk (below_step (hb_ HB.out) hb)
            clear BK548
            clear BK549
            clear BK550
            clear BK551
            clear BK567
            clear HB
            have HO554 := n0_
            have HO557 := n1_
            have BK548 := n2_
            have BK549 := n3_
            have BK550 := n4_
            have BK551 := n5_
            have BK567 := n6_
            have HB := n7_
            clear n0_ n1_ n2_ n3_ n4_ n5_ n6_ n7_
            (try clear hb)
            (try clear hb2)
            (try clear hk)
            (try clear hi)
            (try clear ho0)
            (try clear ho1)
            refine hK.out _ _ ⟨(blk_cell BK548.out 0).trans rfl, (blk_cell BK548.out 1).trans rfl, (blk_cell BK549.out 0).trans rfl, (blk_cell BK549.out 1).trans rfl, (blk_cell BK550.out 0).trans rfl, (blk_cell BK550.out 1).trans rfl, (blk_cell BK551.out 0).trans rfl, (blk_cell BK551.out 1).trans rfl⟩ (fun hHeld => ?_)
            clear hK K
            refine norm_ (a' := ?_) ?_ ?_
            rotate_left
            ·show Act.put _ (some 17) _ = _
             simp only [Act.put, List.setIfInBounds_toArray, List.set_cons_zero, List.set_cons_succ, i64_w, i32_w]
             rfl
            exact norm_ (by first | (simp only [putAll, Act.put, List.setIfInBounds_toArray, List.set_cons_zero, List.set_cons_succ]; done) | (simp only [putAll, Act.put, List.setIfInBounds_toArray, List.set_cons_zero, List.set_cons_succ]; rfl)) (hJ1_14 (v553, v556, gb567) _ ⟨hHeld, (kr_ (HO554.out)), (kr_ (HO557.out)), (bk_ BK548.out), (bk_ BK549.out), (bk_ BK550.out), (bk_ BK551.out), (bk_ BK567.out), GW567.out, GE567.out, NB548_567.out, NB567_548.out, NB549_567.out, NB567_549.out, NB550_567.out, NB567_550.out, NB551_567.out, NB567_551.out, (hb_ HB.out)⟩)
          ·skip
           rintro ⟨v553, v556⟩ w19 ⟨hS_, h0_, h1_, h2_, h3_, h4_, h5_, h6_⟩
           have n0_ : Aside0 (Kd.R (Kd.int .i64) 3 w19 w.heap.size (fun k_ => some k_ ≠ (v556 : Value).ownBlock) v553 t552) := ⟨h0_⟩
           have n1_ : Aside0 (Kd.R (Kd.int .i64) 3 w19 w.heap.size (fun k_ => some k_ ≠ (v553 : Value).ownBlock) v556 t555) := ⟨h1_⟩
           have n2_ : Aside0 (w19.heap[gb548]? = some (.cells #[.slice A0_0 l0_0.length c0_0, .slice A0_1 l0_1.length c0_1] 24 (0, 0))) := ⟨h2_⟩
           have n3_ : Aside0 (w19.heap[gb549]? = some (.cells #[.int .i64 a1_0, .int .i64 a1_1] 26 (0, 0))) := ⟨h3_⟩
           have n4_ : Aside0 (w19.heap[gb550]? = some (.cells #[.int .i64 a2_0, .int .i64 a2_1] 26 (0, 0))) := ⟨h4_⟩
           have n5_ : Aside0 (w19.heap[gb551]? = some (.cells #[.int .i64 a3_0, .int .i64 a3_1] 26 (0, 0))) := ⟨h5_⟩
           have n6_ : Aside0 (Below w.heap.size w w19) := ⟨h6_⟩
           clear BK548
           clear BK549
           clear BK550
           clear BK551
           clear HB
           clear h0_ h1_ h2_ h3_ h4_ h5_ h6_
           have HO554 := n0_
           have HO557 := n1_
           have BK548 := n2_
           have BK549 := n3_
           have BK550 := n4_
           have BK551 := n5_
           have HB := n6_
           clear n0_ n1_ n2_ n3_ n4_ n5_ n6_
           have hHeld : w19.cell? ⟨gb548, 0, none⟩ = some (.slice A0_0 l0_0.length c0_0) ∧ w19.cell? ⟨gb548, 1, none⟩ = some (.slice A0_1 l0_1.length c0_1) ∧ w19.cell? ⟨gb549, 0, none⟩ = some (.int .i64 a1_0) ∧ w19.cell? ⟨gb549, 1, none⟩ = some (.int .i64 a1_1) ∧ w19.cell? ⟨gb550, 0, none⟩ = some (.int .i64 a2_0) ∧ w19.cell? ⟨gb550, 1, none⟩ = some (.int .i64 a2_1) ∧ w19.cell? ⟨gb551, 0, none⟩ = some (.int .i64 a3_0) ∧ w19.cell? ⟨gb551, 1, none⟩ = some (.int .i64 a3_1) := hS_
           refine norm_ (a' := ?_) ?_ ?_
           rotate_left
           ·simp only [putAll, Act.put, List.setIfInBounds_toArray, List.set_cons_zero, List.set_cons_succ]
            rfl
           refine two_ (i := 3) (j := 14) (Ni := some 19) (Nj := some 13) #[true, true, true, true, true, false, true, false, true, true, false, false, false, false, false, false, false] #[true, true, true, false, true, false, true, false, true, true, false, false, false, false, true, false, false] rfl rfl rfl rfl (two_of HT_.out (by kernel_rfl)) (by decide) (by decide) (fun K hK => ?_) (fun K hK => ?_)
           ·skip
            refine goes_ Try.func21 (by kernel_rfl) rfl #[.agg #[.int .i64 a1_0, .int .i64 a1_1]] (by rfl) rfl rfl al_ ?_
            with_reducible refine (comfitlaw02_chance.calls a1_0 a1_1 t558 t559 _ A8.out).mono ?_
            rintro e w20 ⟨rfl, hb⟩
            refine ⟨_, rfl, ?_⟩
            have n0_ := Aside0.mk (Kd.R_below (kr_ (HO554.out)) hb)
            have n1_ := Aside0.mk (Kd.R_below (kr_ (HO557.out)) hb)
            have n2_ := Aside0.mk (bkb_ BK548.out hb)
            have n3_ := Aside0.mk (bkb_ BK549.out hb)
            have n4_ := Aside0.mk (bkb_ BK550.out hb)
            have n5_ := Aside0.mk (bkb_ BK551.out hb)
            have n6_ := Aside0.mk (below_step (hb_ HB.out) hb)
            clear HO554
            clear HO557
            clear BK548
            clear BK549
            clear BK550
            clear BK551
            clear HB
            have HO554 := n0_
            have HO557 := n1_
            have BK548 := n2_
            have BK549 := n3_
            have BK550 := n4_
            have BK551 := n5_
            have HB := n6_
            clear n0_ n1_ n2_ n3_ n4_ n5_ n6_
            (try clear hb)
            (try clear hb2)
            (try clear hk)
            (try clear hi)
            refine hK.out _ _ ⟨(blk_cell BK548.out 0).trans rfl, (blk_cell BK548.out 1).trans rfl, (blk_cell BK549.out 0).trans rfl, (blk_cell BK549.out 1).trans rfl, (blk_cell BK550.out 0).trans rfl, (blk_cell BK550.out 1).trans rfl, (blk_cell BK551.out 0).trans rfl, (blk_cell BK551.out 1).trans rfl⟩ (fun hHeld => ?_)
            clear hK K
            refine norm_ (a' := ?_) ?_ ?_
            rotate_left
            ·show Act.put _ (some 19) _ = _
             simp only [Act.put, List.setIfInBounds_toArray, List.set_cons_zero, List.set_cons_succ, i64_w, i32_w]
             rfl
            exact norm_ (by first | (simp only [putAll, Act.put, List.setIfInBounds_toArray, List.set_cons_zero, List.set_cons_succ]; done) | (simp only [putAll, Act.put, List.setIfInBounds_toArray, List.set_cons_zero, List.set_cons_succ]; rfl)) (hJ1_3 (v553, v556) _ ⟨hHeld, (kr_ (HO554.out)), (kr_ (HO557.out)), (bk_ BK548.out), (bk_ BK549.out), (bk_ BK550.out), (bk_ BK551.out), (hb_ HB.out)⟩)
           ·skip
            refine box_step ?hg (N := 13) ?hd (cs := #[.int .i64 0, .int .i64 0]) (t := 28) ?hr ?_; (case hd => rfl); (case hg => rfl); (case hr => first | (go_simp; done) | (go_simp; rfl))
            intro gb567 hg w20 hbox hb
            have n0_ := Aside0.mk (Kd.R_below (kr_ (HO554.out)) hb)
            have n1_ := Aside0.mk (Kd.R_below (kr_ (HO557.out)) hb)
            have n2_ := Aside0.mk (bkb_ BK548.out hb)
            have n3_ := Aside0.mk (bkb_ BK549.out hb)
            have n4_ := Aside0.mk (bkb_ BK550.out hb)
            have n5_ := Aside0.mk (bkb_ BK551.out hb)
            have n6_ := Aside0.mk (below_step (hb_ HB.out) hb)
            have n7_ := Aside0.mk (hbox)
            have n8_ := Aside0.mk ((by rw [hg]; exact (below_size (hb_ HB.out)) : w.heap.size ≤ gb567))
            have n9_ := Aside0.mk ((by rw [hg]; exact (below_size (hb_ HB.out)) : w.heap.size ≤ gb567))
            have n10_ := Aside0.mk ((by rw [hg]; exact Nat.ne_of_lt (bkl_ BK548.out) : gb548 ≠ gb567))
            have n11_ := Aside0.mk ((by rw [hg]; exact Nat.ne_of_gt (bkl_ BK548.out) : gb567 ≠ gb548))
            have n12_ := Aside0.mk ((by rw [hg]; exact Nat.ne_of_lt (bkl_ BK549.out) : gb549 ≠ gb567))
            have n13_ := Aside0.mk ((by rw [hg]; exact Nat.ne_of_gt (bkl_ BK549.out) : gb567 ≠ gb549))
            have n14_ := Aside0.mk ((by rw [hg]; exact Nat.ne_of_lt (bkl_ BK550.out) : gb550 ≠ gb567))
            have n15_ := Aside0.mk ((by rw [hg]; exact Nat.ne_of_gt (bkl_ BK550.out) : gb567 ≠ gb550))
            have n16_ := Aside0.mk ((by rw [hg]; exact Nat.ne_of_lt (bkl_ BK551.out) : gb551 ≠ gb567))
            have n17_ := Aside0.mk ((by rw [hg]; exact Nat.ne_of_gt (bkl_ BK551.out) : gb567 ≠ gb551))
            clear HO554
            clear HO557
            clear BK548
            clear BK549
            clear BK550
            clear BK551
            clear HB
            have HO554 := n0_
            have HO557 := n1_
            have BK548 := n2_
            have BK549 := n3_
            have BK550 := n4_
            have BK551 := n5_
            have HB := n6_
            have BK567 := n7_
            have GW567 := n8_
            have GE567 := n9_
            have NB548_567 := n10_
            have NB567_548 := n11_
            have NB549_567 := n12_
            have NB567_549 := n13_
            have NB550_567 := n14_
            have NB567_550 := n15_
            have NB551_567 := n16_
            have NB567_551 := n17_
            clear n0_ n1_ n2_ n3_ n4_ n5_ n6_ n7_ n8_ n9_ n10_ n11_ n12_ n13_ n14_ n15_ n16_ n17_
            clear hb hbox hg
            refine hK.out _ _ ⟨(blk_cell BK548.out 0).trans rfl, (blk_cell BK548.out 1).trans rfl, (blk_cell BK549.out 0).trans rfl, (blk_cell BK549.out 1).trans rfl, (blk_cell BK550.out 0).trans rfl, (blk_cell BK550.out 1).trans rfl, (blk_cell BK551.out 0).trans rfl, (blk_cell BK551.out 1).trans rfl⟩ (fun hHeld => ?_)
            clear hK K
            refine norm_ (a' := ?_) ?_ ?_
            rotate_left
            ·show Act.put _ (some 13) _ = _
             simp only [Act.put, List.setIfInBounds_toArray, List.set_cons_zero, List.set_cons_succ, i64_w, i32_w]
             rfl
            exact norm_ (by first | (simp only [putAll, Act.put, List.setIfInBounds_toArray, List.set_cons_zero, List.set_cons_succ]; done) | (simp only [putAll, Act.put, List.setIfInBounds_toArray, List.set_cons_zero, List.set_cons_succ]; rfl)) (hJ1_14 (v553, v556, gb567) _ ⟨hHeld, (kr_ (HO554.out)), (kr_ (HO557.out)), (bk_ BK548.out), (bk_ BK549.out), (bk_ BK550.out), (bk_ BK551.out), (bk_ BK567.out), GW567.out, GE567.out, NB548_567.out, NB567_548.out, NB549_567.out, NB567_549.out, NB550_567.out, NB567_550.out, NB551_567.out, NB567_551.out, (hb_ HB.out)⟩)
         ·skip
          rintro ⟨v553, v556, gb567⟩ w20 ⟨hS_, h0_, h1_, h2_, h3_, h4_, h5_, h6_, h7_, h8_, h9_, h10_, h11_, h12_, h13_, h14_, h15_, h16_, h17_⟩
          have n0_ : Aside0 (Kd.R (Kd.int .i64) 3 w20 w.heap.size (fun k_ => some k_ ≠ (v556 : Value).ownBlock) v553 t552) := ⟨h0_⟩
          have n1_ : Aside0 (Kd.R (Kd.int .i64) 3 w20 w.heap.size (fun k_ => some k_ ≠ (v553 : Value).ownBlock) v556 t555) := ⟨h1_⟩
          have n2_ : Aside0 (w20.heap[gb548]? = some (.cells #[.slice A0_0 l0_0.length c0_0, .slice A0_1 l0_1.length c0_1] 24 (0, 0))) := ⟨h2_⟩
          have n3_ : Aside0 (w20.heap[gb549]? = some (.cells #[.int .i64 a1_0, .int .i64 a1_1] 26 (0, 0))) := ⟨h3_⟩
          have n4_ : Aside0 (w20.heap[gb550]? = some (.cells #[.int .i64 a2_0, .int .i64 a2_1] 26 (0, 0))) := ⟨h4_⟩
          have n5_ : Aside0 (w20.heap[gb551]? = some (.cells #[.int .i64 a3_0, .int .i64 a3_1] 26 (0, 0))) := ⟨h5_⟩
          have n6_ : Aside0 (w20.heap[gb567]? = some (.cells #[.int .i64 0, .int .i64 0] 28 (0, 0))) := ⟨h6_⟩
          have n7_ : Aside0 (w.heap.size ≤ gb567) := ⟨h7_⟩
          have n8_ : Aside0 (w.heap.size ≤ gb567) := ⟨h8_⟩
          have n9_ : Aside0 (gb548 ≠ gb567) := ⟨h9_⟩
          have n10_ : Aside0 (gb567 ≠ gb548) := ⟨h10_⟩
          have n11_ : Aside0 (gb549 ≠ gb567) := ⟨h11_⟩
          have n12_ : Aside0 (gb567 ≠ gb549) := ⟨h12_⟩
          have n13_ : Aside0 (gb550 ≠ gb567) := ⟨h13_⟩
          have n14_ : Aside0 (gb567 ≠ gb550) := ⟨h14_⟩
          have n15_ : Aside0 (gb551 ≠ gb567) := ⟨h15_⟩
          have n16_ : Aside0 (gb567 ≠ gb551) := ⟨h16_⟩
          have n17_ : Aside0 (Below w.heap.size w w20) := ⟨h17_⟩
          clear BK548
          clear BK549
          clear BK550
          clear BK551
          clear HB
          clear h0_ h1_ h2_ h3_ h4_ h5_ h6_ h7_ h8_ h9_ h10_ h11_ h12_ h13_ h14_ h15_ h16_ h17_
          have HO554 := n0_
          have HO557 := n1_
          have BK548 := n2_
          have BK549 := n3_
          have BK550 := n4_
          have BK551 := n5_
          have BK567 := n6_
          have GW567 := n7_
          have GE567 := n8_
          have NB548_567 := n9_
          have NB567_548 := n10_
          have NB549_567 := n11_
          have NB567_549 := n12_
          have NB550_567 := n13_
          have NB567_550 := n14_
          have NB551_567 := n15_
          have NB567_551 := n16_
          have HB := n17_
          clear n0_ n1_ n2_ n3_ n4_ n5_ n6_ n7_ n8_ n9_ n10_ n11_ n12_ n13_ n14_ n15_ n16_ n17_
          have hHeld : w20.cell? ⟨gb548, 0, none⟩ = some (.slice A0_0 l0_0.length c0_0) ∧ w20.cell? ⟨gb548, 1, none⟩ = some (.slice A0_1 l0_1.length c0_1) ∧ w20.cell? ⟨gb549, 0, none⟩ = some (.int .i64 a1_0) ∧ w20.cell? ⟨gb549, 1, none⟩ = some (.int .i64 a1_1) ∧ w20.cell? ⟨gb550, 0, none⟩ = some (.int .i64 a2_0) ∧ w20.cell? ⟨gb550, 1, none⟩ = some (.int .i64 a2_1) ∧ w20.cell? ⟨gb551, 0, none⟩ = some (.int .i64 a3_0) ∧ w20.cell? ⟨gb551, 1, none⟩ = some (.int .i64 a3_1) := hS_
          refine norm_ (a' := ?_) ?_ ?_
          rotate_left
          ·simp only [putAll, Act.put, List.setIfInBounds_toArray, List.set_cons_zero, List.set_cons_succ]
           rfl
          refine one_ (i := 3) (N := some 19) #[true, true, true, true, true, false, true, false, true, true, false, false, false, false, true, false, false] rfl rfl (one_of HT_.out (by kernel_rfl)) (by decide) (fun K hK => ?_)
          refine goes_ Try.func21 (by kernel_rfl) rfl #[.agg #[.int .i64 a1_0, .int .i64 a1_1]] (by rfl) rfl rfl al_ ?_
          with_reducible refine (comfitlaw02_chance.calls a1_0 a1_1 t558 t559 _ A8.out).mono ?_
          rintro e w21 ⟨rfl, hb⟩
          refine ⟨_, rfl, ?_⟩
          have n0_ := Aside0.mk (Kd.R_below (kr_ (HO554.out)) hb)
          have n1_ := Aside0.mk (Kd.R_below (kr_ (HO557.out)) hb)
          have n2_ := Aside0.mk (bkb_ BK548.out hb)
          have n3_ := Aside0.mk (bkb_ BK549.out hb)
          have n4_ := Aside0.mk (bkb_ BK550.out hb)
          have n5_ := Aside0.mk (bkb_ BK551.out hb)
          have n6_ := Aside0.mk (bkb_ BK567.out hb)
          have n7_ := Aside0.mk (below_step (hb_ HB.out) hb)
          clear HO554
          clear HO557
          clear BK548
          clear BK549
          clear BK550
          clear BK551
          clear BK567
          clear HB
          have HO554 := n0_
          have HO557 := n1_
          have BK548 := n2_
          have BK549 := n3_
          have BK550 := n4_
          have BK551 := n5_
          have BK567 := n6_
          have HB := n7_
          clear n0_ n1_ n2_ n3_ n4_ n5_ n6_ n7_
          (try clear hb)
          (try clear hb2)
          (try clear hk)
          (try clear hi)
          refine hK.out _ _ ⟨(blk_cell BK548.out 0).trans rfl, (blk_cell BK548.out 1).trans rfl, (blk_cell BK549.out 0).trans rfl, (blk_cell BK549.out 1).trans rfl, (blk_cell BK550.out 0).trans rfl, (blk_cell BK550.out 1).trans rfl, (blk_cell BK551.out 0).trans rfl, (blk_cell BK551.out 1).trans rfl⟩ (fun hHeld => ?_)
          clear hK K
          refine norm_ (a' := ?_) ?_ ?_
          rotate_left
          ·show Act.put _ (some 19) _ = _
           simp only [Act.put, List.setIfInBounds_toArray, List.set_cons_zero, List.set_cons_succ, i64_w, i32_w]
           rfl
          exact norm_ (by first | (simp only [putAll, Act.put, List.setIfInBounds_toArray, List.set_cons_zero, List.set_cons_succ]; done) | (simp only [putAll, Act.put, List.setIfInBounds_toArray, List.set_cons_zero, List.set_cons_succ]; rfl)) (hJ1_3_14 (v553, v556, gb567) _ ⟨hHeld, (kr_ (HO554.out)), (kr_ (HO557.out)), (bk_ BK548.out), (bk_ BK549.out), (bk_ BK550.out), (bk_ BK551.out), (bk_ BK567.out), GW567.out, GE567.out, NB548_567.out, NB567_548.out, NB549_567.out, NB567_549.out, NB550_567.out, NB567_550.out, NB551_567.out, NB567_551.out, (hb_ HB.out)⟩)
        ·skip
         rintro ⟨v553, v556⟩ w20 ⟨hS_, h0_, h1_, h2_, h3_, h4_, h5_, h6_⟩
         have n0_ : Aside0 (Kd.R (Kd.int .i64) 3 w20 w.heap.size (fun k_ => some k_ ≠ (v556 : Value).ownBlock) v553 t552) := ⟨h0_⟩
         have n1_ : Aside0 (Kd.R (Kd.int .i64) 3 w20 w.heap.size (fun k_ => some k_ ≠ (v553 : Value).ownBlock) v556 t555) := ⟨h1_⟩
         have n2_ : Aside0 (w20.heap[gb548]? = some (.cells #[.slice A0_0 l0_0.length c0_0, .slice A0_1 l0_1.length c0_1] 24 (0, 0))) := ⟨h2_⟩
         have n3_ : Aside0 (w20.heap[gb549]? = some (.cells #[.int .i64 a1_0, .int .i64 a1_1] 26 (0, 0))) := ⟨h3_⟩
         have n4_ : Aside0 (w20.heap[gb550]? = some (.cells #[.int .i64 a2_0, .int .i64 a2_1] 26 (0, 0))) := ⟨h4_⟩
         have n5_ : Aside0 (w20.heap[gb551]? = some (.cells #[.int .i64 a3_0, .int .i64 a3_1] 26 (0, 0))) := ⟨h5_⟩
         have n6_ : Aside0 (Below w.heap.size w w20) := ⟨h6_⟩
         clear BK548
         clear BK549
         clear BK550
         clear BK551
         clear HB
         clear h0_ h1_ h2_ h3_ h4_ h5_ h6_
         have HO554 := n0_
         have HO557 := n1_
         have BK548 := n2_
         have BK549 := n3_
         have BK550 := n4_
         have BK551 := n5_
         have HB := n6_
         clear n0_ n1_ n2_ n3_ n4_ n5_ n6_
         have hHeld : w20.cell? ⟨gb548, 0, none⟩ = some (.slice A0_0 l0_0.length c0_0) ∧ w20.cell? ⟨gb548, 1, none⟩ = some (.slice A0_1 l0_1.length c0_1) ∧ w20.cell? ⟨gb549, 0, none⟩ = some (.int .i64 a1_0) ∧ w20.cell? ⟨gb549, 1, none⟩ = some (.int .i64 a1_1) ∧ w20.cell? ⟨gb550, 0, none⟩ = some (.int .i64 a2_0) ∧ w20.cell? ⟨gb550, 1, none⟩ = some (.int .i64 a2_1) ∧ w20.cell? ⟨gb551, 0, none⟩ = some (.int .i64 a3_0) ∧ w20.cell? ⟨gb551, 1, none⟩ = some (.int .i64 a3_1) := hS_
         refine norm_ (a' := ?_) ?_ ?_
         rotate_left
         ·simp only [putAll, Act.put, List.setIfInBounds_toArray, List.set_cons_zero, List.set_cons_succ]
          rfl
         refine two_ (i := 5) (j := 14) (Ni := some 21) (Nj := some 13) #[true, true, true, true, true, true, true, false, true, true, false, false, false, false, false, false, false] #[true, true, true, true, true, false, true, false, true, true, false, false, false, false, true, false, false] rfl rfl rfl rfl (two_of HT_.out (by kernel_rfl)) (by decide) (by decide) (fun K hK => ?_) (fun K hK => ?_)
         ·skip
          refine goes_ Try.func21 (by kernel_rfl) rfl #[.agg #[.int .i64 a2_0, .int .i64 a2_1]] (by rfl) rfl rfl al_ ?_
          with_reducible refine (comfitlaw02_chance.calls a2_0 a2_1 t560 t561 _ A9.out).mono ?_
          rintro e w21 ⟨rfl, hb⟩
          refine ⟨_, rfl, ?_⟩
          have n0_ := Aside0.mk (Kd.R_below (kr_ (HO554.out)) hb)
          have n1_ := Aside0.mk (Kd.R_below (kr_ (HO557.out)) hb)
          have n2_ := Aside0.mk (bkb_ BK548.out hb)
          have n3_ := Aside0.mk (bkb_ BK549.out hb)
          have n4_ := Aside0.mk (bkb_ BK550.out hb)
          have n5_ := Aside0.mk (bkb_ BK551.out hb)
          have n6_ := Aside0.mk (below_step (hb_ HB.out) hb)
          clear HO554
          clear HO557
          clear BK548
          clear BK549
          clear BK550
          clear BK551
          clear HB
          have HO554 := n0_
          have HO557 := n1_
          have BK548 := n2_
          have BK549 := n3_
          have BK550 := n4_
          have BK551 := n5_
          have HB := n6_
          clear n0_ n1_ n2_ n3_ n4_ n5_ n6_
          (try clear hb)
          (try clear hb2)
          (try clear hk)
          (try clear hi)
          refine hK.out _ _ ⟨(blk_cell BK548.out 0).trans rfl, (blk_cell BK548.out 1).trans rfl, (blk_cell BK549.out 0).trans rfl, (blk_cell BK549.out 1).trans rfl, (blk_cell BK550.out 0).trans rfl, (blk_cell BK550.out 1).trans rfl, (blk_cell BK551.out 0).trans rfl, (blk_cell BK551.out 1).trans rfl⟩ (fun hHeld => ?_)
          clear hK K
          refine norm_ (a' := ?_) ?_ ?_
          rotate_left
          ·show Act.put _ (some 21) _ = _
           simp only [Act.put, List.setIfInBounds_toArray, List.set_cons_zero, List.set_cons_succ, i64_w, i32_w]
           rfl
          exact norm_ (by first | (simp only [putAll, Act.put, List.setIfInBounds_toArray, List.set_cons_zero, List.set_cons_succ]; done) | (simp only [putAll, Act.put, List.setIfInBounds_toArray, List.set_cons_zero, List.set_cons_succ]; rfl)) (hJ1_3_5 (v553, v556) _ ⟨hHeld, (kr_ (HO554.out)), (kr_ (HO557.out)), (bk_ BK548.out), (bk_ BK549.out), (bk_ BK550.out), (bk_ BK551.out), (hb_ HB.out)⟩)
         ·skip
          refine box_step ?hg (N := 13) ?hd (cs := #[.int .i64 0, .int .i64 0]) (t := 28) ?hr ?_; (case hd => rfl); (case hg => rfl); (case hr => first | (go_simp; done) | (go_simp; rfl))
          intro gb567 hg w21 hbox hb
          have n0_ := Aside0.mk (Kd.R_below (kr_ (HO554.out)) hb)
          have n1_ := Aside0.mk (Kd.R_below (kr_ (HO557.out)) hb)
          have n2_ := Aside0.mk (bkb_ BK548.out hb)
          have n3_ := Aside0.mk (bkb_ BK549.out hb)
          have n4_ := Aside0.mk (bkb_ BK550.out hb)
          have n5_ := Aside0.mk (bkb_ BK551.out hb)
          have n6_ := Aside0.mk (below_step (hb_ HB.out) hb)
          have n7_ := Aside0.mk (hbox)
          have n8_ := Aside0.mk ((by rw [hg]; exact (below_size (hb_ HB.out)) : w.heap.size ≤ gb567))
          have n9_ := Aside0.mk ((by rw [hg]; exact (below_size (hb_ HB.out)) : w.heap.size ≤ gb567))
          have n10_ := Aside0.mk ((by rw [hg]; exact Nat.ne_of_lt (bkl_ BK548.out) : gb548 ≠ gb567))
          have n11_ := Aside0.mk ((by rw [hg]; exact Nat.ne_of_gt (bkl_ BK548.out) : gb567 ≠ gb548))
          have n12_ := Aside0.mk ((by rw [hg]; exact Nat.ne_of_lt (bkl_ BK549.out) : gb549 ≠ gb567))
          have n13_ := Aside0.mk ((by rw [hg]; exact Nat.ne_of_gt (bkl_ BK549.out) : gb567 ≠ gb549))
          have n14_ := Aside0.mk ((by rw [hg]; exact Nat.ne_of_lt (bkl_ BK550.out) : gb550 ≠ gb567))
          have n15_ := Aside0.mk ((by rw [hg]; exact Nat.ne_of_gt (bkl_ BK550.out) : gb567 ≠ gb550))
          have n16_ := Aside0.mk ((by rw [hg]; exact Nat.ne_of_lt (bkl_ BK551.out) : gb551 ≠ gb567))
          have n17_ := Aside0.mk ((by rw [hg]; exact Nat.ne_of_gt (bkl_ BK551.out) : gb567 ≠ gb551))
          clear HO554
          clear HO557
          clear BK548
          clear BK549
          clear BK550
          clear BK551
          clear HB
          have HO554 := n0_
          have HO557 := n1_
          have BK548 := n2_
          have BK549 := n3_
          have BK550 := n4_
          have BK551 := n5_
          have HB := n6_
          have BK567 := n7_
          have GW567 := n8_
          have GE567 := n9_
          have NB548_567 := n10_
          have NB567_548 := n11_
          have NB549_567 := n12_
          have NB567_549 := n13_
          have NB550_567 := n14_
          have NB567_550 := n15_
          have NB551_567 := n16_
          have NB567_551 := n17_
          clear n0_ n1_ n2_ n3_ n4_ n5_ n6_ n7_ n8_ n9_ n10_ n11_ n12_ n13_ n14_ n15_ n16_ n17_
          clear hb hbox hg
          refine hK.out _ _ ⟨(blk_cell BK548.out 0).trans rfl, (blk_cell BK548.out 1).trans rfl, (blk_cell BK549.out 0).trans rfl, (blk_cell BK549.out 1).trans rfl, (blk_cell BK550.out 0).trans rfl, (blk_cell BK550.out 1).trans rfl, (blk_cell BK551.out 0).trans rfl, (blk_cell BK551.out 1).trans rfl⟩ (fun hHeld => ?_)
          clear hK K
          refine norm_ (a' := ?_) ?_ ?_
          rotate_left
          ·show Act.put _ (some 13) _ = _
           simp only [Act.put, List.setIfInBounds_toArray, List.set_cons_zero, List.set_cons_succ, i64_w, i32_w]
           rfl
          exact norm_ (by first | (simp only [putAll, Act.put, List.setIfInBounds_toArray, List.set_cons_zero, List.set_cons_succ]; done) | (simp only [putAll, Act.put, List.setIfInBounds_toArray, List.set_cons_zero, List.set_cons_succ]; rfl)) (hJ1_3_14 (v553, v556, gb567) _ ⟨hHeld, (kr_ (HO554.out)), (kr_ (HO557.out)), (bk_ BK548.out), (bk_ BK549.out), (bk_ BK550.out), (bk_ BK551.out), (bk_ BK567.out), GW567.out, GE567.out, NB548_567.out, NB567_548.out, NB549_567.out, NB567_549.out, NB550_567.out, NB567_550.out, NB551_567.out, NB567_551.out, (hb_ HB.out)⟩)
       ·skip
        rintro ⟨v553, v556, gb567⟩ w21 ⟨hS_, h0_, h1_, h2_, h3_, h4_, h5_, h6_, h7_, h8_, h9_, h10_, h11_, h12_, h13_, h14_, h15_, h16_, h17_⟩
        have n0_ : Aside0 (Kd.R (Kd.int .i64) 3 w21 w.heap.size (fun k_ => some k_ ≠ (v556 : Value).ownBlock) v553 t552) := ⟨h0_⟩
        have n1_ : Aside0 (Kd.R (Kd.int .i64) 3 w21 w.heap.size (fun k_ => some k_ ≠ (v553 : Value).ownBlock) v556 t555) := ⟨h1_⟩
        have n2_ : Aside0 (w21.heap[gb548]? = some (.cells #[.slice A0_0 l0_0.length c0_0, .slice A0_1 l0_1.length c0_1] 24 (0, 0))) := ⟨h2_⟩
        have n3_ : Aside0 (w21.heap[gb549]? = some (.cells #[.int .i64 a1_0, .int .i64 a1_1] 26 (0, 0))) := ⟨h3_⟩
        have n4_ : Aside0 (w21.heap[gb550]? = some (.cells #[.int .i64 a2_0, .int .i64 a2_1] 26 (0, 0))) := ⟨h4_⟩
        have n5_ : Aside0 (w21.heap[gb551]? = some (.cells #[.int .i64 a3_0, .int .i64 a3_1] 26 (0, 0))) := ⟨h5_⟩
        have n6_ : Aside0 (w21.heap[gb567]? = some (.cells #[.int .i64 0, .int .i64 0] 28 (0, 0))) := ⟨h6_⟩
        have n7_ : Aside0 (w.heap.size ≤ gb567) := ⟨h7_⟩
        have n8_ : Aside0 (w.heap.size ≤ gb567) := ⟨h8_⟩
        have n9_ : Aside0 (gb548 ≠ gb567) := ⟨h9_⟩
        have n10_ : Aside0 (gb567 ≠ gb548) := ⟨h10_⟩
        have n11_ : Aside0 (gb549 ≠ gb567) := ⟨h11_⟩
        have n12_ : Aside0 (gb567 ≠ gb549) := ⟨h12_⟩
        have n13_ : Aside0 (gb550 ≠ gb567) := ⟨h13_⟩
        have n14_ : Aside0 (gb567 ≠ gb550) := ⟨h14_⟩
        have n15_ : Aside0 (gb551 ≠ gb567) := ⟨h15_⟩
        have n16_ : Aside0 (gb567 ≠ gb551) := ⟨h16_⟩
        have n17_ : Aside0 (Below w.heap.size w w21) := ⟨h17_⟩
        clear BK548
        clear BK549
        clear BK550
        clear BK551
        clear HB
        clear h0_ h1_ h2_ h3_ h4_ h5_ h6_ h7_ h8_ h9_ h10_ h11_ h12_ h13_ h14_ h15_ h16_ h17_
        have HO554 := n0_
        have HO557 := n1_
        have BK548 := n2_
        have BK549 := n3_
        have BK550 := n4_
        have BK551 := n5_
        have BK567 := n6_
        have GW567 := n7_
        have GE567 := n8_
        have NB548_567 := n9_
        have NB567_548 := n10_
        have NB549_567 := n11_
        have NB567_549 := n12_
        have NB550_567 := n13_
        have NB567_550 := n14_
        have NB551_567 := n15_
        have NB567_551 := n16_
        have HB := n17_
        clear n0_ n1_ n2_ n3_ n4_ n5_ n6_ n7_ n8_ n9_ n10_ n11_ n12_ n13_ n14_ n15_ n16_ n17_
        have hHeld : w21.cell? ⟨gb548, 0, none⟩ = some (.slice A0_0 l0_0.length c0_0) ∧ w21.cell? ⟨gb548, 1, none⟩ = some (.slice A0_1 l0_1.length c0_1) ∧ w21.cell? ⟨gb549, 0, none⟩ = some (.int .i64 a1_0) ∧ w21.cell? ⟨gb549, 1, none⟩ = some (.int .i64 a1_1) ∧ w21.cell? ⟨gb550, 0, none⟩ = some (.int .i64 a2_0) ∧ w21.cell? ⟨gb550, 1, none⟩ = some (.int .i64 a2_1) ∧ w21.cell? ⟨gb551, 0, none⟩ = some (.int .i64 a3_0) ∧ w21.cell? ⟨gb551, 1, none⟩ = some (.int .i64 a3_1) := hS_
        refine norm_ (a' := ?_) ?_ ?_
        rotate_left
        ·simp only [putAll, Act.put, List.setIfInBounds_toArray, List.set_cons_zero, List.set_cons_succ]
         rfl
        refine one_ (i := 5) (N := some 21) #[true, true, true, true, true, true, true, false, true, true, false, false, false, false, true, false, false] rfl rfl (one_of HT_.out (by kernel_rfl)) (by decide) (fun K hK => ?_)
        refine goes_ Try.func21 (by kernel_rfl) rfl #[.agg #[.int .i64 a2_0, .int .i64 a2_1]] (by rfl) rfl rfl al_ ?_
        with_reducible refine (comfitlaw02_chance.calls a2_0 a2_1 t560 t561 _ A9.out).mono ?_
        rintro e w22 ⟨rfl, hb⟩
        refine ⟨_, rfl, ?_⟩
        have n0_ := Aside0.mk (Kd.R_below (kr_ (HO554.out)) hb)
        have n1_ := Aside0.mk (Kd.R_below (kr_ (HO557.out)) hb)
        have n2_ := Aside0.mk (bkb_ BK548.out hb)
        have n3_ := Aside0.mk (bkb_ BK549.out hb)
        have n4_ := Aside0.mk (bkb_ BK550.out hb)
        have n5_ := Aside0.mk (bkb_ BK551.out hb)
        have n6_ := Aside0.mk (bkb_ BK567.out hb)
        have n7_ := Aside0.mk (below_step (hb_ HB.out) hb)
        clear HO554
        clear HO557
        clear BK548
        clear BK549
        clear BK550
        clear BK551
        clear BK567
        clear HB
        have HO554 := n0_
        have HO557 := n1_
        have BK548 := n2_
        have BK549 := n3_
        have BK550 := n4_
        have BK551 := n5_
        have BK567 := n6_
        have HB := n7_
        clear n0_ n1_ n2_ n3_ n4_ n5_ n6_ n7_
        (try clear hb)
        (try clear hb2)
        (try clear hk)
        (try clear hi)
        refine hK.out _ _ ⟨(blk_cell BK548.out 0).trans rfl, (blk_cell BK548.out 1).trans rfl, (blk_cell BK549.out 0).trans rfl, (blk_cell BK549.out 1).trans rfl, (blk_cell BK550.out 0).trans rfl, (blk_cell BK550.out 1).trans rfl, (blk_cell BK551.out 0).trans rfl, (blk_cell BK551.out 1).trans rfl⟩ (fun hHeld => ?_)
        clear hK K
        refine norm_ (a' := ?_) ?_ ?_
        rotate_left
        ·show Act.put _ (some 21) _ = _
         simp only [Act.put, List.setIfInBounds_toArray, List.set_cons_zero, List.set_cons_succ, i64_w, i32_w]
         rfl
        exact norm_ (by first | (simp only [putAll, Act.put, List.setIfInBounds_toArray, List.set_cons_zero, List.set_cons_succ]; done) | (simp only [putAll, Act.put, List.setIfInBounds_toArray, List.set_cons_zero, List.set_cons_succ]; rfl)) (hJ1_3_5_14 (v553, v556, gb567) _ ⟨hHeld, (kr_ (HO554.out)), (kr_ (HO557.out)), (bk_ BK548.out), (bk_ BK549.out), (bk_ BK550.out), (bk_ BK551.out), (bk_ BK567.out), GW567.out, GE567.out, NB548_567.out, NB567_548.out, NB549_567.out, NB567_549.out, NB550_567.out, NB567_550.out, NB551_567.out, NB567_551.out, (hb_ HB.out)⟩)
      ·skip
       rintro ⟨v553, v556⟩ w21 ⟨hS_, h0_, h1_, h2_, h3_, h4_, h5_, h6_⟩
       have n0_ : Aside0 (Kd.R (Kd.int .i64) 3 w21 w.heap.size (fun k_ => some k_ ≠ (v556 : Value).ownBlock) v553 t552) := ⟨h0_⟩
       have n1_ : Aside0 (Kd.R (Kd.int .i64) 3 w21 w.heap.size (fun k_ => some k_ ≠ (v553 : Value).ownBlock) v556 t555) := ⟨h1_⟩
       have n2_ : Aside0 (w21.heap[gb548]? = some (.cells #[.slice A0_0 l0_0.length c0_0, .slice A0_1 l0_1.length c0_1] 24 (0, 0))) := ⟨h2_⟩
       have n3_ : Aside0 (w21.heap[gb549]? = some (.cells #[.int .i64 a1_0, .int .i64 a1_1] 26 (0, 0))) := ⟨h3_⟩
       have n4_ : Aside0 (w21.heap[gb550]? = some (.cells #[.int .i64 a2_0, .int .i64 a2_1] 26 (0, 0))) := ⟨h4_⟩
       have n5_ : Aside0 (w21.heap[gb551]? = some (.cells #[.int .i64 a3_0, .int .i64 a3_1] 26 (0, 0))) := ⟨h5_⟩
       have n6_ : Aside0 (Below w.heap.size w w21) := ⟨h6_⟩
       clear BK548
       clear BK549
       clear BK550
       clear BK551
       clear HB
       clear h0_ h1_ h2_ h3_ h4_ h5_ h6_
       have HO554 := n0_
       have HO557 := n1_
       have BK548 := n2_
       have BK549 := n3_
       have BK550 := n4_
       have BK551 := n5_
       have HB := n6_
       clear n0_ n1_ n2_ n3_ n4_ n5_ n6_
       have hHeld : w21.cell? ⟨gb548, 0, none⟩ = some (.slice A0_0 l0_0.length c0_0) ∧ w21.cell? ⟨gb548, 1, none⟩ = some (.slice A0_1 l0_1.length c0_1) ∧ w21.cell? ⟨gb549, 0, none⟩ = some (.int .i64 a1_0) ∧ w21.cell? ⟨gb549, 1, none⟩ = some (.int .i64 a1_1) ∧ w21.cell? ⟨gb550, 0, none⟩ = some (.int .i64 a2_0) ∧ w21.cell? ⟨gb550, 1, none⟩ = some (.int .i64 a2_1) ∧ w21.cell? ⟨gb551, 0, none⟩ = some (.int .i64 a3_0) ∧ w21.cell? ⟨gb551, 1, none⟩ = some (.int .i64 a3_1) := hS_
       refine norm_ (a' := ?_) ?_ ?_
       rotate_left
       ·simp only [putAll, Act.put, List.setIfInBounds_toArray, List.set_cons_zero, List.set_cons_succ]
        rfl
       refine two_ (i := 7) (j := 14) (Ni := some 23) (Nj := some 13) #[true, true, true, true, true, true, true, true, true, true, false, false, false, false, false, false, false] #[true, true, true, true, true, true, true, false, true, true, false, false, false, false, true, false, false] rfl rfl rfl rfl (two_of HT_.out (by kernel_rfl)) (by decide) (by decide) (fun K hK => ?_) (fun K hK => ?_)
       ·skip
        refine goes_ Try.func21 (by kernel_rfl) rfl #[.agg #[.int .i64 a3_0, .int .i64 a3_1]] (by rfl) rfl rfl al_ ?_
        with_reducible refine (comfitlaw02_chance.calls a3_0 a3_1 t562 t563 _ A10.out).mono ?_
        rintro e w22 ⟨rfl, hb⟩
        refine ⟨_, rfl, ?_⟩
        have n0_ := Aside0.mk (Kd.R_below (kr_ (HO554.out)) hb)
        have n1_ := Aside0.mk (Kd.R_below (kr_ (HO557.out)) hb)
        have n2_ := Aside0.mk (bkb_ BK548.out hb)
        have n3_ := Aside0.mk (bkb_ BK549.out hb)
        have n4_ := Aside0.mk (bkb_ BK550.out hb)
        have n5_ := Aside0.mk (bkb_ BK551.out hb)
        have n6_ := Aside0.mk (below_step (hb_ HB.out) hb)
        clear HO554
        clear HO557
        clear BK548
        clear BK549
        clear BK550
        clear BK551
        clear HB
        have HO554 := n0_
        have HO557 := n1_
        have BK548 := n2_
        have BK549 := n3_
        have BK550 := n4_
        have BK551 := n5_
        have HB := n6_
        clear n0_ n1_ n2_ n3_ n4_ n5_ n6_
        (try clear hb)
        (try clear hb2)
        (try clear hk)
        (try clear hi)
        refine hK.out _ _ ⟨(blk_cell BK548.out 0).trans rfl, (blk_cell BK548.out 1).trans rfl, (blk_cell BK549.out 0).trans rfl, (blk_cell BK549.out 1).trans rfl, (blk_cell BK550.out 0).trans rfl, (blk_cell BK550.out 1).trans rfl, (blk_cell BK551.out 0).trans rfl, (blk_cell BK551.out 1).trans rfl⟩ (fun hHeld => ?_)
        clear hK K
        refine norm_ (a' := ?_) ?_ ?_
        rotate_left
        ·show Act.put _ (some 23) _ = _
         simp only [Act.put, List.setIfInBounds_toArray, List.set_cons_zero, List.set_cons_succ, i64_w, i32_w]
         rfl
        exact norm_ (by first | (simp only [putAll, Act.put, List.setIfInBounds_toArray, List.set_cons_zero, List.set_cons_succ]; done) | (simp only [putAll, Act.put, List.setIfInBounds_toArray, List.set_cons_zero, List.set_cons_succ]; rfl)) (hJ1_3_5_7 (v553, v556) _ ⟨hHeld, (kr_ (HO554.out)), (kr_ (HO557.out)), (bk_ BK548.out), (bk_ BK549.out), (bk_ BK550.out), (bk_ BK551.out), (hb_ HB.out)⟩)
       ·skip
        refine box_step ?hg (N := 13) ?hd (cs := #[.int .i64 0, .int .i64 0]) (t := 28) ?hr ?_; (case hd => rfl); (case hg => rfl); (case hr => first | (go_simp; done) | (go_simp; rfl))
        intro gb567 hg w22 hbox hb
        have n0_ := Aside0.mk (Kd.R_below (kr_ (HO554.out)) hb)
        have n1_ := Aside0.mk (Kd.R_below (kr_ (HO557.out)) hb)
        have n2_ := Aside0.mk (bkb_ BK548.out hb)
        have n3_ := Aside0.mk (bkb_ BK549.out hb)
        have n4_ := Aside0.mk (bkb_ BK550.out hb)
        have n5_ := Aside0.mk (bkb_ BK551.out hb)
        have n6_ := Aside0.mk (below_step (hb_ HB.out) hb)
        have n7_ := Aside0.mk (hbox)
        have n8_ := Aside0.mk ((by rw [hg]; exact (below_size (hb_ HB.out)) : w.heap.size ≤ gb567))
        have n9_ := Aside0.mk ((by rw [hg]; exact (below_size (hb_ HB.out)) : w.heap.size ≤ gb567))
        have n10_ := Aside0.mk ((by rw [hg]; exact Nat.ne_of_lt (bkl_ BK548.out) : gb548 ≠ gb567))
        have n11_ := Aside0.mk ((by rw [hg]; exact Nat.ne_of_gt (bkl_ BK548.out) : gb567 ≠ gb548))
        have n12_ := Aside0.mk ((by rw [hg]; exact Nat.ne_of_lt (bkl_ BK549.out) : gb549 ≠ gb567))
        have n13_ := Aside0.mk ((by rw [hg]; exact Nat.ne_of_gt (bkl_ BK549.out) : gb567 ≠ gb549))
        have n14_ := Aside0.mk ((by rw [hg]; exact Nat.ne_of_lt (bkl_ BK550.out) : gb550 ≠ gb567))
        have n15_ := Aside0.mk ((by rw [hg]; exact Nat.ne_of_gt (bkl_ BK550.out) : gb567 ≠ gb550))
        have n16_ := Aside0.mk ((by rw [hg]; exact Nat.ne_of_lt (bkl_ BK551.out) : gb551 ≠ gb567))
        have n17_ := Aside0.mk ((by rw [hg]; exact Nat.ne_of_gt (bkl_ BK551.out) : gb567 ≠ gb551))
        clear HO554
        clear HO557
        clear BK548
        clear BK549
        clear BK550
        clear BK551
        clear HB
        have HO554 := n0_
        have HO557 := n1_
        have BK548 := n2_
        have BK549 := n3_
        have BK550 := n4_
        have BK551 := n5_
        have HB := n6_
        have BK567 := n7_
        have GW567 := n8_
        have GE567 := n9_
        have NB548_567 := n10_
        have NB567_548 := n11_
        have NB549_567 := n12_
        have NB567_549 := n13_
        have NB550_567 := n14_
        have NB567_550 := n15_
        have NB551_567 := n16_
        have NB567_551 := n17_
        clear n0_ n1_ n2_ n3_ n4_ n5_ n6_ n7_ n8_ n9_ n10_ n11_ n12_ n13_ n14_ n15_ n16_ n17_
        clear hb hbox hg
        refine hK.out _ _ ⟨(blk_cell BK548.out 0).trans rfl, (blk_cell BK548.out 1).trans rfl, (blk_cell BK549.out 0).trans rfl, (blk_cell BK549.out 1).trans rfl, (blk_cell BK550.out 0).trans rfl, (blk_cell BK550.out 1).trans rfl, (blk_cell BK551.out 0).trans rfl, (blk_cell BK551.out 1).trans rfl⟩ (fun hHeld => ?_)
        clear hK K
        refine norm_ (a' := ?_) ?_ ?_
        rotate_left
        ·show Act.put _ (some 13) _ = _
         simp only [Act.put, List.setIfInBounds_toArray, List.set_cons_zero, List.set_cons_succ, i64_w, i32_w]
         rfl
        exact norm_ (by first | (simp only [putAll, Act.put, List.setIfInBounds_toArray, List.set_cons_zero, List.set_cons_succ]; done) | (simp only [putAll, Act.put, List.setIfInBounds_toArray, List.set_cons_zero, List.set_cons_succ]; rfl)) (hJ1_3_5_14 (v553, v556, gb567) _ ⟨hHeld, (kr_ (HO554.out)), (kr_ (HO557.out)), (bk_ BK548.out), (bk_ BK549.out), (bk_ BK550.out), (bk_ BK551.out), (bk_ BK567.out), GW567.out, GE567.out, NB548_567.out, NB567_548.out, NB549_567.out, NB567_549.out, NB550_567.out, NB567_550.out, NB551_567.out, NB567_551.out, (hb_ HB.out)⟩)
     ·skip
      rintro ⟨v553, v556, gb567⟩ w22 ⟨hS_, h0_, h1_, h2_, h3_, h4_, h5_, h6_, h7_, h8_, h9_, h10_, h11_, h12_, h13_, h14_, h15_, h16_, h17_⟩
      have n0_ : Aside0 (Kd.R (Kd.int .i64) 3 w22 w.heap.size (fun k_ => some k_ ≠ (v556 : Value).ownBlock) v553 t552) := ⟨h0_⟩
      have n1_ : Aside0 (Kd.R (Kd.int .i64) 3 w22 w.heap.size (fun k_ => some k_ ≠ (v553 : Value).ownBlock) v556 t555) := ⟨h1_⟩
      have n2_ : Aside0 (w22.heap[gb548]? = some (.cells #[.slice A0_0 l0_0.length c0_0, .slice A0_1 l0_1.length c0_1] 24 (0, 0))) := ⟨h2_⟩
      have n3_ : Aside0 (w22.heap[gb549]? = some (.cells #[.int .i64 a1_0, .int .i64 a1_1] 26 (0, 0))) := ⟨h3_⟩
      have n4_ : Aside0 (w22.heap[gb550]? = some (.cells #[.int .i64 a2_0, .int .i64 a2_1] 26 (0, 0))) := ⟨h4_⟩
      have n5_ : Aside0 (w22.heap[gb551]? = some (.cells #[.int .i64 a3_0, .int .i64 a3_1] 26 (0, 0))) := ⟨h5_⟩
      have n6_ : Aside0 (w22.heap[gb567]? = some (.cells #[.int .i64 0, .int .i64 0] 28 (0, 0))) := ⟨h6_⟩
      have n7_ : Aside0 (w.heap.size ≤ gb567) := ⟨h7_⟩
      have n8_ : Aside0 (w.heap.size ≤ gb567) := ⟨h8_⟩
      have n9_ : Aside0 (gb548 ≠ gb567) := ⟨h9_⟩
      have n10_ : Aside0 (gb567 ≠ gb548) := ⟨h10_⟩
      have n11_ : Aside0 (gb549 ≠ gb567) := ⟨h11_⟩
      have n12_ : Aside0 (gb567 ≠ gb549) := ⟨h12_⟩
      have n13_ : Aside0 (gb550 ≠ gb567) := ⟨h13_⟩
      have n14_ : Aside0 (gb567 ≠ gb550) := ⟨h14_⟩
      have n15_ : Aside0 (gb551 ≠ gb567) := ⟨h15_⟩
      have n16_ : Aside0 (gb567 ≠ gb551) := ⟨h16_⟩
      have n17_ : Aside0 (Below w.heap.size w w22) := ⟨h17_⟩
      clear BK548
      clear BK549
      clear BK550
      clear BK551
      clear HB
      clear h0_ h1_ h2_ h3_ h4_ h5_ h6_ h7_ h8_ h9_ h10_ h11_ h12_ h13_ h14_ h15_ h16_ h17_
      have HO554 := n0_
      have HO557 := n1_
      have BK548 := n2_
      have BK549 := n3_
      have BK550 := n4_
      have BK551 := n5_
      have BK567 := n6_
      have GW567 := n7_
      have GE567 := n8_
      have NB548_567 := n9_
      have NB567_548 := n10_
      have NB549_567 := n11_
      have NB567_549 := n12_
      have NB550_567 := n13_
      have NB567_550 := n14_
      have NB551_567 := n15_
      have NB567_551 := n16_
      have HB := n17_
      clear n0_ n1_ n2_ n3_ n4_ n5_ n6_ n7_ n8_ n9_ n10_ n11_ n12_ n13_ n14_ n15_ n16_ n17_
      have hHeld : w22.cell? ⟨gb548, 0, none⟩ = some (.slice A0_0 l0_0.length c0_0) ∧ w22.cell? ⟨gb548, 1, none⟩ = some (.slice A0_1 l0_1.length c0_1) ∧ w22.cell? ⟨gb549, 0, none⟩ = some (.int .i64 a1_0) ∧ w22.cell? ⟨gb549, 1, none⟩ = some (.int .i64 a1_1) ∧ w22.cell? ⟨gb550, 0, none⟩ = some (.int .i64 a2_0) ∧ w22.cell? ⟨gb550, 1, none⟩ = some (.int .i64 a2_1) ∧ w22.cell? ⟨gb551, 0, none⟩ = some (.int .i64 a3_0) ∧ w22.cell? ⟨gb551, 1, none⟩ = some (.int .i64 a3_1) := hS_
      refine norm_ (a' := ?_) ?_ ?_
      rotate_left
      ·simp only [putAll, Act.put, List.setIfInBounds_toArray, List.set_cons_zero, List.set_cons_succ]
       rfl
      refine one_ (i := 7) (N := some 23) #[true, true, true, true, true, true, true, true, true, true, false, false, false, false, true, false, false] rfl rfl (one_of HT_.out (by kernel_rfl)) (by decide) (fun K hK => ?_)
      refine goes_ Try.func21 (by kernel_rfl) rfl #[.agg #[.int .i64 a3_0, .int .i64 a3_1]] (by rfl) rfl rfl al_ ?_
      with_reducible refine (comfitlaw02_chance.calls a3_0 a3_1 t562 t563 _ A10.out).mono ?_
      rintro e w23 ⟨rfl, hb⟩
      refine ⟨_, rfl, ?_⟩
      have n0_ := Aside0.mk (Kd.R_below (kr_ (HO554.out)) hb)
      have n1_ := Aside0.mk (Kd.R_below (kr_ (HO557.out)) hb)
      have n2_ := Aside0.mk (bkb_ BK548.out hb)
      have n3_ := Aside0.mk (bkb_ BK549.out hb)
      have n4_ := Aside0.mk (bkb_ BK550.out hb)
      have n5_ := Aside0.mk (bkb_ BK551.out hb)
      have n6_ := Aside0.mk (bkb_ BK567.out hb)
      have n7_ := Aside0.mk (below_step (hb_ HB.out) hb)
      clear HO554
      clear HO557
      clear BK548
      clear BK549
      clear BK550
      clear BK551
      clear BK567
      clear HB
      have HO554 := n0_
      have HO557 := n1_
      have BK548 := n2_
      have BK549 := n3_
      have BK550 := n4_
      have BK551 := n5_
      have BK567 := n6_
      have HB := n7_
      clear n0_ n1_ n2_ n3_ n4_ n5_ n6_ n7_
      (try clear hb)
      (try clear hb2)
      (try clear hk)
      (try clear hi)
      refine hK.out _ _ ⟨(blk_cell BK548.out 0).trans rfl, (blk_cell BK548.out 1).trans rfl, (blk_cell BK549.out 0).trans rfl, (blk_cell BK549.out 1).trans rfl, (blk_cell BK550.out 0).trans rfl, (blk_cell BK550.out 1).trans rfl, (blk_cell BK551.out 0).trans rfl, (blk_cell BK551.out 1).trans rfl⟩ (fun hHeld => ?_)
      clear hK K
      refine norm_ (a' := ?_) ?_ ?_
      rotate_left
      ·show Act.put _ (some 23) _ = _
       simp only [Act.put, List.setIfInBounds_toArray, List.set_cons_zero, List.set_cons_succ, i64_w, i32_w]
       rfl
      exact norm_ (by first | (simp only [putAll, Act.put, List.setIfInBounds_toArray, List.set_cons_zero, List.set_cons_succ]; done) | (simp only [putAll, Act.put, List.setIfInBounds_toArray, List.set_cons_zero, List.set_cons_succ]; rfl)) (hJ1_3_5_7_14 (v553, v556, gb567) _ ⟨hHeld, (kr_ (HO554.out)), (kr_ (HO557.out)), (bk_ BK548.out), (bk_ BK549.out), (bk_ BK550.out), (bk_ BK551.out), (bk_ BK567.out), GW567.out, GE567.out, NB548_567.out, NB567_548.out, NB549_567.out, NB567_549.out, NB550_567.out, NB567_550.out, NB551_567.out, NB567_551.out, (hb_ HB.out)⟩)
    ·skip
     rintro ⟨v553, v556⟩ w22 ⟨hS_, h0_, h1_, h2_, h3_, h4_, h5_, h6_⟩
     have n0_ : Aside0 (Kd.R (Kd.int .i64) 3 w22 w.heap.size (fun k_ => some k_ ≠ (v556 : Value).ownBlock) v553 t552) := ⟨h0_⟩
     have n1_ : Aside0 (Kd.R (Kd.int .i64) 3 w22 w.heap.size (fun k_ => some k_ ≠ (v553 : Value).ownBlock) v556 t555) := ⟨h1_⟩
     have n2_ : Aside0 (w22.heap[gb548]? = some (.cells #[.slice A0_0 l0_0.length c0_0, .slice A0_1 l0_1.length c0_1] 24 (0, 0))) := ⟨h2_⟩
     have n3_ : Aside0 (w22.heap[gb549]? = some (.cells #[.int .i64 a1_0, .int .i64 a1_1] 26 (0, 0))) := ⟨h3_⟩
     have n4_ : Aside0 (w22.heap[gb550]? = some (.cells #[.int .i64 a2_0, .int .i64 a2_1] 26 (0, 0))) := ⟨h4_⟩
     have n5_ : Aside0 (w22.heap[gb551]? = some (.cells #[.int .i64 a3_0, .int .i64 a3_1] 26 (0, 0))) := ⟨h5_⟩
     have n6_ : Aside0 (Below w.heap.size w w22) := ⟨h6_⟩
     clear BK548
     clear BK549
     clear BK550
     clear BK551
     clear HB
     clear h0_ h1_ h2_ h3_ h4_ h5_ h6_
     have HO554 := n0_
     have HO557 := n1_
     have BK548 := n2_
     have BK549 := n3_
     have BK550 := n4_
     have BK551 := n5_
     have HB := n6_
     clear n0_ n1_ n2_ n3_ n4_ n5_ n6_
     have hHeld : w22.cell? ⟨gb548, 0, none⟩ = some (.slice A0_0 l0_0.length c0_0) ∧ w22.cell? ⟨gb548, 1, none⟩ = some (.slice A0_1 l0_1.length c0_1) ∧ w22.cell? ⟨gb549, 0, none⟩ = some (.int .i64 a1_0) ∧ w22.cell? ⟨gb549, 1, none⟩ = some (.int .i64 a1_1) ∧ w22.cell? ⟨gb550, 0, none⟩ = some (.int .i64 a2_0) ∧ w22.cell? ⟨gb550, 1, none⟩ = some (.int .i64 a2_1) ∧ w22.cell? ⟨gb551, 0, none⟩ = some (.int .i64 a3_0) ∧ w22.cell? ⟨gb551, 1, none⟩ = some (.int .i64 a3_1) := hS_
     obtain ⟨Ao23, co23, eo23⟩ := Kd.R_slice HO554.out
     (first | subst eo23 | (injection eo23 with f1_ f2_ f3_; have f4_ := f1_.symm; have f5_ := f3_.symm; clear f1_ f2_ f3_; subst f4_; subst f5_))
     obtain ⟨Ao24, co24, eo24⟩ := Kd.R_slice HO557.out
     (first | subst eo24 | (injection eo24 with f1_ f2_ f3_; have f4_ := f1_.symm; have f5_ := f3_.symm; clear f1_ f2_ f3_; subst f4_; subst f5_))
     refine norm_ (a' := ?_) ?_ ?_
     rotate_left
     ·simp only [putAll, Act.put, List.setIfInBounds_toArray, List.set_cons_zero, List.set_cons_succ]
      rfl
     refine two_ (i := 10) (j := 14) (Ni := some 26) (Nj := some 13) #[true, true, true, true, true, true, true, true, true, true, true, false, false, false, false, false, false] #[true, true, true, true, true, true, true, true, true, true, false, false, false, false, true, false, false] rfl rfl rfl rfl (two_of HT_.out (by kernel_rfl)) (by decide) (by decide) (fun K hK => ?_) (fun K hK => ?_)
     ·skip
      refine goes_ Try.func43 (by kernel_rfl) rfl #[.agg #[.slice Ao23 t552.length co23, .slice Ao24 t555.length co24], .agg #[.int .i64 t558, .int .i64 t559], .agg #[.int .i64 t560, .int .i64 t561], .agg #[.int .i64 t562, .int .i64 t563], .int .i64 a4, .int .i64 a5] (by rfl) rfl rfl al_ ?_
      with_reducible refine (lots_Price.calls k _ _ t552 _ _ t555 t558 t559 t560 t561 t562 t563 a4 a5 t564 t565 t566 _ ?side1 ?side2 ?side3 ?side4 A11.out).mono ?_
      (case side1 => exact kc_ (Kd.R_reads' HO554.out).2.2)
      (case side2 => exact (Kd.R_reads' HO554.out).2.1)
      (case side3 => exact kc_ (Kd.R_reads' HO557.out).2.2)
      (case side4 => exact (Kd.R_reads' HO557.out).2.1)
      rintro e w25 ⟨rfl, hb⟩
      refine ⟨_, rfl, ?_⟩
      have n0_ := Aside0.mk (Kd.R_below (kr_ (HO554.out)) hb)
      have n1_ := Aside0.mk (Kd.R_below (kr_ (HO557.out)) hb)
      have n2_ := Aside0.mk (bkb_ BK548.out hb)
      have n3_ := Aside0.mk (bkb_ BK549.out hb)
      have n4_ := Aside0.mk (bkb_ BK550.out hb)
      have n5_ := Aside0.mk (bkb_ BK551.out hb)
      have n6_ := Aside0.mk (below_step (hb_ HB.out) hb)
      clear HO554
      clear HO557
      clear BK548
      clear BK549
      clear BK550
      clear BK551
      clear HB
      have HO554 := n0_
      have HO557 := n1_
      have BK548 := n2_
      have BK549 := n3_
      have BK550 := n4_
      have BK551 := n5_
      have HB := n6_
      clear n0_ n1_ n2_ n3_ n4_ n5_ n6_
      (try clear hb)
      (try clear hb2)
      (try clear hk)
      (try clear hi)
      refine hK.out _ _ ⟨(blk_cell BK548.out 0).trans rfl, (blk_cell BK548.out 1).trans rfl, (blk_cell BK549.out 0).trans rfl, (blk_cell BK549.out 1).trans rfl, (blk_cell BK550.out 0).trans rfl, (blk_cell BK550.out 1).trans rfl, (blk_cell BK551.out 0).trans rfl, (blk_cell BK551.out 1).trans rfl⟩ (fun hHeld => ?_)
      clear hK K
      refine norm_ (a' := ?_) ?_ ?_
      rotate_left
      ·show Act.put _ (some 26) _ = _
       simp only [Act.put, List.setIfInBounds_toArray, List.set_cons_zero, List.set_cons_succ, i64_w, i32_w]
       rfl
      refine pure_ (i := 11) (N := some 15) (v := ?_) (a' := ?_) #[true, true, true, true, true, true, true, true, true, true, true, true, false, false, false, false, false] rfl rfl (any_of HT_.out (by kernel_rfl)) (fun _ _ _ h => h) (Or.inl ⟨by rfl, ?_⟩) ?_ ?_
      rotate_left
      ·intro w'
       go_simp
       with_reducible rfl
      rotate_left
      ·simp only [Act.put, List.setIfInBounds_toArray, List.set_cons_zero, List.set_cons_succ, i64_w, i32_w]
       rfl
      refine pure_ (i := 12) (N := some 27) (v := ?_) (a' := ?_) #[true, true, true, true, true, true, true, true, true, true, true, true, true, false, false, false, false] rfl rfl (any_of HT_.out (by kernel_rfl)) (fun _ _ _ h => h) (Or.inl ⟨by rfl, ?_⟩) ?_ ?_
      rotate_left
      ·intro w'
       go_simp
       with_reducible rfl
      rotate_left
      ·simp only [Act.put, List.setIfInBounds_toArray, List.set_cons_zero, List.set_cons_succ, i64_w, i32_w]
       rfl
      refine pure_ (i := 13) (N := some 28) (v := ?_) (a' := ?_) #[true, true, true, true, true, true, true, true, true, true, true, true, true, true, false, false, false] rfl rfl (any_of HT_.out (by kernel_rfl)) (fun _ _ _ h => h) (Or.inl ⟨by rfl, ?_⟩) ?_ ?_
      rotate_left
      ·intro w'
       go_simp
       with_reducible rfl
      rotate_left
      ·simp only [Act.put, List.setIfInBounds_toArray, List.set_cons_zero, List.set_cons_succ, i64_w, i32_w]
       rfl
      exact norm_ (by first | (simp only [putAll, Act.put, List.setIfInBounds_toArray, List.set_cons_zero, List.set_cons_succ]; done) | (simp only [putAll, Act.put, List.setIfInBounds_toArray, List.set_cons_zero, List.set_cons_succ]; rfl)) (hJ1_3_5_7_10 (.slice Ao23 t552.length co23, .slice Ao24 t555.length co24) _ ⟨hHeld, (kr_ (HO554.out)), (kr_ (HO557.out)), (bk_ BK548.out), (bk_ BK549.out), (bk_ BK550.out), (bk_ BK551.out), (hb_ HB.out)⟩)
     ·skip
      refine box_step ?hg (N := 13) ?hd (cs := #[.int .i64 0, .int .i64 0]) (t := 28) ?hr ?_; (case hd => rfl); (case hg => rfl); (case hr => first | (go_simp; done) | (go_simp; rfl))
      intro gb567 hg w23 hbox hb
      have n0_ := Aside0.mk (Kd.R_below (kr_ (HO554.out)) hb)
      have n1_ := Aside0.mk (Kd.R_below (kr_ (HO557.out)) hb)
      have n2_ := Aside0.mk (bkb_ BK548.out hb)
      have n3_ := Aside0.mk (bkb_ BK549.out hb)
      have n4_ := Aside0.mk (bkb_ BK550.out hb)
      have n5_ := Aside0.mk (bkb_ BK551.out hb)
      have n6_ := Aside0.mk (below_step (hb_ HB.out) hb)
      have n7_ := Aside0.mk (hbox)
      have n8_ := Aside0.mk ((by rw [hg]; exact (below_size (hb_ HB.out)) : w.heap.size ≤ gb567))
      have n9_ := Aside0.mk ((by rw [hg]; exact (below_size (hb_ HB.out)) : w.heap.size ≤ gb567))
      have n10_ := Aside0.mk ((by rw [hg]; exact Nat.ne_of_lt (bkl_ BK548.out) : gb548 ≠ gb567))
      have n11_ := Aside0.mk ((by rw [hg]; exact Nat.ne_of_gt (bkl_ BK548.out) : gb567 ≠ gb548))
      have n12_ := Aside0.mk ((by rw [hg]; exact Nat.ne_of_lt (bkl_ BK549.out) : gb549 ≠ gb567))
      have n13_ := Aside0.mk ((by rw [hg]; exact Nat.ne_of_gt (bkl_ BK549.out) : gb567 ≠ gb549))
      have n14_ := Aside0.mk ((by rw [hg]; exact Nat.ne_of_lt (bkl_ BK550.out) : gb550 ≠ gb567))
      have n15_ := Aside0.mk ((by rw [hg]; exact Nat.ne_of_gt (bkl_ BK550.out) : gb567 ≠ gb550))
      have n16_ := Aside0.mk ((by rw [hg]; exact Nat.ne_of_lt (bkl_ BK551.out) : gb551 ≠ gb567))
      have n17_ := Aside0.mk ((by rw [hg]; exact Nat.ne_of_gt (bkl_ BK551.out) : gb567 ≠ gb551))
      clear HO554
      clear HO557
      clear BK548
      clear BK549
      clear BK550
      clear BK551
      clear HB
      have HO554 := n0_
      have HO557 := n1_
      have BK548 := n2_
      have BK549 := n3_
      have BK550 := n4_
      have BK551 := n5_
      have HB := n6_
      have BK567 := n7_
      have GW567 := n8_
      have GE567 := n9_
      have NB548_567 := n10_
      have NB567_548 := n11_
      have NB549_567 := n12_
      have NB567_549 := n13_
      have NB550_567 := n14_
      have NB567_550 := n15_
      have NB551_567 := n16_
      have NB567_551 := n17_
      clear n0_ n1_ n2_ n3_ n4_ n5_ n6_ n7_ n8_ n9_ n10_ n11_ n12_ n13_ n14_ n15_ n16_ n17_
      clear hb hbox hg
      refine hK.out _ _ ⟨(blk_cell BK548.out 0).trans rfl, (blk_cell BK548.out 1).trans rfl, (blk_cell BK549.out 0).trans rfl, (blk_cell BK549.out 1).trans rfl, (blk_cell BK550.out 0).trans rfl, (blk_cell BK550.out 1).trans rfl, (blk_cell BK551.out 0).trans rfl, (blk_cell BK551.out 1).trans rfl⟩ (fun hHeld => ?_)
      clear hK K
      refine norm_ (a' := ?_) ?_ ?_
      rotate_left
      ·show Act.put _ (some 13) _ = _
       simp only [Act.put, List.setIfInBounds_toArray, List.set_cons_zero, List.set_cons_succ, i64_w, i32_w]
       rfl
      exact norm_ (by first | (simp only [putAll, Act.put, List.setIfInBounds_toArray, List.set_cons_zero, List.set_cons_succ]; done) | (simp only [putAll, Act.put, List.setIfInBounds_toArray, List.set_cons_zero, List.set_cons_succ]; rfl)) (hJ1_3_5_7_14 (.slice Ao23 t552.length co23, .slice Ao24 t555.length co24, gb567) _ ⟨hHeld, (kr_ (HO554.out)), (kr_ (HO557.out)), (bk_ BK548.out), (bk_ BK549.out), (bk_ BK550.out), (bk_ BK551.out), (bk_ BK567.out), GW567.out, GE567.out, NB548_567.out, NB567_548.out, NB549_567.out, NB567_549.out, NB550_567.out, NB567_550.out, NB551_567.out, NB567_551.out, (hb_ HB.out)⟩)
   ·skip
    rintro ⟨v553, v556, gb567⟩ w23 ⟨hS_, h0_, h1_, h2_, h3_, h4_, h5_, h6_, h7_, h8_, h9_, h10_, h11_, h12_, h13_, h14_, h15_, h16_, h17_⟩
    have n0_ : Aside0 (Kd.R (Kd.int .i64) 3 w23 w.heap.size (fun k_ => some k_ ≠ (v556 : Value).ownBlock) v553 t552) := ⟨h0_⟩
    have n1_ : Aside0 (Kd.R (Kd.int .i64) 3 w23 w.heap.size (fun k_ => some k_ ≠ (v553 : Value).ownBlock) v556 t555) := ⟨h1_⟩
    have n2_ : Aside0 (w23.heap[gb548]? = some (.cells #[.slice A0_0 l0_0.length c0_0, .slice A0_1 l0_1.length c0_1] 24 (0, 0))) := ⟨h2_⟩
    have n3_ : Aside0 (w23.heap[gb549]? = some (.cells #[.int .i64 a1_0, .int .i64 a1_1] 26 (0, 0))) := ⟨h3_⟩
    have n4_ : Aside0 (w23.heap[gb550]? = some (.cells #[.int .i64 a2_0, .int .i64 a2_1] 26 (0, 0))) := ⟨h4_⟩
    have n5_ : Aside0 (w23.heap[gb551]? = some (.cells #[.int .i64 a3_0, .int .i64 a3_1] 26 (0, 0))) := ⟨h5_⟩
    have n6_ : Aside0 (w23.heap[gb567]? = some (.cells #[.int .i64 0, .int .i64 0] 28 (0, 0))) := ⟨h6_⟩
    have n7_ : Aside0 (w.heap.size ≤ gb567) := ⟨h7_⟩
    have n8_ : Aside0 (w.heap.size ≤ gb567) := ⟨h8_⟩
    have n9_ : Aside0 (gb548 ≠ gb567) := ⟨h9_⟩
    have n10_ : Aside0 (gb567 ≠ gb548) := ⟨h10_⟩
    have n11_ : Aside0 (gb549 ≠ gb567) := ⟨h11_⟩
    have n12_ : Aside0 (gb567 ≠ gb549) := ⟨h12_⟩
    have n13_ : Aside0 (gb550 ≠ gb567) := ⟨h13_⟩
    have n14_ : Aside0 (gb567 ≠ gb550) := ⟨h14_⟩
    have n15_ : Aside0 (gb551 ≠ gb567) := ⟨h15_⟩
    have n16_ : Aside0 (gb567 ≠ gb551) := ⟨h16_⟩
    have n17_ : Aside0 (Below w.heap.size w w23) := ⟨h17_⟩
    clear BK548
    clear BK549
    clear BK550
    clear BK551
    clear HB
    clear h0_ h1_ h2_ h3_ h4_ h5_ h6_ h7_ h8_ h9_ h10_ h11_ h12_ h13_ h14_ h15_ h16_ h17_
    have HO554 := n0_
    have HO557 := n1_
    have BK548 := n2_
    have BK549 := n3_
    have BK550 := n4_
    have BK551 := n5_
    have BK567 := n6_
    have GW567 := n7_
    have GE567 := n8_
    have NB548_567 := n9_
    have NB567_548 := n10_
    have NB549_567 := n11_
    have NB567_549 := n12_
    have NB550_567 := n13_
    have NB567_550 := n14_
    have NB551_567 := n15_
    have NB567_551 := n16_
    have HB := n17_
    clear n0_ n1_ n2_ n3_ n4_ n5_ n6_ n7_ n8_ n9_ n10_ n11_ n12_ n13_ n14_ n15_ n16_ n17_
    have hHeld : w23.cell? ⟨gb548, 0, none⟩ = some (.slice A0_0 l0_0.length c0_0) ∧ w23.cell? ⟨gb548, 1, none⟩ = some (.slice A0_1 l0_1.length c0_1) ∧ w23.cell? ⟨gb549, 0, none⟩ = some (.int .i64 a1_0) ∧ w23.cell? ⟨gb549, 1, none⟩ = some (.int .i64 a1_1) ∧ w23.cell? ⟨gb550, 0, none⟩ = some (.int .i64 a2_0) ∧ w23.cell? ⟨gb550, 1, none⟩ = some (.int .i64 a2_1) ∧ w23.cell? ⟨gb551, 0, none⟩ = some (.int .i64 a3_0) ∧ w23.cell? ⟨gb551, 1, none⟩ = some (.int .i64 a3_1) := hS_
    obtain ⟨Ao24, co24, eo24⟩ := Kd.R_slice HO554.out
    (first | subst eo24 | (injection eo24 with f1_ f2_ f3_; have f4_ := f1_.symm; have f5_ := f3_.symm; clear f1_ f2_ f3_; subst f4_; subst f5_))
    obtain ⟨Ao25, co25, eo25⟩ := Kd.R_slice HO557.out
    (first | subst eo25 | (injection eo25 with f1_ f2_ f3_; have f4_ := f1_.symm; have f5_ := f3_.symm; clear f1_ f2_ f3_; subst f4_; subst f5_))
    refine norm_ (a' := ?_) ?_ ?_
    rotate_left
    ·simp only [putAll, Act.put, List.setIfInBounds_toArray, List.set_cons_zero, List.set_cons_succ]
     rfl
    refine one_ (i := 10) (N := some 26) #[true, true, true, true, true, true, true, true, true, true, true, false, false, false, true, false, false] rfl rfl (one_of HT_.out (by kernel_rfl)) (by decide) (fun K hK => ?_)
    refine goes_ Try.func43 (by kernel_rfl) rfl #[.agg #[.slice Ao24 t552.length co24, .slice Ao25 t555.length co25], .agg #[.int .i64 t558, .int .i64 t559], .agg #[.int .i64 t560, .int .i64 t561], .agg #[.int .i64 t562, .int .i64 t563], .int .i64 a4, .int .i64 a5] (by rfl) rfl rfl al_ ?_
    with_reducible refine (lots_Price.calls k _ _ t552 _ _ t555 t558 t559 t560 t561 t562 t563 a4 a5 t564 t565 t566 _ ?side1 ?side2 ?side3 ?side4 A11.out).mono ?_
    (case side1 => exact kc_ (Kd.R_reads' HO554.out).2.2)
    (case side2 => exact (Kd.R_reads' HO554.out).2.1)
    (case side3 => exact kc_ (Kd.R_reads' HO557.out).2.2)
    (case side4 => exact (Kd.R_reads' HO557.out).2.1)
    rintro e w26 ⟨rfl, hb⟩
    refine ⟨_, rfl, ?_⟩
    have n0_ := Aside0.mk (Kd.R_below (kr_ (HO554.out)) hb)
    have n1_ := Aside0.mk (Kd.R_below (kr_ (HO557.out)) hb)
    have n2_ := Aside0.mk (bkb_ BK548.out hb)
    have n3_ := Aside0.mk (bkb_ BK549.out hb)
    have n4_ := Aside0.mk (bkb_ BK550.out hb)
    have n5_ := Aside0.mk (bkb_ BK551.out hb)
    have n6_ := Aside0.mk (bkb_ BK567.out hb)
    have n7_ := Aside0.mk (below_step (hb_ HB.out) hb)
    clear HO554
    clear HO557
    clear BK548
    clear BK549
    clear BK550
    clear BK551
    clear BK567
    clear HB
    have HO554 := n0_
    have HO557 := n1_
    have BK548 := n2_
    have BK549 := n3_
    have BK550 := n4_
    have BK551 := n5_
    have BK567 := n6_
    have HB := n7_
    clear n0_ n1_ n2_ n3_ n4_ n5_ n6_ n7_
    (try clear hb)
    (try clear hb2)
    (try clear hk)
    (try clear hi)
    refine hK.out _ _ ⟨(blk_cell BK548.out 0).trans rfl, (blk_cell BK548.out 1).trans rfl, (blk_cell BK549.out 0).trans rfl, (blk_cell BK549.out 1).trans rfl, (blk_cell BK550.out 0).trans rfl, (blk_cell BK550.out 1).trans rfl, (blk_cell BK551.out 0).trans rfl, (blk_cell BK551.out 1).trans rfl⟩ (fun hHeld => ?_)
    clear hK K
    refine norm_ (a' := ?_) ?_ ?_
    rotate_left
    ·show Act.put _ (some 26) _ = _
     simp only [Act.put, List.setIfInBounds_toArray, List.set_cons_zero, List.set_cons_succ, i64_w, i32_w]
     rfl
    refine pure_ (i := 11) (N := some 15) (v := ?_) (a' := ?_) #[true, true, true, true, true, true, true, true, true, true, true, true, false, false, true, false, false] rfl rfl (any_of HT_.out (by kernel_rfl)) (fun _ _ _ h => h) (Or.inl ⟨by rfl, ?_⟩) ?_ ?_
    rotate_left
    ·intro w'
     go_simp
     with_reducible rfl
    rotate_left
    ·simp only [Act.put, List.setIfInBounds_toArray, List.set_cons_zero, List.set_cons_succ, i64_w, i32_w]
     rfl
    refine pure_ (i := 12) (N := some 27) (v := ?_) (a' := ?_) #[true, true, true, true, true, true, true, true, true, true, true, true, true, false, true, false, false] rfl rfl (any_of HT_.out (by kernel_rfl)) (fun _ _ _ h => h) (Or.inl ⟨by rfl, ?_⟩) ?_ ?_
    rotate_left
    ·intro w'
     go_simp
     with_reducible rfl
    rotate_left
    ·simp only [Act.put, List.setIfInBounds_toArray, List.set_cons_zero, List.set_cons_succ, i64_w, i32_w]
     rfl
    refine pure_ (i := 13) (N := some 28) (v := ?_) (a' := ?_) #[true, true, true, true, true, true, true, true, true, true, true, true, true, true, true, false, false] rfl rfl (any_of HT_.out (by kernel_rfl)) (fun _ _ _ h => h) (Or.inl ⟨by rfl, ?_⟩) ?_ ?_
    rotate_left
    ·intro w'
     go_simp
     with_reducible rfl
    rotate_left
    ·simp only [Act.put, List.setIfInBounds_toArray, List.set_cons_zero, List.set_cons_succ, i64_w, i32_w]
     rfl
    exact norm_ (by first | (simp only [putAll, Act.put, List.setIfInBounds_toArray, List.set_cons_zero, List.set_cons_succ]; done) | (simp only [putAll, Act.put, List.setIfInBounds_toArray, List.set_cons_zero, List.set_cons_succ]; rfl)) (hJ1_3_5_7_10_14 (.slice Ao24 t552.length co24, .slice Ao25 t555.length co25, gb567) _ ⟨hHeld, (kr_ (HO554.out)), (kr_ (HO557.out)), (bk_ BK548.out), (bk_ BK549.out), (bk_ BK550.out), (bk_ BK551.out), (bk_ BK567.out), GW567.out, GE567.out, NB548_567.out, NB567_548.out, NB549_567.out, NB567_549.out, NB550_567.out, NB567_550.out, NB551_567.out, NB567_551.out, (hb_ HB.out)⟩)
  ·skip
   rintro ⟨v553, v556⟩ w25 ⟨hS_, h0_, h1_, h2_, h3_, h4_, h5_, h6_⟩
   have n0_ : Aside0 (Kd.R (Kd.int .i64) 3 w25 w.heap.size (fun k_ => some k_ ≠ (v556 : Value).ownBlock) v553 t552) := ⟨h0_⟩
   have n1_ : Aside0 (Kd.R (Kd.int .i64) 3 w25 w.heap.size (fun k_ => some k_ ≠ (v553 : Value).ownBlock) v556 t555) := ⟨h1_⟩
   have n2_ : Aside0 (w25.heap[gb548]? = some (.cells #[.slice A0_0 l0_0.length c0_0, .slice A0_1 l0_1.length c0_1] 24 (0, 0))) := ⟨h2_⟩
   have n3_ : Aside0 (w25.heap[gb549]? = some (.cells #[.int .i64 a1_0, .int .i64 a1_1] 26 (0, 0))) := ⟨h3_⟩
   have n4_ : Aside0 (w25.heap[gb550]? = some (.cells #[.int .i64 a2_0, .int .i64 a2_1] 26 (0, 0))) := ⟨h4_⟩
   have n5_ : Aside0 (w25.heap[gb551]? = some (.cells #[.int .i64 a3_0, .int .i64 a3_1] 26 (0, 0))) := ⟨h5_⟩
   have n6_ : Aside0 (Below w.heap.size w w25) := ⟨h6_⟩
   clear BK548
   clear BK549
   clear BK550
   clear BK551
   clear HB
   clear h0_ h1_ h2_ h3_ h4_ h5_ h6_
   have HO554 := n0_
   have HO557 := n1_
   have BK548 := n2_
   have BK549 := n3_
   have BK550 := n4_
   have BK551 := n5_
   have HB := n6_
   clear n0_ n1_ n2_ n3_ n4_ n5_ n6_
   have hHeld : w25.cell? ⟨gb548, 0, none⟩ = some (.slice A0_0 l0_0.length c0_0) ∧ w25.cell? ⟨gb548, 1, none⟩ = some (.slice A0_1 l0_1.length c0_1) ∧ w25.cell? ⟨gb549, 0, none⟩ = some (.int .i64 a1_0) ∧ w25.cell? ⟨gb549, 1, none⟩ = some (.int .i64 a1_1) ∧ w25.cell? ⟨gb550, 0, none⟩ = some (.int .i64 a2_0) ∧ w25.cell? ⟨gb550, 1, none⟩ = some (.int .i64 a2_1) ∧ w25.cell? ⟨gb551, 0, none⟩ = some (.int .i64 a3_0) ∧ w25.cell? ⟨gb551, 1, none⟩ = some (.int .i64 a3_1) := hS_
   refine norm_ (a' := ?_) ?_ ?_
   rotate_left
   ·simp only [putAll, Act.put, List.setIfInBounds_toArray, List.set_cons_zero, List.set_cons_succ]
    rfl
   refine one_ (i := 14) (N := some 13) #[true, true, true, true, true, true, true, true, true, true, true, true, true, true, true, false, false] rfl rfl (one_of HT_.out (by kernel_rfl)) (by decide) (fun K hK => ?_)
   refine box_step ?hg (N := 13) ?hd (cs := #[.int .i64 0, .int .i64 0]) (t := 28) ?hr ?_; (case hd => rfl); (case hg => rfl); (case hr => first | (go_simp; done) | (go_simp; rfl))
   intro gb567 hg w26 hbox hb
   have n0_ := Aside0.mk (Kd.R_below (kr_ (HO554.out)) hb)
   have n1_ := Aside0.mk (Kd.R_below (kr_ (HO557.out)) hb)
   have n2_ := Aside0.mk (bkb_ BK548.out hb)
   have n3_ := Aside0.mk (bkb_ BK549.out hb)
   have n4_ := Aside0.mk (bkb_ BK550.out hb)
   have n5_ := Aside0.mk (bkb_ BK551.out hb)
   have n6_ := Aside0.mk (below_step (hb_ HB.out) hb)
   have n7_ := Aside0.mk (hbox)
   have n8_ := Aside0.mk ((by rw [hg]; exact (below_size (hb_ HB.out)) : w.heap.size ≤ gb567))
   have n9_ := Aside0.mk ((by rw [hg]; exact (below_size (hb_ HB.out)) : w.heap.size ≤ gb567))
   have n10_ := Aside0.mk ((by rw [hg]; exact Nat.ne_of_lt (bkl_ BK548.out) : gb548 ≠ gb567))
   have n11_ := Aside0.mk ((by rw [hg]; exact Nat.ne_of_gt (bkl_ BK548.out) : gb567 ≠ gb548))
   have n12_ := Aside0.mk ((by rw [hg]; exact Nat.ne_of_lt (bkl_ BK549.out) : gb549 ≠ gb567))
   have n13_ := Aside0.mk ((by rw [hg]; exact Nat.ne_of_gt (bkl_ BK549.out) : gb567 ≠ gb549))
   have n14_ := Aside0.mk ((by rw [hg]; exact Nat.ne_of_lt (bkl_ BK550.out) : gb550 ≠ gb567))
   have n15_ := Aside0.mk ((by rw [hg]; exact Nat.ne_of_gt (bkl_ BK550.out) : gb567 ≠ gb550))
   have n16_ := Aside0.mk ((by rw [hg]; exact Nat.ne_of_lt (bkl_ BK551.out) : gb551 ≠ gb567))
   have n17_ := Aside0.mk ((by rw [hg]; exact Nat.ne_of_gt (bkl_ BK551.out) : gb567 ≠ gb551))
   clear HO554
   clear HO557
   clear BK548
   clear BK549
   clear BK550
   clear BK551
   clear HB
   have HO554 := n0_
   have HO557 := n1_
   have BK548 := n2_
   have BK549 := n3_
   have BK550 := n4_
   have BK551 := n5_
   have HB := n6_
   have BK567 := n7_
   have GW567 := n8_
   have GE567 := n9_
   have NB548_567 := n10_
   have NB567_548 := n11_
   have NB549_567 := n12_
   have NB567_549 := n13_
   have NB550_567 := n14_
   have NB567_550 := n15_
   have NB551_567 := n16_
   have NB567_551 := n17_
   clear n0_ n1_ n2_ n3_ n4_ n5_ n6_ n7_ n8_ n9_ n10_ n11_ n12_ n13_ n14_ n15_ n16_ n17_
   clear hb hbox hg
   refine hK.out _ _ ⟨(blk_cell BK548.out 0).trans rfl, (blk_cell BK548.out 1).trans rfl, (blk_cell BK549.out 0).trans rfl, (blk_cell BK549.out 1).trans rfl, (blk_cell BK550.out 0).trans rfl, (blk_cell BK550.out 1).trans rfl, (blk_cell BK551.out 0).trans rfl, (blk_cell BK551.out 1).trans rfl⟩ (fun hHeld => ?_)
   clear hK K
   refine norm_ (a' := ?_) ?_ ?_
   rotate_left
   ·show Act.put _ (some 13) _ = _
    simp only [Act.put, List.setIfInBounds_toArray, List.set_cons_zero, List.set_cons_succ, i64_w, i32_w]
    rfl
   exact norm_ (by first | (simp only [putAll, Act.put, List.setIfInBounds_toArray, List.set_cons_zero, List.set_cons_succ]; done) | (simp only [putAll, Act.put, List.setIfInBounds_toArray, List.set_cons_zero, List.set_cons_succ]; rfl)) (hJ1_3_5_7_10_14 (v553, v556, gb567) _ ⟨hHeld, (kr_ (HO554.out)), (kr_ (HO557.out)), (bk_ BK548.out), (bk_ BK549.out), (bk_ BK550.out), (bk_ BK551.out), (bk_ BK567.out), GW567.out, GE567.out, NB548_567.out, NB567_548.out, NB549_567.out, NB567_549.out, NB550_567.out, NB567_550.out, NB551_567.out, NB567_551.out, (hb_ HB.out)⟩)
 rintro ⟨v553, v556, gb567⟩ w26 ⟨hS_, h0_, h1_, h2_, h3_, h4_, h5_, h6_, h7_, h8_, h9_, h10_, h11_, h12_, h13_, h14_, h15_, h16_, h17_⟩
 have n0_ : Aside0 (Kd.R (Kd.int .i64) 3 w26 w.heap.size (fun k_ => some k_ ≠ (v556 : Value).ownBlock) v553 t552) := ⟨h0_⟩
 have n1_ : Aside0 (Kd.R (Kd.int .i64) 3 w26 w.heap.size (fun k_ => some k_ ≠ (v553 : Value).ownBlock) v556 t555) := ⟨h1_⟩
 have n2_ : Aside0 (w26.heap[gb548]? = some (.cells #[.slice A0_0 l0_0.length c0_0, .slice A0_1 l0_1.length c0_1] 24 (0, 0))) := ⟨h2_⟩
 have n3_ : Aside0 (w26.heap[gb549]? = some (.cells #[.int .i64 a1_0, .int .i64 a1_1] 26 (0, 0))) := ⟨h3_⟩
 have n4_ : Aside0 (w26.heap[gb550]? = some (.cells #[.int .i64 a2_0, .int .i64 a2_1] 26 (0, 0))) := ⟨h4_⟩
 have n5_ : Aside0 (w26.heap[gb551]? = some (.cells #[.int .i64 a3_0, .int .i64 a3_1] 26 (0, 0))) := ⟨h5_⟩
 have n6_ : Aside0 (w26.heap[gb567]? = some (.cells #[.int .i64 0, .int .i64 0] 28 (0, 0))) := ⟨h6_⟩
 have n7_ : Aside0 (w.heap.size ≤ gb567) := ⟨h7_⟩
 have n8_ : Aside0 (w.heap.size ≤ gb567) := ⟨h8_⟩
 have n9_ : Aside0 (gb548 ≠ gb567) := ⟨h9_⟩
 have n10_ : Aside0 (gb567 ≠ gb548) := ⟨h10_⟩
 have n11_ : Aside0 (gb549 ≠ gb567) := ⟨h11_⟩
 have n12_ : Aside0 (gb567 ≠ gb549) := ⟨h12_⟩
 have n13_ : Aside0 (gb550 ≠ gb567) := ⟨h13_⟩
 have n14_ : Aside0 (gb567 ≠ gb550) := ⟨h14_⟩
 have n15_ : Aside0 (gb551 ≠ gb567) := ⟨h15_⟩
 have n16_ : Aside0 (gb567 ≠ gb551) := ⟨h16_⟩
 have n17_ : Aside0 (Below w.heap.size w w26) := ⟨h17_⟩
 clear BK548
 clear BK549
 clear BK550
 clear BK551
 clear HB
 clear h0_ h1_ h2_ h3_ h4_ h5_ h6_ h7_ h8_ h9_ h10_ h11_ h12_ h13_ h14_ h15_ h16_ h17_
 have HO554 := n0_
 have HO557 := n1_
 have BK548 := n2_
 have BK549 := n3_
 have BK550 := n4_
 have BK551 := n5_
 have BK567 := n6_
 have GW567 := n7_
 have GE567 := n8_
 have NB548_567 := n9_
 have NB567_548 := n10_
 have NB549_567 := n11_
 have NB567_549 := n12_
 have NB550_567 := n13_
 have NB567_550 := n14_
 have NB551_567 := n15_
 have NB567_551 := n16_
 have HB := n17_
 clear n0_ n1_ n2_ n3_ n4_ n5_ n6_ n7_ n8_ n9_ n10_ n11_ n12_ n13_ n14_ n15_ n16_ n17_
 have hHeld : w26.cell? ⟨gb548, 0, none⟩ = some (.slice A0_0 l0_0.length c0_0) ∧ w26.cell? ⟨gb548, 1, none⟩ = some (.slice A0_1 l0_1.length c0_1) ∧ w26.cell? ⟨gb549, 0, none⟩ = some (.int .i64 a1_0) ∧ w26.cell? ⟨gb549, 1, none⟩ = some (.int .i64 a1_1) ∧ w26.cell? ⟨gb550, 0, none⟩ = some (.int .i64 a2_0) ∧ w26.cell? ⟨gb550, 1, none⟩ = some (.int .i64 a2_1) ∧ w26.cell? ⟨gb551, 0, none⟩ = some (.int .i64 a3_0) ∧ w26.cell? ⟨gb551, 1, none⟩ = some (.int .i64 a3_1) := hS_
 refine norm_ (a' := ?_) ?_ ?_
 rotate_left
 ·simp only [putAll, Act.put, List.setIfInBounds_toArray, List.set_cons_zero, List.set_cons_succ]
  rfl
 refine one_ (i := 15) (N := none) #[true, true, true, true, true, true, true, true, true, true, true, true, true, true, true, true, false] rfl rfl (one_of HT_.out (by kernel_rfl)) (by decide) (fun K hK => ?_)
 have hs27 : w26.cell? ⟨gb567, 0, none⟩ = some (.int .i64 0) := (blk_cell BK567.out 0).trans rfl
 have hfs27 := blk_frozen BK567.out 0
 have hns27_0 := NB548_567.out
 have hns27_1 := NB549_567.out
 have hns27_2 := NB550_567.out
 have hns27_3 := NB551_567.out
 have hms27_0 := NB567_548.out
 have hms27_1 := NB567_549.out
 have hms27_2 := NB567_550.out
 have hms27_3 := NB567_551.out
 have hs28 : w26.cell? ⟨gb567, 1, none⟩ = some (.int .i64 0) := (blk_cell BK567.out 1).trans rfl
 have hfs28 := blk_frozen BK567.out 1
 have hns28_0 := NB548_567.out
 have hns28_1 := NB549_567.out
 have hns28_2 := NB550_567.out
 have hns28_3 := NB551_567.out
 have hms28_0 := NB567_548.out
 have hms28_1 := NB567_549.out
 have hms28_2 := NB567_550.out
 have hms28_3 := NB567_551.out
 refine skip_ (w1 := ?_) (by rfl) rfl ?_ ?_
 rotate_left
 ·go_simp
  rfl
 refine hK.out _ _ ⟨((cell_far (p := ⟨gb567, _, none⟩) NB548_567.out _).trans (((cell_far (p := ⟨gb567, _, none⟩) NB548_567.out _).trans (hHeld.1)))), ((cell_far (p := ⟨gb567, _, none⟩) NB548_567.out _).trans (((cell_far (p := ⟨gb567, _, none⟩) NB548_567.out _).trans (hHeld.2.1)))), ((cell_far (p := ⟨gb567, _, none⟩) NB549_567.out _).trans (((cell_far (p := ⟨gb567, _, none⟩) NB549_567.out _).trans (hHeld.2.2.1)))), ((cell_far (p := ⟨gb567, _, none⟩) NB549_567.out _).trans (((cell_far (p := ⟨gb567, _, none⟩) NB549_567.out _).trans (hHeld.2.2.2.1)))), ((cell_far (p := ⟨gb567, _, none⟩) NB550_567.out _).trans (((cell_far (p := ⟨gb567, _, none⟩) NB550_567.out _).trans (hHeld.2.2.2.2.1)))), ((cell_far (p := ⟨gb567, _, none⟩) NB550_567.out _).trans (((cell_far (p := ⟨gb567, _, none⟩) NB550_567.out _).trans (hHeld.2.2.2.2.2.1)))), ((cell_far (p := ⟨gb567, _, none⟩) NB551_567.out _).trans (((cell_far (p := ⟨gb567, _, none⟩) NB551_567.out _).trans (hHeld.2.2.2.2.2.2.1)))), ((cell_far (p := ⟨gb567, _, none⟩) NB551_567.out _).trans (((cell_far (p := ⟨gb567, _, none⟩) NB551_567.out _).trans (hHeld.2.2.2.2.2.2.2))))⟩ (fun hHeld => ?_)
 clear hK K
 refine pure_ (i := 16) (N := some 14) (v := ?_) (a' := ?_) #[true, true, true, true, true, true, true, true, true, true, true, true, true, true, true, true, true] rfl rfl (any_of HT_.out (by kernel_rfl)) (fun _ _ _ h => h) (Or.inl ⟨by rfl, ?_⟩) ?_ ?_
 rotate_left
 ·intro w'
  go_simp
  with_reducible rfl
 rotate_left
 ·simp only [Act.put, List.setIfInBounds_toArray, List.set_cons_zero, List.set_cons_succ, i64_w, i32_w]
  rfl
 refine done_ (done_of HT_.out (by kernel_rfl)) ?_
 go_upto_region 2 with (fail)
 go_cut [58] (fun v58 wc => ∃ (kq : Nat) (x58_11 : Bool), v58 = .bool x58_11 ∧ Aside0 (comfitlaw02_LotsPrices.j0 kq a4 a5 t566 x58_11 l0_0 l0_1 a1_0 a1_1 a2_0 a2_1 a3_0 a3_1 t564 t565 = some r) ∧ Aside0 (kq ≤ k) ∧ Aside0 (wc.heap[gb548]? = some (.cells #[(.slice A0_0 l0_0.length c0_0), (.slice A0_1 l0_1.length c0_1)] 24 (0, 0))) ∧ Aside0 (wc.heap[gb549]? = some (.cells #[.int .i64 a1_0, .int .i64 a1_1] 26 (0, 0))) ∧ Aside0 (wc.heap[gb550]? = some (.cells #[.int .i64 a2_0, .int .i64 a2_1] 26 (0, 0))) ∧ Aside0 (wc.heap[gb551]? = some (.cells #[.int .i64 a3_0, .int .i64 a3_1] 26 (0, 0))) ∧ Aside0 (wc.heap[gb567]? = some (.cells #[.int .i64 t564, .int .i64 t565] 28 (0, 0))) ∧ Aside0 (Below w.heap.size w wc))
 case first =>
  have H := HC12.out
  clear HC12
  replace H := Option.bind_eq_some_iff.mp H
  obtain ⟨t568, A290, H⟩ := H
  replace H : (if t568 = true then (if (l0_0.length : Int) > 6 then (comfitlaw02_LotsPrices.j0 k a4 a5 t566 true l0_0 l0_1 a1_0 a1_1 a2_0 a2_1 a3_0 a3_1 t564 t565) else ((comfitref02_Is.f a1_0 a1_1).bind fun t569 => (if t569 = true then ((comfitref02_Is.f a2_0 a2_1).bind fun t570 => (if t570 = true then ((comfitref02_Is.f a3_0 a3_1).bind fun t571 => (if t571 = true then ((comfitref02_Cost.f a4 a5).bind fun t572 => (comfitlaw02_LotsPrices.j0 k a4 a5 t566 (!t572) l0_0 l0_1 a1_0 a1_1 a2_0 a2_1 a3_0 a3_1 t564 t565)) else (comfitlaw02_LotsPrices.j0 k a4 a5 t566 true l0_0 l0_1 a1_0 a1_1 a2_0 a2_1 a3_0 a3_1 t564 t565))) else (comfitlaw02_LotsPrices.j0 k a4 a5 t566 true l0_0 l0_1 a1_0 a1_1 a2_0 a2_1 a3_0 a3_1 t564 t565))) else (comfitlaw02_LotsPrices.j0 k a4 a5 t566 true l0_0 l0_1 a1_0 a1_1 a2_0 a2_1 a3_0 a3_1 t564 t565)))) else (comfitlaw02_LotsPrices.j0 k a4 a5 t566 true l0_0 l0_1 a1_0 a1_1 a2_0 a2_1 a3_0 a3_1 t564 t565)) = some r := H
  have A29 := Aside0.mk A290
  clear A290
  by_cases c30 : t568 = true
  ·subst c30
   have H1 : (if (l0_0.length : Int) > 6 then (comfitlaw02_LotsPrices.j0 k a4 a5 t566 true l0_0 l0_1 a1_0 a1_1 a2_0 a2_1 a3_0 a3_1 t564 t565) else ((comfitref02_Is.f a1_0 a1_1).bind fun t569 => (if t569 = true then ((comfitref02_Is.f a2_0 a2_1).bind fun t570 => (if t570 = true then ((comfitref02_Is.f a3_0 a3_1).bind fun t571 => (if t571 = true then ((comfitref02_Cost.f a4 a5).bind fun t572 => (comfitlaw02_LotsPrices.j0 k a4 a5 t566 (!t572) l0_0 l0_1 a1_0 a1_1 a2_0 a2_1 a3_0 a3_1 t564 t565)) else (comfitlaw02_LotsPrices.j0 k a4 a5 t566 true l0_0 l0_1 a1_0 a1_1 a2_0 a2_1 a3_0 a3_1 t564 t565))) else (comfitlaw02_LotsPrices.j0 k a4 a5 t566 true l0_0 l0_1 a1_0 a1_1 a2_0 a2_1 a3_0 a3_1 t564 t565))) else (comfitlaw02_LotsPrices.j0 k a4 a5 t566 true l0_0 l0_1 a1_0 a1_1 a2_0 a2_1 a3_0 a3_1 t564 t565)))) = some r := by rw [if_pos rfl] at H; exact H
   clear H
   have H := H1
   clear H1
   by_cases c31 : (l0_0.length : Int) > 6
   ·rw [if_pos c31] at H
    have c31b0 : decide (6 < (l0_0.length : Int)) = true := decide_eq_true c31
    have c31b1 : decide (6 < l0_0.length) = true := decide_eq_true (by omega)
    clear c31
    (first | rw [c31b0] | (simp only [i64_w, i32_w]; rw [c31b0]) | skip)
    have H' := Aside0.mk H
    clear H
    have hnb32 := NB548_549.out
    have hnc32 := NB549_548.out
    have hnb33 := NB548_550.out
    have hnc33 := NB550_548.out
    have hnb34 := NB548_551.out
    have hnc34 := NB551_548.out
    have hnb35 := NB548_567.out
    have hnc35 := NB567_548.out
    have hcz36_0 : w26.cell? ⟨gb548, 0, none⟩ = some (.slice A0_0 l0_0.length c0_0) := (blk_cell BK548.out 0).trans rfl
    have hcz36_1 : w26.cell? ⟨gb548, 1, none⟩ = some (.slice A0_1 l0_1.length c0_1) := (blk_cell BK548.out 1).trans rfl
    have hfz36_0 := blk_frozen BK548.out 0
    have hfz36_1 := blk_frozen BK548.out 1
    go_wp2_with (first | ((with_reducible refine gate_callee (f := 23) rfl ?_); refine goesL_ (some 30) rfl rfl Try.func23 (by kernel_rfl) rfl #[.agg #[.slice A0_0 l0_0.length c0_0, .slice A0_1 l0_1.length c0_1]] rfl al_ ?_; (with_reducible refine (comfitref02_Valid.calls k _ _ l0_0 _ _ l0_1 true _ ?side1 ?side2 ?side3 ?side4 A29.out).mono ?_); (case side1 => exact Kd.C_below HR0_0.out (hb_ HB.out)); (case side2 => exact HC0_0.out); (case side3 => exact Kd.C_below HR0_1.out (hb_ HB.out)); (case side4 => exact HC0_1.out); rintro e w37 ⟨rfl, hb⟩; refine ⟨_, rfl, ?_⟩; have n0_ := Aside0.mk (Kd.R_below (by (with_reducible repeat (first | apply Kd.R_alloc | apply Kd.R_drewN | apply Kd.R_drew)); exact (Kd.R_mono (Kd.R_far (p := ⟨gb567, 1, none⟩) (Kd.R_far (p := ⟨gb567, 0, none⟩) (Kd.R_types HO554.out BK567.out (by decide)) (fun _ hk => hk.2) (.int .i64 t564)) (fun _ hk => hk.2) (.int .i64 t565)) (fun _ h_ => h_.1))) hb); have n1_ := Aside0.mk (Kd.R_below (by (with_reducible repeat (first | apply Kd.R_alloc | apply Kd.R_drewN | apply Kd.R_drew)); exact (Kd.R_mono (Kd.R_far (p := ⟨gb567, 1, none⟩) (Kd.R_far (p := ⟨gb567, 0, none⟩) (Kd.R_types HO557.out BK567.out (by decide)) (fun _ hk => hk.2) (.int .i64 t564)) (fun _ hk => hk.2) (.int .i64 t565)) (fun _ h_ => h_.1))) hb); have n2_ := Aside0.mk (blk_below (g := gb548) (o := .cells #[.slice A0_0 l0_0.length c0_0, .slice A0_1 l0_1.length c0_1] 24 (0, 0)) (by (with_reducible repeat (first | refine blk_drewN ?_ _ | refine blk_drew ?_ | refine blk_alloc ?_ _)); refine blk_far ?_ NB548_567.out _; (with_reducible repeat (first | refine blk_drewN ?_ _ | refine blk_drew ?_ | refine blk_alloc ?_ _)); refine blk_far ?_ NB548_567.out _; (with_reducible repeat (first | refine blk_drewN ?_ _ | refine blk_drew ?_ | refine blk_alloc ?_ _)); exact BK548.out) hb); have n3_ := Aside0.mk (blk_below (g := gb549) (o := .cells #[.int .i64 a1_0, .int .i64 a1_1] 26 (0, 0)) (by (with_reducible repeat (first | refine blk_drewN ?_ _ | refine blk_drew ?_ | refine blk_alloc ?_ _)); refine blk_far ?_ NB549_567.out _; (with_reducible repeat (first | refine blk_drewN ?_ _ | refine blk_drew ?_ | refine blk_alloc ?_ _)); refine blk_far ?_ NB549_567.out _; (with_reducible repeat (first | refine blk_drewN ?_ _ | refine blk_drew ?_ | refine blk_alloc ?_ _)); exact BK549.out) hb); have n4_ := Aside0.mk (blk_below (g := gb550) (o := .cells #[.int .i64 a2_0, .int .i64 a2_1] 26 (0, 0)) (by (with_reducible repeat (first | refine blk_drewN ?_ _ | refine blk_drew ?_ | refine blk_alloc ?_ _)); refine blk_far ?_ NB550_567.out _; (with_reducible repeat (first | refine blk_drewN ?_ _ | refine blk_drew ?_ | refine blk_alloc ?_ _)); refine blk_far ?_ NB550_567.out _; (with_reducible repeat (first | refine blk_drewN ?_ _ | refine blk_drew ?_ | refine blk_alloc ?_ _)); exact BK550.out) hb); have n5_ := Aside0.mk (blk_below (g := gb551) (o := .cells #[.int .i64 a3_0, .int .i64 a3_1] 26 (0, 0)) (by (with_reducible repeat (first | refine blk_drewN ?_ _ | refine blk_drew ?_ | refine blk_alloc ?_ _)); refine blk_far ?_ NB551_567.out _; (with_reducible repeat (first | refine blk_drewN ?_ _ | refine blk_drew ?_ | refine blk_alloc ?_ _)); refine blk_far ?_ NB551_567.out _; (with_reducible repeat (first | refine blk_drewN ?_ _ | refine blk_drew ?_ | refine blk_alloc ?_ _)); exact BK551.out) hb); have n6_ := Aside0.mk (blk_below (g := gb567) (o := .cells #[.int .i64 t564, .int .i64 t565] 28 (0, 0)) (by (with_reducible repeat (first | refine blk_drewN ?_ _ | refine blk_drew ?_ | refine blk_alloc ?_ _)); refine blk_put (cs := #[.int .i64 t564, .int .i64 0]) ?_ 1 _ rfl; (with_reducible repeat (first | refine blk_drewN ?_ _ | refine blk_drew ?_ | refine blk_alloc ?_ _)); refine blk_put (cs := #[.int .i64 0, .int .i64 0]) ?_ 0 _ rfl; (with_reducible repeat (first | refine blk_drewN ?_ _ | refine blk_drew ?_ | refine blk_alloc ?_ _)); exact BK567.out) hb); have n7_ := Aside0.mk (below_step (hb_ HB.out) hb); clear HO554; clear HO557; clear BK548; clear BK549; clear BK550; clear BK551; clear BK567; clear HB; have HO554 := n0_; have HO557 := n1_; have BK548 := n2_; have BK549 := n3_; have BK550 := n4_; have BK551 := n5_; have BK567 := n6_; have HB := n7_; clear n0_ n1_ n2_ n3_ n4_ n5_ n6_ n7_; (try clear hb); (try clear hb2); (try clear hk); (try clear hi); have hcz38_0 : w37.cell? ⟨gb548, 0, none⟩ = some (.slice A0_0 l0_0.length c0_0) := (blk_cell BK548.out 0).trans rfl; have hcz38_1 : w37.cell? ⟨gb548, 1, none⟩ = some (.slice A0_1 l0_1.length c0_1) := (blk_cell BK548.out 1).trans rfl; have hfz38_0 := blk_frozen BK548.out 0; have hfz38_1 := blk_frozen BK548.out 1))
    go_meet
    case rel => exact ⟨_, (true), (by first | rfl | (simp; done) | (simp [*]; done)), H', ⟨by first | omega | exact Nat.le_refl _⟩, ⟨by (with_reducible repeat (first | refine blk_drewN ?_ _ | refine blk_drew ?_ | refine blk_alloc ?_ _)); exact BK548.out⟩, ⟨by (with_reducible repeat (first | refine blk_drewN ?_ _ | refine blk_drew ?_ | refine blk_alloc ?_ _)); exact BK549.out⟩, ⟨by (with_reducible repeat (first | refine blk_drewN ?_ _ | refine blk_drew ?_ | refine blk_alloc ?_ _)); exact BK550.out⟩, ⟨by (with_reducible repeat (first | refine blk_drewN ?_ _ | refine blk_drew ?_ | refine blk_alloc ?_ _)); exact BK551.out⟩, ⟨by (with_reducible repeat (first | refine blk_drewN ?_ _ | refine blk_drew ?_ | refine blk_alloc ?_ _)); exact BK567.out⟩, ⟨by repeat (first | (with_reducible first | exact HB.out | apply below_alloc | apply pw_below_drewN | apply below_drew1 | refine below_set ?_ GE548.out | refine below_set ?_ GE549.out | refine below_set ?_ GE550.out | refine below_set ?_ GE551.out | refine below_set ?_ GE567.out) | exact HB.out)⟩⟩
   ·rw [if_neg c31] at H
    have c31b0 : decide (6 < (l0_0.length : Int)) = false := decide_eq_false c31
    have c31b1 : decide (6 < l0_0.length) = false := decide_eq_false (by omega)
    clear c31
    (first | rw [c31b0] | (simp only [i64_w, i32_w]; rw [c31b0]) | skip)
    replace H := Option.bind_eq_some_iff.mp H
    obtain ⟨t569, A390, H⟩ := H
    replace H : (if t569 = true then ((comfitref02_Is.f a2_0 a2_1).bind fun t570 => (if t570 = true then ((comfitref02_Is.f a3_0 a3_1).bind fun t571 => (if t571 = true then ((comfitref02_Cost.f a4 a5).bind fun t572 => (comfitlaw02_LotsPrices.j0 k a4 a5 t566 (!t572) l0_0 l0_1 a1_0 a1_1 a2_0 a2_1 a3_0 a3_1 t564 t565)) else (comfitlaw02_LotsPrices.j0 k a4 a5 t566 true l0_0 l0_1 a1_0 a1_1 a2_0 a2_1 a3_0 a3_1 t564 t565))) else (comfitlaw02_LotsPrices.j0 k a4 a5 t566 true l0_0 l0_1 a1_0 a1_1 a2_0 a2_1 a3_0 a3_1 t564 t565))) else (comfitlaw02_LotsPrices.j0 k a4 a5 t566 true l0_0 l0_1 a1_0 a1_1 a2_0 a2_1 a3_0 a3_1 t564 t565)) = some r := H
    have A39 := Aside0.mk A390
    clear A390
    by_cases c40 : t569 = true
    ·subst c40
     have H1 : ((comfitref02_Is.f a2_0 a2_1).bind fun t570 => (if t570 = true then ((comfitref02_Is.f a3_0 a3_1).bind fun t571 => (if t571 = true then ((comfitref02_Cost.f a4 a5).bind fun t572 => (comfitlaw02_LotsPrices.j0 k a4 a5 t566 (!t572) l0_0 l0_1 a1_0 a1_1 a2_0 a2_1 a3_0 a3_1 t564 t565)) else (comfitlaw02_LotsPrices.j0 k a4 a5 t566 true l0_0 l0_1 a1_0 a1_1 a2_0 a2_1 a3_0 a3_1 t564 t565))) else (comfitlaw02_LotsPrices.j0 k a4 a5 t566 true l0_0 l0_1 a1_0 a1_1 a2_0 a2_1 a3_0 a3_1 t564 t565))) = some r := by rw [if_pos rfl] at H; exact H
     clear H
     have H := H1
     clear H1
     replace H := Option.bind_eq_some_iff.mp H
     obtain ⟨t570, A410, H⟩ := H
     replace H : (if t570 = true then ((comfitref02_Is.f a3_0 a3_1).bind fun t571 => (if t571 = true then ((comfitref02_Cost.f a4 a5).bind fun t572 => (comfitlaw02_LotsPrices.j0 k a4 a5 t566 (!t572) l0_0 l0_1 a1_0 a1_1 a2_0 a2_1 a3_0 a3_1 t564 t565)) else (comfitlaw02_LotsPrices.j0 k a4 a5 t566 true l0_0 l0_1 a1_0 a1_1 a2_0 a2_1 a3_0 a3_1 t564 t565))) else (comfitlaw02_LotsPrices.j0 k a4 a5 t566 true l0_0 l0_1 a1_0 a1_1 a2_0 a2_1 a3_0 a3_1 t564 t565)) = some r := H
     have A41 := Aside0.mk A410
     clear A410
     by_cases c42 : t570 = true
     ·subst c42
      have H1 : ((comfitref02_Is.f a3_0 a3_1).bind fun t571 => (if t571 = true then ((comfitref02_Cost.f a4 a5).bind fun t572 => (comfitlaw02_LotsPrices.j0 k a4 a5 t566 (!t572) l0_0 l0_1 a1_0 a1_1 a2_0 a2_1 a3_0 a3_1 t564 t565)) else (comfitlaw02_LotsPrices.j0 k a4 a5 t566 true l0_0 l0_1 a1_0 a1_1 a2_0 a2_1 a3_0 a3_1 t564 t565))) = some r := by rw [if_pos rfl] at H; exact H
      clear H
      have H := H1
      clear H1
      replace H := Option.bind_eq_some_iff.mp H
      obtain ⟨t571, A430, H⟩ := H
      replace H : (if t571 = true then ((comfitref02_Cost.f a4 a5).bind fun t572 => (comfitlaw02_LotsPrices.j0 k a4 a5 t566 (!t572) l0_0 l0_1 a1_0 a1_1 a2_0 a2_1 a3_0 a3_1 t564 t565)) else (comfitlaw02_LotsPrices.j0 k a4 a5 t566 true l0_0 l0_1 a1_0 a1_1 a2_0 a2_1 a3_0 a3_1 t564 t565)) = some r := H
      have A43 := Aside0.mk A430
      clear A430
      by_cases c44 : t571 = true
      ·subst c44
       have H1 : ((comfitref02_Cost.f a4 a5).bind fun t572 => (comfitlaw02_LotsPrices.j0 k a4 a5 t566 (!t572) l0_0 l0_1 a1_0 a1_1 a2_0 a2_1 a3_0 a3_1 t564 t565)) = some r := by rw [if_pos rfl] at H; exact H
       clear H
       have H := H1
       clear H1
       replace H := Option.bind_eq_some_iff.mp H
       obtain ⟨t572, A450, H⟩ := H
       replace H : (comfitlaw02_LotsPrices.j0 k a4 a5 t566 (!t572) l0_0 l0_1 a1_0 a1_1 a2_0 a2_1 a3_0 a3_1 t564 t565) = some r := H
       have A45 := Aside0.mk A450
       clear A450
       have H' := Aside0.mk H
       clear H
       have hnb46 := NB548_549.out
       have hnc46 := NB549_548.out
       have hnb47 := NB548_550.out
       have hnc47 := NB550_548.out
       have hnb48 := NB548_551.out
       have hnc48 := NB551_548.out
       have hnb49 := NB548_567.out
       have hnc49 := NB567_548.out
       have hcz50_0 : w26.cell? ⟨gb548, 0, none⟩ = some (.slice A0_0 l0_0.length c0_0) := (blk_cell BK548.out 0).trans rfl
       have hcz50_1 : w26.cell? ⟨gb548, 1, none⟩ = some (.slice A0_1 l0_1.length c0_1) := (blk_cell BK548.out 1).trans rfl
       have hfz50_0 := blk_frozen BK548.out 0
       have hfz50_1 := blk_frozen BK548.out 1
       go_wp2_with (first | ((with_reducible refine gate_callee (f := 23) rfl ?_); refine goesL_ (some 30) rfl rfl Try.func23 (by kernel_rfl) rfl #[.agg #[.slice A0_0 l0_0.length c0_0, .slice A0_1 l0_1.length c0_1]] rfl al_ ?_; (with_reducible refine (comfitref02_Valid.calls k _ _ l0_0 _ _ l0_1 true _ ?side1 ?side2 ?side3 ?side4 A29.out).mono ?_); (case side1 => exact Kd.C_below HR0_0.out (hb_ HB.out)); (case side2 => exact HC0_0.out); (case side3 => exact Kd.C_below HR0_1.out (hb_ HB.out)); (case side4 => exact HC0_1.out); rintro e w51 ⟨rfl, hb⟩; refine ⟨_, rfl, ?_⟩; have n0_ := Aside0.mk (Kd.R_below (by (with_reducible repeat (first | apply Kd.R_alloc | apply Kd.R_drewN | apply Kd.R_drew)); exact (Kd.R_mono (Kd.R_far (p := ⟨gb567, 1, none⟩) (Kd.R_far (p := ⟨gb567, 0, none⟩) (Kd.R_types HO554.out BK567.out (by decide)) (fun _ hk => hk.2) (.int .i64 t564)) (fun _ hk => hk.2) (.int .i64 t565)) (fun _ h_ => h_.1))) hb); have n1_ := Aside0.mk (Kd.R_below (by (with_reducible repeat (first | apply Kd.R_alloc | apply Kd.R_drewN | apply Kd.R_drew)); exact (Kd.R_mono (Kd.R_far (p := ⟨gb567, 1, none⟩) (Kd.R_far (p := ⟨gb567, 0, none⟩) (Kd.R_types HO557.out BK567.out (by decide)) (fun _ hk => hk.2) (.int .i64 t564)) (fun _ hk => hk.2) (.int .i64 t565)) (fun _ h_ => h_.1))) hb); have n2_ := Aside0.mk (blk_below (g := gb548) (o := .cells #[.slice A0_0 l0_0.length c0_0, .slice A0_1 l0_1.length c0_1] 24 (0, 0)) (by (with_reducible repeat (first | refine blk_drewN ?_ _ | refine blk_drew ?_ | refine blk_alloc ?_ _)); refine blk_far ?_ NB548_567.out _; (with_reducible repeat (first | refine blk_drewN ?_ _ | refine blk_drew ?_ | refine blk_alloc ?_ _)); refine blk_far ?_ NB548_567.out _; (with_reducible repeat (first | refine blk_drewN ?_ _ | refine blk_drew ?_ | refine blk_alloc ?_ _)); exact BK548.out) hb); have n3_ := Aside0.mk (blk_below (g := gb549) (o := .cells #[.int .i64 a1_0, .int .i64 a1_1] 26 (0, 0)) (by (with_reducible repeat (first | refine blk_drewN ?_ _ | refine blk_drew ?_ | refine blk_alloc ?_ _)); refine blk_far ?_ NB549_567.out _; (with_reducible repeat (first | refine blk_drewN ?_ _ | refine blk_drew ?_ | refine blk_alloc ?_ _)); refine blk_far ?_ NB549_567.out _; (with_reducible repeat (first | refine blk_drewN ?_ _ | refine blk_drew ?_ | refine blk_alloc ?_ _)); exact BK549.out) hb); have n4_ := Aside0.mk (blk_below (g := gb550) (o := .cells #[.int .i64 a2_0, .int .i64 a2_1] 26 (0, 0)) (by (with_reducible repeat (first | refine blk_drewN ?_ _ | refine blk_drew ?_ | refine blk_alloc ?_ _)); refine blk_far ?_ NB550_567.out _; (with_reducible repeat (first | refine blk_drewN ?_ _ | refine blk_drew ?_ | refine blk_alloc ?_ _)); refine blk_far ?_ NB550_567.out _; (with_reducible repeat (first | refine blk_drewN ?_ _ | refine blk_drew ?_ | refine blk_alloc ?_ _)); exact BK550.out) hb); have n5_ := Aside0.mk (blk_below (g := gb551) (o := .cells #[.int .i64 a3_0, .int .i64 a3_1] 26 (0, 0)) (by (with_reducible repeat (first | refine blk_drewN ?_ _ | refine blk_drew ?_ | refine blk_alloc ?_ _)); refine blk_far ?_ NB551_567.out _; (with_reducible repeat (first | refine blk_drewN ?_ _ | refine blk_drew ?_ | refine blk_alloc ?_ _)); refine blk_far ?_ NB551_567.out _; (with_reducible repeat (first | refine blk_drewN ?_ _ | refine blk_drew ?_ | refine blk_alloc ?_ _)); exact BK551.out) hb); have n6_ := Aside0.mk (blk_below (g := gb567) (o := .cells #[.int .i64 t564, .int .i64 t565] 28 (0, 0)) (by (with_reducible repeat (first | refine blk_drewN ?_ _ | refine blk_drew ?_ | refine blk_alloc ?_ _)); refine blk_put (cs := #[.int .i64 t564, .int .i64 0]) ?_ 1 _ rfl; (with_reducible repeat (first | refine blk_drewN ?_ _ | refine blk_drew ?_ | refine blk_alloc ?_ _)); refine blk_put (cs := #[.int .i64 0, .int .i64 0]) ?_ 0 _ rfl; (with_reducible repeat (first | refine blk_drewN ?_ _ | refine blk_drew ?_ | refine blk_alloc ?_ _)); exact BK567.out) hb); have n7_ := Aside0.mk (below_step (hb_ HB.out) hb); clear HO554; clear HO557; clear BK548; clear BK549; clear BK550; clear BK551; clear BK567; clear HB; have HO554 := n0_; have HO557 := n1_; have BK548 := n2_; have BK549 := n3_; have BK550 := n4_; have BK551 := n5_; have BK567 := n6_; have HB := n7_; clear n0_ n1_ n2_ n3_ n4_ n5_ n6_ n7_; (try clear hb); (try clear hb2); (try clear hk); (try clear hi); have hcz52_0 : w51.cell? ⟨gb548, 0, none⟩ = some (.slice A0_0 l0_0.length c0_0) := (blk_cell BK548.out 0).trans rfl; have hcz52_1 : w51.cell? ⟨gb548, 1, none⟩ = some (.slice A0_1 l0_1.length c0_1) := (blk_cell BK548.out 1).trans rfl; have hfz52_0 := blk_frozen BK548.out 0; have hfz52_1 := blk_frozen BK548.out 1; have hnb53 := NB549_550.out; have hnc53 := NB550_549.out; have hnb54 := NB549_551.out; have hnc54 := NB551_549.out; have hnb55 := NB549_567.out; have hnc55 := NB567_549.out; have hcz56_0 : w51.cell? ⟨gb549, 0, none⟩ = some (.int .i64 a1_0) := (blk_cell BK549.out 0).trans rfl; have hcz56_1 : w51.cell? ⟨gb549, 1, none⟩ = some (.int .i64 a1_1) := (blk_cell BK549.out 1).trans rfl; have hfz56_0 := blk_frozen BK549.out 0; have hfz56_1 := blk_frozen BK549.out 1) | (go_at_call 24; (with_reducible refine (comfitref02_Is.calls a1_0 a1_1 true _ A39.out).mono ?_); rintro e w57 ⟨rfl, hb⟩; have n0_ := Aside0.mk (Kd.R_below (kr_ (HO554.out)) hb); have n1_ := Aside0.mk (Kd.R_below (kr_ (HO557.out)) hb); have n2_ := Aside0.mk (bkb_ BK548.out hb); have n3_ := Aside0.mk (bkb_ BK549.out hb); have n4_ := Aside0.mk (bkb_ BK550.out hb); have n5_ := Aside0.mk (bkb_ BK551.out hb); have n6_ := Aside0.mk (bkb_ BK567.out hb); have n7_ := Aside0.mk (below_step (hb_ HB.out) hb); clear HO554; clear HO557; clear BK548; clear BK549; clear BK550; clear BK551; clear BK567; clear HB; have HO554 := n0_; have HO557 := n1_; have BK548 := n2_; have BK549 := n3_; have BK550 := n4_; have BK551 := n5_; have BK567 := n6_; have HB := n7_; clear n0_ n1_ n2_ n3_ n4_ n5_ n6_ n7_; (try clear hb); (try clear hb2); (try clear hk); (try clear hi); have hnb58 := NB550_551.out; have hnc58 := NB551_550.out; have hnb59 := NB550_567.out; have hnc59 := NB567_550.out; have hcz60_0 : w57.cell? ⟨gb550, 0, none⟩ = some (.int .i64 a2_0) := (blk_cell BK550.out 0).trans rfl; have hcz60_1 : w57.cell? ⟨gb550, 1, none⟩ = some (.int .i64 a2_1) := (blk_cell BK550.out 1).trans rfl; have hfz60_0 := blk_frozen BK550.out 0; have hfz60_1 := blk_frozen BK550.out 1) | (go_at_call 24; (with_reducible refine (comfitref02_Is.calls a2_0 a2_1 true _ A41.out).mono ?_); rintro e w61 ⟨rfl, hb⟩; have n0_ := Aside0.mk (Kd.R_below (kr_ (HO554.out)) hb); have n1_ := Aside0.mk (Kd.R_below (kr_ (HO557.out)) hb); have n2_ := Aside0.mk (bkb_ BK548.out hb); have n3_ := Aside0.mk (bkb_ BK549.out hb); have n4_ := Aside0.mk (bkb_ BK550.out hb); have n5_ := Aside0.mk (bkb_ BK551.out hb); have n6_ := Aside0.mk (bkb_ BK567.out hb); have n7_ := Aside0.mk (below_step (hb_ HB.out) hb); clear HO554; clear HO557; clear BK548; clear BK549; clear BK550; clear BK551; clear BK567; clear HB; have HO554 := n0_; have HO557 := n1_; have BK548 := n2_; have BK549 := n3_; have BK550 := n4_; have BK551 := n5_; have BK567 := n6_; have HB := n7_; clear n0_ n1_ n2_ n3_ n4_ n5_ n6_ n7_; (try clear hb); (try clear hb2); (try clear hk); (try clear hi); have hnb62 := NB551_567.out; have hnc62 := NB567_551.out; have hcz63_0 : w61.cell? ⟨gb551, 0, none⟩ = some (.int .i64 a3_0) := (blk_cell BK551.out 0).trans rfl; have hcz63_1 : w61.cell? ⟨gb551, 1, none⟩ = some (.int .i64 a3_1) := (blk_cell BK551.out 1).trans rfl; have hfz63_0 := blk_frozen BK551.out 0; have hfz63_1 := blk_frozen BK551.out 1) | (go_at_call 24; (with_reducible refine (comfitref02_Is.calls a3_0 a3_1 true _ A43.out).mono ?_); rintro e w64 ⟨rfl, hb⟩; have n0_ := Aside0.mk (Kd.R_below (kr_ (HO554.out)) hb); have n1_ := Aside0.mk (Kd.R_below (kr_ (HO557.out)) hb); have n2_ := Aside0.mk (bkb_ BK548.out hb); have n3_ := Aside0.mk (bkb_ BK549.out hb); have n4_ := Aside0.mk (bkb_ BK550.out hb); have n5_ := Aside0.mk (bkb_ BK551.out hb); have n6_ := Aside0.mk (bkb_ BK567.out hb); have n7_ := Aside0.mk (below_step (hb_ HB.out) hb); clear HO554; clear HO557; clear BK548; clear BK549; clear BK550; clear BK551; clear BK567; clear HB; have HO554 := n0_; have HO557 := n1_; have BK548 := n2_; have BK549 := n3_; have BK550 := n4_; have BK551 := n5_; have BK567 := n6_; have HB := n7_; clear n0_ n1_ n2_ n3_ n4_ n5_ n6_ n7_; (try clear hb); (try clear hb2); (try clear hk); (try clear hi)) | (go_at_call 41; (with_reducible refine (comfitref02_Cost.calls a4 a5 t572 _ A45.out).mono ?_); rintro e w' ⟨rfl, ⟨nd, rfl⟩⟩))
       go_meet
       case rel => exact ⟨_, (!t572), (by first | rfl | (simp; done) | (simp [*]; done)), H', ⟨by first | omega | exact Nat.le_refl _⟩, ⟨by (with_reducible repeat (first | refine blk_drewN ?_ _ | refine blk_drew ?_ | refine blk_alloc ?_ _)); exact BK548.out⟩, ⟨by (with_reducible repeat (first | refine blk_drewN ?_ _ | refine blk_drew ?_ | refine blk_alloc ?_ _)); exact BK549.out⟩, ⟨by (with_reducible repeat (first | refine blk_drewN ?_ _ | refine blk_drew ?_ | refine blk_alloc ?_ _)); exact BK550.out⟩, ⟨by (with_reducible repeat (first | refine blk_drewN ?_ _ | refine blk_drew ?_ | refine blk_alloc ?_ _)); exact BK551.out⟩, ⟨by (with_reducible repeat (first | refine blk_drewN ?_ _ | refine blk_drew ?_ | refine blk_alloc ?_ _)); exact BK567.out⟩, ⟨by repeat (first | (with_reducible first | exact HB.out | apply below_alloc | apply pw_below_drewN | apply below_drew1 | refine below_set ?_ GE548.out | refine below_set ?_ GE549.out | refine below_set ?_ GE550.out | refine below_set ?_ GE551.out | refine below_set ?_ GE567.out) | exact HB.out)⟩⟩
      ·replace c44 := Bool.eq_false_iff.mpr c44
       subst c44
       have H1 : (comfitlaw02_LotsPrices.j0 k a4 a5 t566 true l0_0 l0_1 a1_0 a1_1 a2_0 a2_1 a3_0 a3_1 t564 t565) = some r := by rw [if_neg (show ¬ (false = true) by decide)] at H; exact H
       clear H
       have H := H1
       clear H1
       have H' := Aside0.mk H
       clear H
       have hnb65 := NB548_549.out
       have hnc65 := NB549_548.out
       have hnb66 := NB548_550.out
       have hnc66 := NB550_548.out
       have hnb67 := NB548_551.out
       have hnc67 := NB551_548.out
       have hnb68 := NB548_567.out
       have hnc68 := NB567_548.out
       have hcz69_0 : w26.cell? ⟨gb548, 0, none⟩ = some (.slice A0_0 l0_0.length c0_0) := (blk_cell BK548.out 0).trans rfl
       have hcz69_1 : w26.cell? ⟨gb548, 1, none⟩ = some (.slice A0_1 l0_1.length c0_1) := (blk_cell BK548.out 1).trans rfl
       have hfz69_0 := blk_frozen BK548.out 0
       have hfz69_1 := blk_frozen BK548.out 1
       go_wp2_with (first | ((with_reducible refine gate_callee (f := 23) rfl ?_); refine goesL_ (some 30) rfl rfl Try.func23 (by kernel_rfl) rfl #[.agg #[.slice A0_0 l0_0.length c0_0, .slice A0_1 l0_1.length c0_1]] rfl al_ ?_; (with_reducible refine (comfitref02_Valid.calls k _ _ l0_0 _ _ l0_1 true _ ?side1 ?side2 ?side3 ?side4 A29.out).mono ?_); (case side1 => exact Kd.C_below HR0_0.out (hb_ HB.out)); (case side2 => exact HC0_0.out); (case side3 => exact Kd.C_below HR0_1.out (hb_ HB.out)); (case side4 => exact HC0_1.out); rintro e w70 ⟨rfl, hb⟩; refine ⟨_, rfl, ?_⟩; have n0_ := Aside0.mk (Kd.R_below (by (with_reducible repeat (first | apply Kd.R_alloc | apply Kd.R_drewN | apply Kd.R_drew)); exact (Kd.R_mono (Kd.R_far (p := ⟨gb567, 1, none⟩) (Kd.R_far (p := ⟨gb567, 0, none⟩) (Kd.R_types HO554.out BK567.out (by decide)) (fun _ hk => hk.2) (.int .i64 t564)) (fun _ hk => hk.2) (.int .i64 t565)) (fun _ h_ => h_.1))) hb); have n1_ := Aside0.mk (Kd.R_below (by (with_reducible repeat (first | apply Kd.R_alloc | apply Kd.R_drewN | apply Kd.R_drew)); exact (Kd.R_mono (Kd.R_far (p := ⟨gb567, 1, none⟩) (Kd.R_far (p := ⟨gb567, 0, none⟩) (Kd.R_types HO557.out BK567.out (by decide)) (fun _ hk => hk.2) (.int .i64 t564)) (fun _ hk => hk.2) (.int .i64 t565)) (fun _ h_ => h_.1))) hb); have n2_ := Aside0.mk (blk_below (g := gb548) (o := .cells #[.slice A0_0 l0_0.length c0_0, .slice A0_1 l0_1.length c0_1] 24 (0, 0)) (by (with_reducible repeat (first | refine blk_drewN ?_ _ | refine blk_drew ?_ | refine blk_alloc ?_ _)); refine blk_far ?_ NB548_567.out _; (with_reducible repeat (first | refine blk_drewN ?_ _ | refine blk_drew ?_ | refine blk_alloc ?_ _)); refine blk_far ?_ NB548_567.out _; (with_reducible repeat (first | refine blk_drewN ?_ _ | refine blk_drew ?_ | refine blk_alloc ?_ _)); exact BK548.out) hb); have n3_ := Aside0.mk (blk_below (g := gb549) (o := .cells #[.int .i64 a1_0, .int .i64 a1_1] 26 (0, 0)) (by (with_reducible repeat (first | refine blk_drewN ?_ _ | refine blk_drew ?_ | refine blk_alloc ?_ _)); refine blk_far ?_ NB549_567.out _; (with_reducible repeat (first | refine blk_drewN ?_ _ | refine blk_drew ?_ | refine blk_alloc ?_ _)); refine blk_far ?_ NB549_567.out _; (with_reducible repeat (first | refine blk_drewN ?_ _ | refine blk_drew ?_ | refine blk_alloc ?_ _)); exact BK549.out) hb); have n4_ := Aside0.mk (blk_below (g := gb550) (o := .cells #[.int .i64 a2_0, .int .i64 a2_1] 26 (0, 0)) (by (with_reducible repeat (first | refine blk_drewN ?_ _ | refine blk_drew ?_ | refine blk_alloc ?_ _)); refine blk_far ?_ NB550_567.out _; (with_reducible repeat (first | refine blk_drewN ?_ _ | refine blk_drew ?_ | refine blk_alloc ?_ _)); refine blk_far ?_ NB550_567.out _; (with_reducible repeat (first | refine blk_drewN ?_ _ | refine blk_drew ?_ | refine blk_alloc ?_ _)); exact BK550.out) hb); have n5_ := Aside0.mk (blk_below (g := gb551) (o := .cells #[.int .i64 a3_0, .int .i64 a3_1] 26 (0, 0)) (by (with_reducible repeat (first | refine blk_drewN ?_ _ | refine blk_drew ?_ | refine blk_alloc ?_ _)); refine blk_far ?_ NB551_567.out _; (with_reducible repeat (first | refine blk_drewN ?_ _ | refine blk_drew ?_ | refine blk_alloc ?_ _)); refine blk_far ?_ NB551_567.out _; (with_reducible repeat (first | refine blk_drewN ?_ _ | refine blk_drew ?_ | refine blk_alloc ?_ _)); exact BK551.out) hb); have n6_ := Aside0.mk (blk_below (g := gb567) (o := .cells #[.int .i64 t564, .int .i64 t565] 28 (0, 0)) (by (with_reducible repeat (first | refine blk_drewN ?_ _ | refine blk_drew ?_ | refine blk_alloc ?_ _)); refine blk_put (cs := #[.int .i64 t564, .int .i64 0]) ?_ 1 _ rfl; (with_reducible repeat (first | refine blk_drewN ?_ _ | refine blk_drew ?_ | refine blk_alloc ?_ _)); refine blk_put (cs := #[.int .i64 0, .int .i64 0]) ?_ 0 _ rfl; (with_reducible repeat (first | refine blk_drewN ?_ _ | refine blk_drew ?_ | refine blk_alloc ?_ _)); exact BK567.out) hb); have n7_ := Aside0.mk (below_step (hb_ HB.out) hb); clear HO554; clear HO557; clear BK548; clear BK549; clear BK550; clear BK551; clear BK567; clear HB; have HO554 := n0_; have HO557 := n1_; have BK548 := n2_; have BK549 := n3_; have BK550 := n4_; have BK551 := n5_; have BK567 := n6_; have HB := n7_; clear n0_ n1_ n2_ n3_ n4_ n5_ n6_ n7_; (try clear hb); (try clear hb2); (try clear hk); (try clear hi); have hcz71_0 : w70.cell? ⟨gb548, 0, none⟩ = some (.slice A0_0 l0_0.length c0_0) := (blk_cell BK548.out 0).trans rfl; have hcz71_1 : w70.cell? ⟨gb548, 1, none⟩ = some (.slice A0_1 l0_1.length c0_1) := (blk_cell BK548.out 1).trans rfl; have hfz71_0 := blk_frozen BK548.out 0; have hfz71_1 := blk_frozen BK548.out 1; have hnb72 := NB549_550.out; have hnc72 := NB550_549.out; have hnb73 := NB549_551.out; have hnc73 := NB551_549.out; have hnb74 := NB549_567.out; have hnc74 := NB567_549.out; have hcz75_0 : w70.cell? ⟨gb549, 0, none⟩ = some (.int .i64 a1_0) := (blk_cell BK549.out 0).trans rfl; have hcz75_1 : w70.cell? ⟨gb549, 1, none⟩ = some (.int .i64 a1_1) := (blk_cell BK549.out 1).trans rfl; have hfz75_0 := blk_frozen BK549.out 0; have hfz75_1 := blk_frozen BK549.out 1) | (go_at_call 24; (with_reducible refine (comfitref02_Is.calls a1_0 a1_1 true _ A39.out).mono ?_); rintro e w76 ⟨rfl, hb⟩; have n0_ := Aside0.mk (Kd.R_below (kr_ (HO554.out)) hb); have n1_ := Aside0.mk (Kd.R_below (kr_ (HO557.out)) hb); have n2_ := Aside0.mk (bkb_ BK548.out hb); have n3_ := Aside0.mk (bkb_ BK549.out hb); have n4_ := Aside0.mk (bkb_ BK550.out hb); have n5_ := Aside0.mk (bkb_ BK551.out hb); have n6_ := Aside0.mk (bkb_ BK567.out hb); have n7_ := Aside0.mk (below_step (hb_ HB.out) hb); clear HO554; clear HO557; clear BK548; clear BK549; clear BK550; clear BK551; clear BK567; clear HB; have HO554 := n0_; have HO557 := n1_; have BK548 := n2_; have BK549 := n3_; have BK550 := n4_; have BK551 := n5_; have BK567 := n6_; have HB := n7_; clear n0_ n1_ n2_ n3_ n4_ n5_ n6_ n7_; (try clear hb); (try clear hb2); (try clear hk); (try clear hi); have hnb77 := NB550_551.out; have hnc77 := NB551_550.out; have hnb78 := NB550_567.out; have hnc78 := NB567_550.out; have hcz79_0 : w76.cell? ⟨gb550, 0, none⟩ = some (.int .i64 a2_0) := (blk_cell BK550.out 0).trans rfl; have hcz79_1 : w76.cell? ⟨gb550, 1, none⟩ = some (.int .i64 a2_1) := (blk_cell BK550.out 1).trans rfl; have hfz79_0 := blk_frozen BK550.out 0; have hfz79_1 := blk_frozen BK550.out 1) | (go_at_call 24; (with_reducible refine (comfitref02_Is.calls a2_0 a2_1 true _ A41.out).mono ?_); rintro e w80 ⟨rfl, hb⟩; have n0_ := Aside0.mk (Kd.R_below (kr_ (HO554.out)) hb); have n1_ := Aside0.mk (Kd.R_below (kr_ (HO557.out)) hb); have n2_ := Aside0.mk (bkb_ BK548.out hb); have n3_ := Aside0.mk (bkb_ BK549.out hb); have n4_ := Aside0.mk (bkb_ BK550.out hb); have n5_ := Aside0.mk (bkb_ BK551.out hb); have n6_ := Aside0.mk (bkb_ BK567.out hb); have n7_ := Aside0.mk (below_step (hb_ HB.out) hb); clear HO554; clear HO557; clear BK548; clear BK549; clear BK550; clear BK551; clear BK567; clear HB; have HO554 := n0_; have HO557 := n1_; have BK548 := n2_; have BK549 := n3_; have BK550 := n4_; have BK551 := n5_; have BK567 := n6_; have HB := n7_; clear n0_ n1_ n2_ n3_ n4_ n5_ n6_ n7_; (try clear hb); (try clear hb2); (try clear hk); (try clear hi); have hnb81 := NB551_567.out; have hnc81 := NB567_551.out; have hcz82_0 : w80.cell? ⟨gb551, 0, none⟩ = some (.int .i64 a3_0) := (blk_cell BK551.out 0).trans rfl; have hcz82_1 : w80.cell? ⟨gb551, 1, none⟩ = some (.int .i64 a3_1) := (blk_cell BK551.out 1).trans rfl; have hfz82_0 := blk_frozen BK551.out 0; have hfz82_1 := blk_frozen BK551.out 1) | (go_at_call 24; (with_reducible refine (comfitref02_Is.calls a3_0 a3_1 false _ A43.out).mono ?_); rintro e w83 ⟨rfl, hb⟩; have n0_ := Aside0.mk (Kd.R_below (kr_ (HO554.out)) hb); have n1_ := Aside0.mk (Kd.R_below (kr_ (HO557.out)) hb); have n2_ := Aside0.mk (bkb_ BK548.out hb); have n3_ := Aside0.mk (bkb_ BK549.out hb); have n4_ := Aside0.mk (bkb_ BK550.out hb); have n5_ := Aside0.mk (bkb_ BK551.out hb); have n6_ := Aside0.mk (bkb_ BK567.out hb); have n7_ := Aside0.mk (below_step (hb_ HB.out) hb); clear HO554; clear HO557; clear BK548; clear BK549; clear BK550; clear BK551; clear BK567; clear HB; have HO554 := n0_; have HO557 := n1_; have BK548 := n2_; have BK549 := n3_; have BK550 := n4_; have BK551 := n5_; have BK567 := n6_; have HB := n7_; clear n0_ n1_ n2_ n3_ n4_ n5_ n6_ n7_; (try clear hb); (try clear hb2); (try clear hk); (try clear hi)))
       go_meet
       case rel => exact ⟨_, (true), (by first | rfl | (simp; done) | (simp [*]; done)), H', ⟨by first | omega | exact Nat.le_refl _⟩, ⟨by (with_reducible repeat (first | refine blk_drewN ?_ _ | refine blk_drew ?_ | refine blk_alloc ?_ _)); exact BK548.out⟩, ⟨by (with_reducible repeat (first | refine blk_drewN ?_ _ | refine blk_drew ?_ | refine blk_alloc ?_ _)); exact BK549.out⟩, ⟨by (with_reducible repeat (first | refine blk_drewN ?_ _ | refine blk_drew ?_ | refine blk_alloc ?_ _)); exact BK550.out⟩, ⟨by (with_reducible repeat (first | refine blk_drewN ?_ _ | refine blk_drew ?_ | refine blk_alloc ?_ _)); exact BK551.out⟩, ⟨by (with_reducible repeat (first | refine blk_drewN ?_ _ | refine blk_drew ?_ | refine blk_alloc ?_ _)); exact BK567.out⟩, ⟨by repeat (first | (with_reducible first | exact HB.out | apply below_alloc | apply pw_below_drewN | apply below_drew1 | refine below_set ?_ GE548.out | refine below_set ?_ GE549.out | refine below_set ?_ GE550.out | refine below_set ?_ GE551.out | refine below_set ?_ GE567.out) | exact HB.out)⟩⟩
     ·replace c42 := Bool.eq_false_iff.mpr c42
      subst c42
      have H1 : (comfitlaw02_LotsPrices.j0 k a4 a5 t566 true l0_0 l0_1 a1_0 a1_1 a2_0 a2_1 a3_0 a3_1 t564 t565) = some r := by rw [if_neg (show ¬ (false = true) by decide)] at H; exact H
      clear H
      have H := H1
      clear H1
      have H' := Aside0.mk H
      clear H
      have hnb84 := NB548_549.out
      have hnc84 := NB549_548.out
      have hnb85 := NB548_550.out
      have hnc85 := NB550_548.out
      have hnb86 := NB548_551.out
      have hnc86 := NB551_548.out
      have hnb87 := NB548_567.out
      have hnc87 := NB567_548.out
      have hcz88_0 : w26.cell? ⟨gb548, 0, none⟩ = some (.slice A0_0 l0_0.length c0_0) := (blk_cell BK548.out 0).trans rfl
      have hcz88_1 : w26.cell? ⟨gb548, 1, none⟩ = some (.slice A0_1 l0_1.length c0_1) := (blk_cell BK548.out 1).trans rfl
      have hfz88_0 := blk_frozen BK548.out 0
      have hfz88_1 := blk_frozen BK548.out 1
      go_wp2_with (first | ((with_reducible refine gate_callee (f := 23) rfl ?_); refine goesL_ (some 30) rfl rfl Try.func23 (by kernel_rfl) rfl #[.agg #[.slice A0_0 l0_0.length c0_0, .slice A0_1 l0_1.length c0_1]] rfl al_ ?_; (with_reducible refine (comfitref02_Valid.calls k _ _ l0_0 _ _ l0_1 true _ ?side1 ?side2 ?side3 ?side4 A29.out).mono ?_); (case side1 => exact Kd.C_below HR0_0.out (hb_ HB.out)); (case side2 => exact HC0_0.out); (case side3 => exact Kd.C_below HR0_1.out (hb_ HB.out)); (case side4 => exact HC0_1.out); rintro e w89 ⟨rfl, hb⟩; refine ⟨_, rfl, ?_⟩; have n0_ := Aside0.mk (Kd.R_below (by (with_reducible repeat (first | apply Kd.R_alloc | apply Kd.R_drewN | apply Kd.R_drew)); exact (Kd.R_mono (Kd.R_far (p := ⟨gb567, 1, none⟩) (Kd.R_far (p := ⟨gb567, 0, none⟩) (Kd.R_types HO554.out BK567.out (by decide)) (fun _ hk => hk.2) (.int .i64 t564)) (fun _ hk => hk.2) (.int .i64 t565)) (fun _ h_ => h_.1))) hb); have n1_ := Aside0.mk (Kd.R_below (by (with_reducible repeat (first | apply Kd.R_alloc | apply Kd.R_drewN | apply Kd.R_drew)); exact (Kd.R_mono (Kd.R_far (p := ⟨gb567, 1, none⟩) (Kd.R_far (p := ⟨gb567, 0, none⟩) (Kd.R_types HO557.out BK567.out (by decide)) (fun _ hk => hk.2) (.int .i64 t564)) (fun _ hk => hk.2) (.int .i64 t565)) (fun _ h_ => h_.1))) hb); have n2_ := Aside0.mk (blk_below (g := gb548) (o := .cells #[.slice A0_0 l0_0.length c0_0, .slice A0_1 l0_1.length c0_1] 24 (0, 0)) (by (with_reducible repeat (first | refine blk_drewN ?_ _ | refine blk_drew ?_ | refine blk_alloc ?_ _)); refine blk_far ?_ NB548_567.out _; (with_reducible repeat (first | refine blk_drewN ?_ _ | refine blk_drew ?_ | refine blk_alloc ?_ _)); refine blk_far ?_ NB548_567.out _; (with_reducible repeat (first | refine blk_drewN ?_ _ | refine blk_drew ?_ | refine blk_alloc ?_ _)); exact BK548.out) hb); have n3_ := Aside0.mk (blk_below (g := gb549) (o := .cells #[.int .i64 a1_0, .int .i64 a1_1] 26 (0, 0)) (by (with_reducible repeat (first | refine blk_drewN ?_ _ | refine blk_drew ?_ | refine blk_alloc ?_ _)); refine blk_far ?_ NB549_567.out _; (with_reducible repeat (first | refine blk_drewN ?_ _ | refine blk_drew ?_ | refine blk_alloc ?_ _)); refine blk_far ?_ NB549_567.out _; (with_reducible repeat (first | refine blk_drewN ?_ _ | refine blk_drew ?_ | refine blk_alloc ?_ _)); exact BK549.out) hb); have n4_ := Aside0.mk (blk_below (g := gb550) (o := .cells #[.int .i64 a2_0, .int .i64 a2_1] 26 (0, 0)) (by (with_reducible repeat (first | refine blk_drewN ?_ _ | refine blk_drew ?_ | refine blk_alloc ?_ _)); refine blk_far ?_ NB550_567.out _; (with_reducible repeat (first | refine blk_drewN ?_ _ | refine blk_drew ?_ | refine blk_alloc ?_ _)); refine blk_far ?_ NB550_567.out _; (with_reducible repeat (first | refine blk_drewN ?_ _ | refine blk_drew ?_ | refine blk_alloc ?_ _)); exact BK550.out) hb); have n5_ := Aside0.mk (blk_below (g := gb551) (o := .cells #[.int .i64 a3_0, .int .i64 a3_1] 26 (0, 0)) (by (with_reducible repeat (first | refine blk_drewN ?_ _ | refine blk_drew ?_ | refine blk_alloc ?_ _)); refine blk_far ?_ NB551_567.out _; (with_reducible repeat (first | refine blk_drewN ?_ _ | refine blk_drew ?_ | refine blk_alloc ?_ _)); refine blk_far ?_ NB551_567.out _; (with_reducible repeat (first | refine blk_drewN ?_ _ | refine blk_drew ?_ | refine blk_alloc ?_ _)); exact BK551.out) hb); have n6_ := Aside0.mk (blk_below (g := gb567) (o := .cells #[.int .i64 t564, .int .i64 t565] 28 (0, 0)) (by (with_reducible repeat (first | refine blk_drewN ?_ _ | refine blk_drew ?_ | refine blk_alloc ?_ _)); refine blk_put (cs := #[.int .i64 t564, .int .i64 0]) ?_ 1 _ rfl; (with_reducible repeat (first | refine blk_drewN ?_ _ | refine blk_drew ?_ | refine blk_alloc ?_ _)); refine blk_put (cs := #[.int .i64 0, .int .i64 0]) ?_ 0 _ rfl; (with_reducible repeat (first | refine blk_drewN ?_ _ | refine blk_drew ?_ | refine blk_alloc ?_ _)); exact BK567.out) hb); have n7_ := Aside0.mk (below_step (hb_ HB.out) hb); clear HO554; clear HO557; clear BK548; clear BK549; clear BK550; clear BK551; clear BK567; clear HB; have HO554 := n0_; have HO557 := n1_; have BK548 := n2_; have BK549 := n3_; have BK550 := n4_; have BK551 := n5_; have BK567 := n6_; have HB := n7_; clear n0_ n1_ n2_ n3_ n4_ n5_ n6_ n7_; (try clear hb); (try clear hb2); (try clear hk); (try clear hi); have hcz90_0 : w89.cell? ⟨gb548, 0, none⟩ = some (.slice A0_0 l0_0.length c0_0) := (blk_cell BK548.out 0).trans rfl; have hcz90_1 : w89.cell? ⟨gb548, 1, none⟩ = some (.slice A0_1 l0_1.length c0_1) := (blk_cell BK548.out 1).trans rfl; have hfz90_0 := blk_frozen BK548.out 0; have hfz90_1 := blk_frozen BK548.out 1; have hnb91 := NB549_550.out; have hnc91 := NB550_549.out; have hnb92 := NB549_551.out; have hnc92 := NB551_549.out; have hnb93 := NB549_567.out; have hnc93 := NB567_549.out; have hcz94_0 : w89.cell? ⟨gb549, 0, none⟩ = some (.int .i64 a1_0) := (blk_cell BK549.out 0).trans rfl; have hcz94_1 : w89.cell? ⟨gb549, 1, none⟩ = some (.int .i64 a1_1) := (blk_cell BK549.out 1).trans rfl; have hfz94_0 := blk_frozen BK549.out 0; have hfz94_1 := blk_frozen BK549.out 1) | (go_at_call 24; (with_reducible refine (comfitref02_Is.calls a1_0 a1_1 true _ A39.out).mono ?_); rintro e w95 ⟨rfl, hb⟩; have n0_ := Aside0.mk (Kd.R_below (kr_ (HO554.out)) hb); have n1_ := Aside0.mk (Kd.R_below (kr_ (HO557.out)) hb); have n2_ := Aside0.mk (bkb_ BK548.out hb); have n3_ := Aside0.mk (bkb_ BK549.out hb); have n4_ := Aside0.mk (bkb_ BK550.out hb); have n5_ := Aside0.mk (bkb_ BK551.out hb); have n6_ := Aside0.mk (bkb_ BK567.out hb); have n7_ := Aside0.mk (below_step (hb_ HB.out) hb); clear HO554; clear HO557; clear BK548; clear BK549; clear BK550; clear BK551; clear BK567; clear HB; have HO554 := n0_; have HO557 := n1_; have BK548 := n2_; have BK549 := n3_; have BK550 := n4_; have BK551 := n5_; have BK567 := n6_; have HB := n7_; clear n0_ n1_ n2_ n3_ n4_ n5_ n6_ n7_; (try clear hb); (try clear hb2); (try clear hk); (try clear hi); have hnb96 := NB550_551.out; have hnc96 := NB551_550.out; have hnb97 := NB550_567.out; have hnc97 := NB567_550.out; have hcz98_0 : w95.cell? ⟨gb550, 0, none⟩ = some (.int .i64 a2_0) := (blk_cell BK550.out 0).trans rfl; have hcz98_1 : w95.cell? ⟨gb550, 1, none⟩ = some (.int .i64 a2_1) := (blk_cell BK550.out 1).trans rfl; have hfz98_0 := blk_frozen BK550.out 0; have hfz98_1 := blk_frozen BK550.out 1) | (go_at_call 24; (with_reducible refine (comfitref02_Is.calls a2_0 a2_1 false _ A41.out).mono ?_); rintro e w99 ⟨rfl, hb⟩; have n0_ := Aside0.mk (Kd.R_below (kr_ (HO554.out)) hb); have n1_ := Aside0.mk (Kd.R_below (kr_ (HO557.out)) hb); have n2_ := Aside0.mk (bkb_ BK548.out hb); have n3_ := Aside0.mk (bkb_ BK549.out hb); have n4_ := Aside0.mk (bkb_ BK550.out hb); have n5_ := Aside0.mk (bkb_ BK551.out hb); have n6_ := Aside0.mk (bkb_ BK567.out hb); have n7_ := Aside0.mk (below_step (hb_ HB.out) hb); clear HO554; clear HO557; clear BK548; clear BK549; clear BK550; clear BK551; clear BK567; clear HB; have HO554 := n0_; have HO557 := n1_; have BK548 := n2_; have BK549 := n3_; have BK550 := n4_; have BK551 := n5_; have BK567 := n6_; have HB := n7_; clear n0_ n1_ n2_ n3_ n4_ n5_ n6_ n7_; (try clear hb); (try clear hb2); (try clear hk); (try clear hi)))
      go_meet
      case rel => exact ⟨_, (true), (by first | rfl | (simp; done) | (simp [*]; done)), H', ⟨by first | omega | exact Nat.le_refl _⟩, ⟨by (with_reducible repeat (first | refine blk_drewN ?_ _ | refine blk_drew ?_ | refine blk_alloc ?_ _)); exact BK548.out⟩, ⟨by (with_reducible repeat (first | refine blk_drewN ?_ _ | refine blk_drew ?_ | refine blk_alloc ?_ _)); exact BK549.out⟩, ⟨by (with_reducible repeat (first | refine blk_drewN ?_ _ | refine blk_drew ?_ | refine blk_alloc ?_ _)); exact BK550.out⟩, ⟨by (with_reducible repeat (first | refine blk_drewN ?_ _ | refine blk_drew ?_ | refine blk_alloc ?_ _)); exact BK551.out⟩, ⟨by (with_reducible repeat (first | refine blk_drewN ?_ _ | refine blk_drew ?_ | refine blk_alloc ?_ _)); exact BK567.out⟩, ⟨by repeat (first | (with_reducible first | exact HB.out | apply below_alloc | apply pw_below_drewN | apply below_drew1 | refine below_set ?_ GE548.out | refine below_set ?_ GE549.out | refine below_set ?_ GE550.out | refine below_set ?_ GE551.out | refine below_set ?_ GE567.out) | exact HB.out)⟩⟩
    ·replace c40 := Bool.eq_false_iff.mpr c40
     subst c40
     have H1 : (comfitlaw02_LotsPrices.j0 k a4 a5 t566 true l0_0 l0_1 a1_0 a1_1 a2_0 a2_1 a3_0 a3_1 t564 t565) = some r := by rw [if_neg (show ¬ (false = true) by decide)] at H; exact H
     clear H
     have H := H1
     clear H1
     have H' := Aside0.mk H
     clear H
     have hnb100 := NB548_549.out
     have hnc100 := NB549_548.out
     have hnb101 := NB548_550.out
     have hnc101 := NB550_548.out
     have hnb102 := NB548_551.out
     have hnc102 := NB551_548.out
     have hnb103 := NB548_567.out
     have hnc103 := NB567_548.out
     have hcz104_0 : w26.cell? ⟨gb548, 0, none⟩ = some (.slice A0_0 l0_0.length c0_0) := (blk_cell BK548.out 0).trans rfl
     have hcz104_1 : w26.cell? ⟨gb548, 1, none⟩ = some (.slice A0_1 l0_1.length c0_1) := (blk_cell BK548.out 1).trans rfl
     have hfz104_0 := blk_frozen BK548.out 0
     have hfz104_1 := blk_frozen BK548.out 1
     go_wp2_with (first | ((with_reducible refine gate_callee (f := 23) rfl ?_); refine goesL_ (some 30) rfl rfl Try.func23 (by kernel_rfl) rfl #[.agg #[.slice A0_0 l0_0.length c0_0, .slice A0_1 l0_1.length c0_1]] rfl al_ ?_; (with_reducible refine (comfitref02_Valid.calls k _ _ l0_0 _ _ l0_1 true _ ?side1 ?side2 ?side3 ?side4 A29.out).mono ?_); (case side1 => exact Kd.C_below HR0_0.out (hb_ HB.out)); (case side2 => exact HC0_0.out); (case side3 => exact Kd.C_below HR0_1.out (hb_ HB.out)); (case side4 => exact HC0_1.out); rintro e w105 ⟨rfl, hb⟩; refine ⟨_, rfl, ?_⟩; have n0_ := Aside0.mk (Kd.R_below (by (with_reducible repeat (first | apply Kd.R_alloc | apply Kd.R_drewN | apply Kd.R_drew)); exact (Kd.R_mono (Kd.R_far (p := ⟨gb567, 1, none⟩) (Kd.R_far (p := ⟨gb567, 0, none⟩) (Kd.R_types HO554.out BK567.out (by decide)) (fun _ hk => hk.2) (.int .i64 t564)) (fun _ hk => hk.2) (.int .i64 t565)) (fun _ h_ => h_.1))) hb); have n1_ := Aside0.mk (Kd.R_below (by (with_reducible repeat (first | apply Kd.R_alloc | apply Kd.R_drewN | apply Kd.R_drew)); exact (Kd.R_mono (Kd.R_far (p := ⟨gb567, 1, none⟩) (Kd.R_far (p := ⟨gb567, 0, none⟩) (Kd.R_types HO557.out BK567.out (by decide)) (fun _ hk => hk.2) (.int .i64 t564)) (fun _ hk => hk.2) (.int .i64 t565)) (fun _ h_ => h_.1))) hb); have n2_ := Aside0.mk (blk_below (g := gb548) (o := .cells #[.slice A0_0 l0_0.length c0_0, .slice A0_1 l0_1.length c0_1] 24 (0, 0)) (by (with_reducible repeat (first | refine blk_drewN ?_ _ | refine blk_drew ?_ | refine blk_alloc ?_ _)); refine blk_far ?_ NB548_567.out _; (with_reducible repeat (first | refine blk_drewN ?_ _ | refine blk_drew ?_ | refine blk_alloc ?_ _)); refine blk_far ?_ NB548_567.out _; (with_reducible repeat (first | refine blk_drewN ?_ _ | refine blk_drew ?_ | refine blk_alloc ?_ _)); exact BK548.out) hb); have n3_ := Aside0.mk (blk_below (g := gb549) (o := .cells #[.int .i64 a1_0, .int .i64 a1_1] 26 (0, 0)) (by (with_reducible repeat (first | refine blk_drewN ?_ _ | refine blk_drew ?_ | refine blk_alloc ?_ _)); refine blk_far ?_ NB549_567.out _; (with_reducible repeat (first | refine blk_drewN ?_ _ | refine blk_drew ?_ | refine blk_alloc ?_ _)); refine blk_far ?_ NB549_567.out _; (with_reducible repeat (first | refine blk_drewN ?_ _ | refine blk_drew ?_ | refine blk_alloc ?_ _)); exact BK549.out) hb); have n4_ := Aside0.mk (blk_below (g := gb550) (o := .cells #[.int .i64 a2_0, .int .i64 a2_1] 26 (0, 0)) (by (with_reducible repeat (first | refine blk_drewN ?_ _ | refine blk_drew ?_ | refine blk_alloc ?_ _)); refine blk_far ?_ NB550_567.out _; (with_reducible repeat (first | refine blk_drewN ?_ _ | refine blk_drew ?_ | refine blk_alloc ?_ _)); refine blk_far ?_ NB550_567.out _; (with_reducible repeat (first | refine blk_drewN ?_ _ | refine blk_drew ?_ | refine blk_alloc ?_ _)); exact BK550.out) hb); have n5_ := Aside0.mk (blk_below (g := gb551) (o := .cells #[.int .i64 a3_0, .int .i64 a3_1] 26 (0, 0)) (by (with_reducible repeat (first | refine blk_drewN ?_ _ | refine blk_drew ?_ | refine blk_alloc ?_ _)); refine blk_far ?_ NB551_567.out _; (with_reducible repeat (first | refine blk_drewN ?_ _ | refine blk_drew ?_ | refine blk_alloc ?_ _)); refine blk_far ?_ NB551_567.out _; (with_reducible repeat (first | refine blk_drewN ?_ _ | refine blk_drew ?_ | refine blk_alloc ?_ _)); exact BK551.out) hb); have n6_ := Aside0.mk (blk_below (g := gb567) (o := .cells #[.int .i64 t564, .int .i64 t565] 28 (0, 0)) (by (with_reducible repeat (first | refine blk_drewN ?_ _ | refine blk_drew ?_ | refine blk_alloc ?_ _)); refine blk_put (cs := #[.int .i64 t564, .int .i64 0]) ?_ 1 _ rfl; (with_reducible repeat (first | refine blk_drewN ?_ _ | refine blk_drew ?_ | refine blk_alloc ?_ _)); refine blk_put (cs := #[.int .i64 0, .int .i64 0]) ?_ 0 _ rfl; (with_reducible repeat (first | refine blk_drewN ?_ _ | refine blk_drew ?_ | refine blk_alloc ?_ _)); exact BK567.out) hb); have n7_ := Aside0.mk (below_step (hb_ HB.out) hb); clear HO554; clear HO557; clear BK548; clear BK549; clear BK550; clear BK551; clear BK567; clear HB; have HO554 := n0_; have HO557 := n1_; have BK548 := n2_; have BK549 := n3_; have BK550 := n4_; have BK551 := n5_; have BK567 := n6_; have HB := n7_; clear n0_ n1_ n2_ n3_ n4_ n5_ n6_ n7_; (try clear hb); (try clear hb2); (try clear hk); (try clear hi); have hcz106_0 : w105.cell? ⟨gb548, 0, none⟩ = some (.slice A0_0 l0_0.length c0_0) := (blk_cell BK548.out 0).trans rfl; have hcz106_1 : w105.cell? ⟨gb548, 1, none⟩ = some (.slice A0_1 l0_1.length c0_1) := (blk_cell BK548.out 1).trans rfl; have hfz106_0 := blk_frozen BK548.out 0; have hfz106_1 := blk_frozen BK548.out 1; have hnb107 := NB549_550.out; have hnc107 := NB550_549.out; have hnb108 := NB549_551.out; have hnc108 := NB551_549.out; have hnb109 := NB549_567.out; have hnc109 := NB567_549.out; have hcz110_0 : w105.cell? ⟨gb549, 0, none⟩ = some (.int .i64 a1_0) := (blk_cell BK549.out 0).trans rfl; have hcz110_1 : w105.cell? ⟨gb549, 1, none⟩ = some (.int .i64 a1_1) := (blk_cell BK549.out 1).trans rfl; have hfz110_0 := blk_frozen BK549.out 0; have hfz110_1 := blk_frozen BK549.out 1) | (go_at_call 24; (with_reducible refine (comfitref02_Is.calls a1_0 a1_1 false _ A39.out).mono ?_); rintro e w111 ⟨rfl, hb⟩; have n0_ := Aside0.mk (Kd.R_below (kr_ (HO554.out)) hb); have n1_ := Aside0.mk (Kd.R_below (kr_ (HO557.out)) hb); have n2_ := Aside0.mk (bkb_ BK548.out hb); have n3_ := Aside0.mk (bkb_ BK549.out hb); have n4_ := Aside0.mk (bkb_ BK550.out hb); have n5_ := Aside0.mk (bkb_ BK551.out hb); have n6_ := Aside0.mk (bkb_ BK567.out hb); have n7_ := Aside0.mk (below_step (hb_ HB.out) hb); clear HO554; clear HO557; clear BK548; clear BK549; clear BK550; clear BK551; clear BK567; clear HB; have HO554 := n0_; have HO557 := n1_; have BK548 := n2_; have BK549 := n3_; have BK550 := n4_; have BK551 := n5_; have BK567 := n6_; have HB := n7_; clear n0_ n1_ n2_ n3_ n4_ n5_ n6_ n7_; (try clear hb); (try clear hb2); (try clear hk); (try clear hi)))
     go_meet
     case rel => exact ⟨_, (true), (by first | rfl | (simp; done) | (simp [*]; done)), H', ⟨by first | omega | exact Nat.le_refl _⟩, ⟨by (with_reducible repeat (first | refine blk_drewN ?_ _ | refine blk_drew ?_ | refine blk_alloc ?_ _)); exact BK548.out⟩, ⟨by (with_reducible repeat (first | refine blk_drewN ?_ _ | refine blk_drew ?_ | refine blk_alloc ?_ _)); exact BK549.out⟩, ⟨by (with_reducible repeat (first | refine blk_drewN ?_ _ | refine blk_drew ?_ | refine blk_alloc ?_ _)); exact BK550.out⟩, ⟨by (with_reducible repeat (first | refine blk_drewN ?_ _ | refine blk_drew ?_ | refine blk_alloc ?_ _)); exact BK551.out⟩, ⟨by (with_reducible repeat (first | refine blk_drewN ?_ _ | refine blk_drew ?_ | refine blk_alloc ?_ _)); exact BK567.out⟩, ⟨by repeat (first | (with_reducible first | exact HB.out | apply below_alloc | apply pw_below_drewN | apply below_drew1 | refine below_set ?_ GE548.out | refine below_set ?_ GE549.out | refine below_set ?_ GE550.out | refine below_set ?_ GE551.out | refine below_set ?_ GE567.out) | exact HB.out)⟩⟩
  ·replace c30 := Bool.eq_false_iff.mpr c30
   subst c30
   have H1 : (comfitlaw02_LotsPrices.j0 k a4 a5 t566 true l0_0 l0_1 a1_0 a1_1 a2_0 a2_1 a3_0 a3_1 t564 t565) = some r := by rw [if_neg (show ¬ (false = true) by decide)] at H; exact H
   clear H
   have H := H1
   clear H1
   have H' := Aside0.mk H
   clear H
   have hnb112 := NB548_549.out
   have hnc112 := NB549_548.out
   have hnb113 := NB548_550.out
   have hnc113 := NB550_548.out
   have hnb114 := NB548_551.out
   have hnc114 := NB551_548.out
   have hnb115 := NB548_567.out
   have hnc115 := NB567_548.out
   have hcz116_0 : w26.cell? ⟨gb548, 0, none⟩ = some (.slice A0_0 l0_0.length c0_0) := (blk_cell BK548.out 0).trans rfl
   have hcz116_1 : w26.cell? ⟨gb548, 1, none⟩ = some (.slice A0_1 l0_1.length c0_1) := (blk_cell BK548.out 1).trans rfl
   have hfz116_0 := blk_frozen BK548.out 0
   have hfz116_1 := blk_frozen BK548.out 1
   go_wp2_with (first | ((with_reducible refine gate_callee (f := 23) rfl ?_); refine goesL_ (some 30) rfl rfl Try.func23 (by kernel_rfl) rfl #[.agg #[.slice A0_0 l0_0.length c0_0, .slice A0_1 l0_1.length c0_1]] rfl al_ ?_; (with_reducible refine (comfitref02_Valid.calls k _ _ l0_0 _ _ l0_1 false _ ?side1 ?side2 ?side3 ?side4 A29.out).mono ?_); (case side1 => exact Kd.C_below HR0_0.out (hb_ HB.out)); (case side2 => exact HC0_0.out); (case side3 => exact Kd.C_below HR0_1.out (hb_ HB.out)); (case side4 => exact HC0_1.out); rintro e w117 ⟨rfl, hb⟩; refine ⟨_, rfl, ?_⟩; have n0_ := Aside0.mk (Kd.R_below (by (with_reducible repeat (first | apply Kd.R_alloc | apply Kd.R_drewN | apply Kd.R_drew)); exact (Kd.R_mono (Kd.R_far (p := ⟨gb567, 1, none⟩) (Kd.R_far (p := ⟨gb567, 0, none⟩) (Kd.R_types HO554.out BK567.out (by decide)) (fun _ hk => hk.2) (.int .i64 t564)) (fun _ hk => hk.2) (.int .i64 t565)) (fun _ h_ => h_.1))) hb); have n1_ := Aside0.mk (Kd.R_below (by (with_reducible repeat (first | apply Kd.R_alloc | apply Kd.R_drewN | apply Kd.R_drew)); exact (Kd.R_mono (Kd.R_far (p := ⟨gb567, 1, none⟩) (Kd.R_far (p := ⟨gb567, 0, none⟩) (Kd.R_types HO557.out BK567.out (by decide)) (fun _ hk => hk.2) (.int .i64 t564)) (fun _ hk => hk.2) (.int .i64 t565)) (fun _ h_ => h_.1))) hb); have n2_ := Aside0.mk (blk_below (g := gb548) (o := .cells #[.slice A0_0 l0_0.length c0_0, .slice A0_1 l0_1.length c0_1] 24 (0, 0)) (by (with_reducible repeat (first | refine blk_drewN ?_ _ | refine blk_drew ?_ | refine blk_alloc ?_ _)); refine blk_far ?_ NB548_567.out _; (with_reducible repeat (first | refine blk_drewN ?_ _ | refine blk_drew ?_ | refine blk_alloc ?_ _)); refine blk_far ?_ NB548_567.out _; (with_reducible repeat (first | refine blk_drewN ?_ _ | refine blk_drew ?_ | refine blk_alloc ?_ _)); exact BK548.out) hb); have n3_ := Aside0.mk (blk_below (g := gb549) (o := .cells #[.int .i64 a1_0, .int .i64 a1_1] 26 (0, 0)) (by (with_reducible repeat (first | refine blk_drewN ?_ _ | refine blk_drew ?_ | refine blk_alloc ?_ _)); refine blk_far ?_ NB549_567.out _; (with_reducible repeat (first | refine blk_drewN ?_ _ | refine blk_drew ?_ | refine blk_alloc ?_ _)); refine blk_far ?_ NB549_567.out _; (with_reducible repeat (first | refine blk_drewN ?_ _ | refine blk_drew ?_ | refine blk_alloc ?_ _)); exact BK549.out) hb); have n4_ := Aside0.mk (blk_below (g := gb550) (o := .cells #[.int .i64 a2_0, .int .i64 a2_1] 26 (0, 0)) (by (with_reducible repeat (first | refine blk_drewN ?_ _ | refine blk_drew ?_ | refine blk_alloc ?_ _)); refine blk_far ?_ NB550_567.out _; (with_reducible repeat (first | refine blk_drewN ?_ _ | refine blk_drew ?_ | refine blk_alloc ?_ _)); refine blk_far ?_ NB550_567.out _; (with_reducible repeat (first | refine blk_drewN ?_ _ | refine blk_drew ?_ | refine blk_alloc ?_ _)); exact BK550.out) hb); have n5_ := Aside0.mk (blk_below (g := gb551) (o := .cells #[.int .i64 a3_0, .int .i64 a3_1] 26 (0, 0)) (by (with_reducible repeat (first | refine blk_drewN ?_ _ | refine blk_drew ?_ | refine blk_alloc ?_ _)); refine blk_far ?_ NB551_567.out _; (with_reducible repeat (first | refine blk_drewN ?_ _ | refine blk_drew ?_ | refine blk_alloc ?_ _)); refine blk_far ?_ NB551_567.out _; (with_reducible repeat (first | refine blk_drewN ?_ _ | refine blk_drew ?_ | refine blk_alloc ?_ _)); exact BK551.out) hb); have n6_ := Aside0.mk (blk_below (g := gb567) (o := .cells #[.int .i64 t564, .int .i64 t565] 28 (0, 0)) (by (with_reducible repeat (first | refine blk_drewN ?_ _ | refine blk_drew ?_ | refine blk_alloc ?_ _)); refine blk_put (cs := #[.int .i64 t564, .int .i64 0]) ?_ 1 _ rfl; (with_reducible repeat (first | refine blk_drewN ?_ _ | refine blk_drew ?_ | refine blk_alloc ?_ _)); refine blk_put (cs := #[.int .i64 0, .int .i64 0]) ?_ 0 _ rfl; (with_reducible repeat (first | refine blk_drewN ?_ _ | refine blk_drew ?_ | refine blk_alloc ?_ _)); exact BK567.out) hb); have n7_ := Aside0.mk (below_step (hb_ HB.out) hb); clear HO554; clear HO557; clear BK548; clear BK549; clear BK550; clear BK551; clear BK567; clear HB; have HO554 := n0_; have HO557 := n1_; have BK548 := n2_; have BK549 := n3_; have BK550 := n4_; have BK551 := n5_; have BK567 := n6_; have HB := n7_; clear n0_ n1_ n2_ n3_ n4_ n5_ n6_ n7_; (try clear hb); (try clear hb2); (try clear hk); (try clear hi)))
   go_meet
   case rel => exact ⟨_, (true), (by first | rfl | (simp; done) | (simp [*]; done)), H', ⟨by first | omega | exact Nat.le_refl _⟩, ⟨by (with_reducible repeat (first | refine blk_drewN ?_ _ | refine blk_drew ?_ | refine blk_alloc ?_ _)); exact BK548.out⟩, ⟨by (with_reducible repeat (first | refine blk_drewN ?_ _ | refine blk_drew ?_ | refine blk_alloc ?_ _)); exact BK549.out⟩, ⟨by (with_reducible repeat (first | refine blk_drewN ?_ _ | refine blk_drew ?_ | refine blk_alloc ?_ _)); exact BK550.out⟩, ⟨by (with_reducible repeat (first | refine blk_drewN ?_ _ | refine blk_drew ?_ | refine blk_alloc ?_ _)); exact BK551.out⟩, ⟨by (with_reducible repeat (first | refine blk_drewN ?_ _ | refine blk_drew ?_ | refine blk_alloc ?_ _)); exact BK567.out⟩, ⟨by repeat (first | (with_reducible first | exact HB.out | apply below_alloc | apply pw_below_drewN | apply below_drew1 | refine below_set ?_ GE548.out | refine below_set ?_ GE549.out | refine below_set ?_ GE550.out | refine below_set ?_ GE551.out | refine below_set ?_ GE567.out) | exact HB.out)⟩⟩
 case rest =>
  clear HC12
  try clear c1
  try clear c2
  try clear p2
  try clear c3
  try clear c4
  try clear c5
  try clear c6
  try clear c7
  try clear c8
  try clear c9
  try clear c10
  try clear c11
  try clear c23
  try clear c30
  try clear c31
  try clear c31b0
  try clear c31b1
  try clear c32
  try clear c33
  try clear c34
  try clear c35
  try clear c40
  try clear c42
  try clear c43
  try clear c44
  try clear c46
  try clear c47
  try clear c48
  try clear c49
  try clear c53
  try clear c54
  try clear c55
  try clear c58
  try clear c59
  try clear c62
  try clear c65
  try clear c66
  try clear c67
  try clear c68
  try clear c72
  try clear c73
  try clear c74
  try clear c77
  try clear c78
  try clear c81
  try clear c84
  try clear c85
  try clear c86
  try clear c87
  try clear c91
  try clear c92
  try clear c93
  try clear c96
  try clear c97
  try clear c100
  try clear c101
  try clear c102
  try clear c103
  try clear c107
  try clear c108
  try clear c109
  try clear c112
  try clear c113
  try clear c114
  try clear c115
  try clear hcz104_0
  try clear hcz104_1
  try clear hcz106_0
  try clear hcz106_1
  try clear hcz110_0
  try clear hcz110_1
  try clear hcz116_0
  try clear hcz116_1
  try clear hcz36_0
  try clear hcz36_1
  try clear hcz38_0
  try clear hcz38_1
  try clear hcz50_0
  try clear hcz50_1
  try clear hcz52_0
  try clear hcz52_1
  try clear hcz56_0
  try clear hcz56_1
  try clear hcz60_0
  try clear hcz60_1
  try clear hcz63_0
  try clear hcz63_1
  try clear hcz69_0
  try clear hcz69_1
  try clear hcz71_0
  try clear hcz71_1
  try clear hcz75_0
  try clear hcz75_1
  try clear hcz79_0
  try clear hcz79_1
  try clear hcz82_0
  try clear hcz82_1
  try clear hcz88_0
  try clear hcz88_1
  try clear hcz90_0
  try clear hcz90_1
  try clear hcz94_0
  try clear hcz94_1
  try clear hcz98_0
  try clear hcz98_1
  try clear hfz104_0
  try clear hfz104_1
  try clear hfz106_0
  try clear hfz106_1
  try clear hfz110_0
  try clear hfz110_1
  try clear hfz116_0
  try clear hfz116_1
  try clear hfz36_0
  try clear hfz36_1
  try clear hfz38_0
  try clear hfz38_1
  try clear hfz50_0
  try clear hfz50_1
  try clear hfz52_0
  try clear hfz52_1
  try clear hfz56_0
  try clear hfz56_1
  try clear hfz60_0
  try clear hfz60_1
  try clear hfz63_0
  try clear hfz63_1
  try clear hfz69_0
  try clear hfz69_1
  try clear hfz71_0
  try clear hfz71_1
  try clear hfz75_0
  try clear hfz75_1
  try clear hfz79_0
  try clear hfz79_1
  try clear hfz82_0
  try clear hfz82_1
  try clear hfz88_0
  try clear hfz88_1
  try clear hfz90_0
  try clear hfz90_1
  try clear hfz94_0
  try clear hfz94_1
  try clear hfz98_0
  try clear hfz98_1
  obtain ⟨kq, x58_11, rfl, HA, HJ11, BK548, BK549, BK550, BK551, BK567, HB⟩ := hcut
  cases kq with
  | zero => exact absurd HA.out (by simp [comfitlaw02_LotsPrices.j0])
  | succ kj11 =>
   have H := HA.out
   clear HA
   simp only [comfitlaw02_LotsPrices.j0] at H
   by_cases c118 : x58_11 = true
   ·subst c118
    have H1 : ((comfitlaw02_none.f t564 t565).bind fun t573 => (if t573 = true then (if t566 = 2 then ((comfitlaw02_awake.f kj11).bind fun t574 => (some t574)) else (some false)) else (some false))) = some r := by rw [if_pos rfl] at H; exact H
    clear H
    have H := H1
    clear H1
    replace H := Option.bind_eq_some_iff.mp H
    obtain ⟨t573, A1190, H⟩ := H
    replace H : (if t573 = true then (if t566 = 2 then ((comfitlaw02_awake.f kj11).bind fun t574 => (some t574)) else (some false)) else (some false)) = some r := H
    have A119 := Aside0.mk A1190
    clear A1190
    by_cases c120 : t573 = true
    ·subst c120
     have H1 : (if t566 = 2 then ((comfitlaw02_awake.f kj11).bind fun t574 => (some t574)) else (some false)) = some r := by rw [if_pos rfl] at H; exact H
     clear H
     have H := H1
     clear H1
     by_cases c121 : t566 = 2
     ·rw [if_pos c121] at H
      have c121b0 : (t566 == 2) = true := beq_iff_eq.mpr c121
      have c121b1 : (t566 != 2) = false := bne_eq_false_iff_eq.mpr c121
      clear c121
      replace H := Option.bind_eq_some_iff.mp H
      obtain ⟨t574, A1220, H⟩ := H
      replace H : (some t574) = some r := H
      have A122 := Aside0.mk A1220
      clear A1220
      obtain rfl := Option.some.inj H
      have hnb123 := NB567_548.out
      have hnc123 := NB548_567.out
      have hnb124 := NB567_549.out
      have hnc124 := NB549_567.out
      have hnb125 := NB567_550.out
      have hnc125 := NB550_567.out
      have hnb126 := NB567_551.out
      have hnc126 := NB551_567.out
      have hcz127_0 : wc.cell? ⟨gb567, 0, none⟩ = some (.int .i64 t564) := (blk_cell BK567.out 0).trans rfl
      have hcz127_1 : wc.cell? ⟨gb567, 1, none⟩ = some (.int .i64 t565) := (blk_cell BK567.out 1).trans rfl
      have hfz127_0 := blk_frozen BK567.out 0
      have hfz127_1 := blk_frozen BK567.out 1
      go_wp2_with (first | ((with_reducible refine gate_callee (f := 25) rfl ?_); refine goesL_ (some 60) rfl rfl Try.func25 (by kernel_rfl) rfl #[.agg #[.int .i64 t564, .int .i64 t565]] rfl al_ ?_; (with_reducible refine (comfitlaw02_none.calls t564 t565 true _ A119.out).mono ?_); rintro e w128 ⟨rfl, hb⟩; refine ⟨_, rfl, ?_⟩; have n0_ := Aside0.mk (bkb_ BK548.out hb); have n1_ := Aside0.mk (bkb_ BK549.out hb); have n2_ := Aside0.mk (bkb_ BK550.out hb); have n3_ := Aside0.mk (bkb_ BK551.out hb); have n4_ := Aside0.mk (bkb_ BK567.out hb); have n5_ := Aside0.mk (below_step (hb_ HB.out) hb); clear BK548; clear BK549; clear BK550; clear BK551; clear BK567; clear HB; have BK548 := n0_; have BK549 := n1_; have BK550 := n2_; have BK551 := n3_; have BK567 := n4_; have HB := n5_; clear n0_ n1_ n2_ n3_ n4_ n5_; (try clear hb); (try clear hb2); (try clear hk); (try clear hi)) | (go_at_call 26; (with_reducible refine (comfitlaw02_awake.calls kj11  t574 _ A122.out).mono ?_); rintro e w129 ⟨rfl, hb⟩; have n0_ := Aside0.mk (bkb_ BK548.out hb); have n1_ := Aside0.mk (bkb_ BK549.out hb); have n2_ := Aside0.mk (bkb_ BK550.out hb); have n3_ := Aside0.mk (bkb_ BK551.out hb); have n4_ := Aside0.mk (bkb_ BK567.out hb); have n5_ := Aside0.mk (below_step (hb_ HB.out) hb); clear BK548; clear BK549; clear BK550; clear BK551; clear BK567; clear HB; have BK548 := n0_; have BK549 := n1_; have BK550 := n2_; have BK551 := n3_; have BK567 := n4_; have HB := n5_; clear n0_ n1_ n2_ n3_ n4_ n5_; (try clear hb); (try clear hb2); (try clear hk); (try clear hi)))
      go_ret
      exact ⟨by first | rfl | (simp [errW_none, errW_some] <;> rfl) | (simp [*, errW_none, errW_some] <;> rfl), by repeat (first | (with_reducible first | exact HB.out | apply below_alloc | apply pw_below_drewN | apply below_drew1 | refine below_set ?_ GE548.out | refine below_set ?_ GE549.out | refine below_set ?_ GE550.out | refine below_set ?_ GE551.out | refine below_set ?_ GE567.out) | exact HB.out)⟩
     ·rw [if_neg c121] at H
      have c121b0 : (t566 == 2) = false := beq_eq_false_iff_ne.mpr c121
      have c121b1 : (t566 != 2) = true := bne_iff_ne.mpr c121
      obtain rfl := Option.some.inj H
      have hnb130 := NB567_548.out
      have hnc130 := NB548_567.out
      have hnb131 := NB567_549.out
      have hnc131 := NB549_567.out
      have hnb132 := NB567_550.out
      have hnc132 := NB550_567.out
      have hnb133 := NB567_551.out
      have hnc133 := NB551_567.out
      have hcz134_0 : wc.cell? ⟨gb567, 0, none⟩ = some (.int .i64 t564) := (blk_cell BK567.out 0).trans rfl
      have hcz134_1 : wc.cell? ⟨gb567, 1, none⟩ = some (.int .i64 t565) := (blk_cell BK567.out 1).trans rfl
      have hfz134_0 := blk_frozen BK567.out 0
      have hfz134_1 := blk_frozen BK567.out 1
      go_wp2_with (first | ((with_reducible refine gate_callee (f := 25) rfl ?_); refine goesL_ (some 60) rfl rfl Try.func25 (by kernel_rfl) rfl #[.agg #[.int .i64 t564, .int .i64 t565]] rfl al_ ?_; (with_reducible refine (comfitlaw02_none.calls t564 t565 true _ A119.out).mono ?_); rintro e w135 ⟨rfl, hb⟩; refine ⟨_, rfl, ?_⟩; have n0_ := Aside0.mk (bkb_ BK548.out hb); have n1_ := Aside0.mk (bkb_ BK549.out hb); have n2_ := Aside0.mk (bkb_ BK550.out hb); have n3_ := Aside0.mk (bkb_ BK551.out hb); have n4_ := Aside0.mk (bkb_ BK567.out hb); have n5_ := Aside0.mk (below_step (hb_ HB.out) hb); clear BK548; clear BK549; clear BK550; clear BK551; clear BK567; clear HB; have BK548 := n0_; have BK549 := n1_; have BK550 := n2_; have BK551 := n3_; have BK567 := n4_; have HB := n5_; clear n0_ n1_ n2_ n3_ n4_ n5_; (try clear hb); (try clear hb2); (try clear hk); (try clear hi)))
      go_ret
      exact ⟨by first | rfl | (simp [errW_none, errW_some] <;> rfl) | (simp [*, errW_none, errW_some] <;> rfl), by repeat (first | (with_reducible first | exact HB.out | apply below_alloc | apply pw_below_drewN | apply below_drew1 | refine below_set ?_ GE548.out | refine below_set ?_ GE549.out | refine below_set ?_ GE550.out | refine below_set ?_ GE551.out | refine below_set ?_ GE567.out) | exact HB.out)⟩
    ·replace c120 := Bool.eq_false_iff.mpr c120
     subst c120
     have H1 : (some false) = some r := by rw [if_neg (show ¬ (false = true) by decide)] at H; exact H
     clear H
     have H := H1
     clear H1
     obtain rfl := Option.some.inj H
     have hnb136 := NB567_548.out
     have hnc136 := NB548_567.out
     have hnb137 := NB567_549.out
     have hnc137 := NB549_567.out
     have hnb138 := NB567_550.out
     have hnc138 := NB550_567.out
     have hnb139 := NB567_551.out
     have hnc139 := NB551_567.out
     have hcz140_0 : wc.cell? ⟨gb567, 0, none⟩ = some (.int .i64 t564) := (blk_cell BK567.out 0).trans rfl
     have hcz140_1 : wc.cell? ⟨gb567, 1, none⟩ = some (.int .i64 t565) := (blk_cell BK567.out 1).trans rfl
     have hfz140_0 := blk_frozen BK567.out 0
     have hfz140_1 := blk_frozen BK567.out 1
     go_wp2_with (first | ((with_reducible refine gate_callee (f := 25) rfl ?_); refine goesL_ (some 60) rfl rfl Try.func25 (by kernel_rfl) rfl #[.agg #[.int .i64 t564, .int .i64 t565]] rfl al_ ?_; (with_reducible refine (comfitlaw02_none.calls t564 t565 false _ A119.out).mono ?_); rintro e w141 ⟨rfl, hb⟩; refine ⟨_, rfl, ?_⟩; have n0_ := Aside0.mk (bkb_ BK548.out hb); have n1_ := Aside0.mk (bkb_ BK549.out hb); have n2_ := Aside0.mk (bkb_ BK550.out hb); have n3_ := Aside0.mk (bkb_ BK551.out hb); have n4_ := Aside0.mk (bkb_ BK567.out hb); have n5_ := Aside0.mk (below_step (hb_ HB.out) hb); clear BK548; clear BK549; clear BK550; clear BK551; clear BK567; clear HB; have BK548 := n0_; have BK549 := n1_; have BK550 := n2_; have BK551 := n3_; have BK567 := n4_; have HB := n5_; clear n0_ n1_ n2_ n3_ n4_ n5_; (try clear hb); (try clear hb2); (try clear hk); (try clear hi)))
     go_ret
     exact ⟨by first | rfl | (simp [errW_none, errW_some] <;> rfl) | (simp [*, errW_none, errW_some] <;> rfl), by repeat (first | (with_reducible first | exact HB.out | apply below_alloc | apply pw_below_drewN | apply below_drew1 | refine below_set ?_ GE548.out | refine below_set ?_ GE549.out | refine below_set ?_ GE550.out | refine below_set ?_ GE551.out | refine below_set ?_ GE567.out) | exact HB.out)⟩
   ·replace c118 := Bool.eq_false_iff.mpr c118
    subst c118
    have H1 : ((comfitref02_Price.f kj11 l0_0 l0_1 a1_0 a1_1 a2_0 a2_1 a3_0 a3_1 a4 a5).bind fun bt575 => (if (t564 == bt575.1 && (t565 == bt575.2)) = true then (if t566 = 0 then ((comfitlaw02_awake.f kj11).bind fun t577 => (some t577)) else (some false)) else (some false))) = some r := by rw [if_neg (show ¬ (false = true) by decide)] at H; exact H
    clear H
    have H := H1
    clear H1
    replace H := Option.bind_eq_some_iff.mp H
    obtain ⟨⟨t575, t576⟩, A1420, H⟩ := H
    replace H : (if (t564 == t575 && (t565 == t576)) = true then (if t566 = 0 then ((comfitlaw02_awake.f kj11).bind fun t577 => (some t577)) else (some false)) else (some false)) = some r := H
    have A142 := Aside0.mk A1420
    clear A1420
    by_cases c143 : (t564 == t575 && (t565 == t576)) = true
    ·rw [if_pos c143] at H
     have c143b0 : (t564 == t575 && (t565 == t576)) = true := c143
     (try (have c143b1 : decide (t564 = t575 && (t565 == t576)) = true := by simpa using c143))
     (try (have c143b2 : (t564 == t575 && (t565 == t576)) = true := by simpa using c143))
     clear c143
     by_cases c144 : t566 = 0
     ·rw [if_pos c144] at H
      have c144b0 : (t566 == 0) = true := beq_iff_eq.mpr c144
      have c144b1 : (t566 != 0) = false := bne_eq_false_iff_eq.mpr c144
      clear c144
      replace H := Option.bind_eq_some_iff.mp H
      obtain ⟨t577, A1450, H⟩ := H
      replace H : (some t577) = some r := H
      have A145 := Aside0.mk A1450
      clear A1450
      obtain rfl := Option.some.inj H
      try go_wp2
      have n0_ := Aside0.mk (blk_drew BK548.out)
      have n1_ := Aside0.mk (blk_drew BK549.out)
      have n2_ := Aside0.mk (blk_drew BK550.out)
      have n3_ := Aside0.mk (blk_drew BK551.out)
      have n4_ := Aside0.mk (blk_drew BK567.out)
      have n5_ := Aside0.mk (below_drew1 HB.out)
      clear BK548
      clear BK549
      clear BK550
      clear BK551
      clear BK567
      clear HB
      have BK548 := n0_
      have BK549 := n1_
      have BK550 := n2_
      have BK551 := n3_
      have BK567 := n4_
      have HB := n5_
      clear n0_ n1_ n2_ n3_ n4_ n5_
      refine start_ (n := 17) (S := fun w' => w'.cell? ⟨gb567, 0, none⟩ = some (.int .i64 t564) ∧ w'.cell? ⟨gb567, 1, none⟩ = some (.int .i64 t565) ∧ w'.cell? ⟨gb548, 0, none⟩ = some (.slice A0_0 l0_0.length c0_0) ∧ w'.cell? ⟨gb548, 1, none⟩ = some (.slice A0_1 l0_1.length c0_1) ∧ w'.cell? ⟨gb549, 0, none⟩ = some (.int .i64 a1_0) ∧ w'.cell? ⟨gb549, 1, none⟩ = some (.int .i64 a1_1) ∧ w'.cell? ⟨gb550, 0, none⟩ = some (.int .i64 a2_0) ∧ w'.cell? ⟨gb550, 1, none⟩ = some (.int .i64 a2_1) ∧ w'.cell? ⟨gb551, 0, none⟩ = some (.int .i64 a3_0) ∧ w'.cell? ⟨gb551, 1, none⟩ = some (.int .i64 a3_1)) (ds := []) #[false, false, false, false, false, false, false, false, false, false, false, false, false, false, false, false, false] (by kernel_rfl) rfl rfl ⟨(blk_cell BK567.out 0).trans rfl, (blk_cell BK567.out 1).trans rfl, (blk_cell BK548.out 0).trans rfl, (blk_cell BK548.out 1).trans rfl, (blk_cell BK549.out 0).trans rfl, (blk_cell BK549.out 1).trans rfl, (blk_cell BK550.out 0).trans rfl, (blk_cell BK550.out 1).trans rfl, (blk_cell BK551.out 0).trans rfl, (blk_cell BK551.out 1).trans rfl⟩ (fun hHeld => ?_); refine with_tabW comfitlaw02_LotsPrices.tab4 comfitlaw02_LotsPrices.bits4 (fun HT_ HW_ => ?_)
      generalize wc.drew = w146 at BK548 BK549 BK550 BK551 BK567 HB hHeld ⊢
      refine pure_ (i := 5) (N := some 73) (v := ?_) (a' := ?_) #[false, false, false, false, false, true, false, false, false, false, false, false, false, false, false, false, false] rfl rfl (any_of HT_.out (by kernel_rfl)) (fun _ _ _ h => h) (Or.inl ⟨by rfl, ?_⟩) ?_ ?_
      rotate_left
      ·intro w'
       go_simp
       with_reducible rfl
      rotate_left
      ·simp only [Act.put, List.setIfInBounds_toArray, List.set_cons_zero, List.set_cons_succ, i64_w, i32_w]
       rfl
      refine pure_ (i := 6) (N := some 74) (v := ?_) (a' := ?_) #[false, false, false, false, false, true, true, false, false, false, false, false, false, false, false, false, false] rfl rfl (any_of HT_.out (by kernel_rfl)) (fun _ _ _ h => h) (Or.inl ⟨by rfl, ?_⟩) ?_ ?_
      rotate_left
      ·intro w'
       go_simp
       with_reducible rfl
      rotate_left
      ·simp only [Act.put, List.setIfInBounds_toArray, List.set_cons_zero, List.set_cons_succ, i64_w, i32_w]
       rfl
      refine take_ (i := 0) (N := some 68) (v := ?_) (a' := ?_) #[true, false, false, false, false, true, true, false, false, false, false, false, false, false, false, false, false] rfl rfl (take_ofW HT_.out HW_.out (by kernel_rfl)) (fun _ _ _ h => h) (Or.inl ⟨by rfl, ?_⟩) hHeld ?_ ?_
      rotate_left
      ·rintro w' ⟨s0, s1, s2, s3, s4, s5, s6, s7, s8, s9⟩
       go_simp
       with_reducible rfl
      rotate_left
      ·simp only [Act.put, List.setIfInBounds_toArray, List.set_cons_zero, List.set_cons_succ, i64_w, i32_w]
       rfl
      refine take_ (i := 1) (N := some 69) (v := ?_) (a' := ?_) #[true, true, false, false, false, true, true, false, false, false, false, false, false, false, false, false, false] rfl rfl (take_ofW HT_.out HW_.out (by kernel_rfl)) (fun _ _ _ h => h) (Or.inl ⟨by rfl, ?_⟩) hHeld ?_ ?_
      rotate_left
      ·rintro w' ⟨s0, s1, s2, s3, s4, s5, s6, s7, s8, s9⟩
       go_simp
       with_reducible rfl
      rotate_left
      ·simp only [Act.put, List.setIfInBounds_toArray, List.set_cons_zero, List.set_cons_succ, i64_w, i32_w]
       rfl
      refine take_ (i := 2) (N := some 70) (v := ?_) (a' := ?_) #[true, true, true, false, false, true, true, false, false, false, false, false, false, false, false, false, false] rfl rfl (take_ofW HT_.out HW_.out (by kernel_rfl)) (fun _ _ _ h => h) (Or.inl ⟨by rfl, ?_⟩) hHeld ?_ ?_
      rotate_left
      ·rintro w' ⟨s0, s1, s2, s3, s4, s5, s6, s7, s8, s9⟩
       go_simp
       with_reducible rfl
      rotate_left
      ·simp only [Act.put, List.setIfInBounds_toArray, List.set_cons_zero, List.set_cons_succ, i64_w, i32_w]
       rfl
      refine take_ (i := 3) (N := some 71) (v := ?_) (a' := ?_) #[true, true, true, true, false, true, true, false, false, false, false, false, false, false, false, false, false] rfl rfl (take_ofW HT_.out HW_.out (by kernel_rfl)) (fun _ _ _ h => h) (Or.inl ⟨by rfl, ?_⟩) hHeld ?_ ?_
      rotate_left
      ·rintro w' ⟨s0, s1, s2, s3, s4, s5, s6, s7, s8, s9⟩
       go_simp
       with_reducible rfl
      rotate_left
      ·simp only [Act.put, List.setIfInBounds_toArray, List.set_cons_zero, List.set_cons_succ, i64_w, i32_w]
       rfl
      refine take_ (i := 4) (N := some 72) (v := ?_) (a' := ?_) #[true, true, true, true, true, true, true, false, false, false, false, false, false, false, false, false, false] rfl rfl (take_ofW HT_.out HW_.out (by kernel_rfl)) (fun _ _ _ h => h) (Or.inl ⟨by rfl, ?_⟩) hHeld ?_ ?_
      rotate_left
      ·rintro w' ⟨s0, s1, s2, s3, s4, s5, s6, s7, s8, s9⟩
       go_simp
       with_reducible rfl
      rotate_left
      ·simp only [Act.put, List.setIfInBounds_toArray, List.set_cons_zero, List.set_cons_succ, i64_w, i32_w]
       rfl
      refine one_ (i := 7) (N := some 75) #[true, true, true, true, true, true, true, true, false, false, false, false, false, false, false, false, false] rfl rfl (one_of HT_.out (by kernel_rfl)) (by decide) (fun K hK => ?_)
      refine goes_ Try.func44 (by kernel_rfl) rfl #[.agg #[.slice A0_0 l0_0.length c0_0, .slice A0_1 l0_1.length c0_1], .agg #[.int .i64 a1_0, .int .i64 a1_1], .agg #[.int .i64 a2_0, .int .i64 a2_1], .agg #[.int .i64 a3_0, .int .i64 a3_1], .int .i64 a4, .int .i64 a5] (by rfl) rfl rfl al_ ?_
      with_reducible refine (comfitref02_Price.calls kj11 _ _ l0_0 _ _ l0_1 a1_0 a1_1 a2_0 a2_1 a3_0 a3_1 a4 a5 t575 t576 _ ?side1 ?side2 ?side3 ?side4 A142.out).mono ?_
      (case side1 => exact kc_ (Kd.C_below HR0_0.out HB.out))
      (case side2 => exact HC0_0.out)
      (case side3 => exact kc_ (Kd.C_below HR0_1.out HB.out))
      (case side4 => exact HC0_1.out)
      rintro e w147 ⟨rfl, hb⟩
      refine ⟨_, rfl, ?_⟩
      have n0_ := Aside0.mk (bkb_ BK548.out hb)
      have n1_ := Aside0.mk (bkb_ BK549.out hb)
      have n2_ := Aside0.mk (bkb_ BK550.out hb)
      have n3_ := Aside0.mk (bkb_ BK551.out hb)
      have n4_ := Aside0.mk (bkb_ BK567.out hb)
      have n5_ := Aside0.mk (below_step (hb_ HB.out) hb)
      clear BK548
      clear BK549
      clear BK550
      clear BK551
      clear BK567
      clear HB
      have BK548 := n0_
      have BK549 := n1_
      have BK550 := n2_
      have BK551 := n3_
      have BK567 := n4_
      have HB := n5_
      clear n0_ n1_ n2_ n3_ n4_ n5_
      (try clear hb)
      (try clear hb2)
      (try clear hk)
      (try clear hi)
      refine hK.out _ _ ⟨(blk_cell BK567.out 0).trans rfl, (blk_cell BK567.out 1).trans rfl, (blk_cell BK548.out 0).trans rfl, (blk_cell BK548.out 1).trans rfl, (blk_cell BK549.out 0).trans rfl, (blk_cell BK549.out 1).trans rfl, (blk_cell BK550.out 0).trans rfl, (blk_cell BK550.out 1).trans rfl, (blk_cell BK551.out 0).trans rfl, (blk_cell BK551.out 1).trans rfl⟩ (fun hHeld => ?_)
      clear hK K
      refine norm_ (a' := ?_) ?_ ?_
      rotate_left
      ·show Act.put _ (some 75) _ = _
       simp only [Act.put, List.setIfInBounds_toArray, List.set_cons_zero, List.set_cons_succ, i64_w, i32_w]
       rfl
      refine pure_ (i := 8) (N := some 76) (v := ?_) (a' := ?_) #[true, true, true, true, true, true, true, true, true, false, false, false, false, false, false, false, false] rfl rfl (any_of HT_.out (by kernel_rfl)) (fun _ _ _ h => h) (Or.inl ⟨by rfl, ?_⟩) ?_ ?_
      rotate_left
      ·intro w'
       go_simp
       with_reducible rfl
      rotate_left
      ·simp only [Act.put, List.setIfInBounds_toArray, List.set_cons_zero, List.set_cons_succ, i64_w, i32_w]
       rfl
      refine pure_ (i := 9) (N := some 77) (v := ?_) (a' := ?_) #[true, true, true, true, true, true, true, true, true, true, false, false, false, false, false, false, false] rfl rfl (any_of HT_.out (by kernel_rfl)) (fun _ _ _ h => h) (Or.inl ⟨by rfl, ?_⟩) ?_ ?_
      rotate_left
      ·intro w'
       go_simp
       with_reducible rfl
      rotate_left
      ·simp only [Act.put, List.setIfInBounds_toArray, List.set_cons_zero, List.set_cons_succ, i64_w, i32_w]
       rfl
      refine pure_ (i := 10) (N := some 78) (v := ?_) (a' := ?_) #[true, true, true, true, true, true, true, true, true, true, true, false, false, false, false, false, false] rfl rfl (any_of HT_.out (by kernel_rfl)) (fun _ _ _ h => h) (Or.inl ⟨by rfl, ?_⟩) ?_ ?_
      rotate_left
      ·intro w'
       go_simp
       with_reducible rfl
      rotate_left
      ·simp only [Act.put, List.setIfInBounds_toArray, List.set_cons_zero, List.set_cons_succ, i64_w, i32_w]
       rfl
      refine pure_ (i := 11) (N := some 79) (v := ?_) (a' := ?_) #[true, true, true, true, true, true, true, true, true, true, true, true, false, false, false, false, false] rfl rfl (any_of HT_.out (by kernel_rfl)) (fun _ _ _ h => h) (Or.inl ⟨by rfl, ?_⟩) ?_ ?_
      rotate_left
      ·intro w'
       go_simp
       with_reducible rfl
      rotate_left
      ·simp only [Act.put, List.setIfInBounds_toArray, List.set_cons_zero, List.set_cons_succ, i64_w, i32_w]
       rfl
      refine pure_ (i := 12) (N := some 80) (v := ?_) (a' := ?_) #[true, true, true, true, true, true, true, true, true, true, true, true, true, false, false, false, false] rfl rfl (any_of HT_.out (by kernel_rfl)) (fun _ _ _ h => h) (Or.inl ⟨by rfl, ?_⟩) ?_ ?_
      rotate_left
      ·intro w'
       go_simp
       with_reducible rfl
      rotate_left
      ·simp only [Act.put, List.setIfInBounds_toArray, List.set_cons_zero, List.set_cons_succ, i64_w, i32_w]
       rfl
      refine pure_ (i := 13) (N := some 81) (v := ?_) (a' := ?_) #[true, true, true, true, true, true, true, true, true, true, true, true, true, true, false, false, false] rfl rfl (any_of HT_.out (by kernel_rfl)) (fun _ _ _ h => h) (Or.inl ⟨by rfl, ?_⟩) ?_ ?_
      rotate_left
      ·intro w'
       go_simp
       with_reducible rfl
      rotate_left
      ·simp only [Act.put, List.setIfInBounds_toArray, List.set_cons_zero, List.set_cons_succ, i64_w, i32_w]
       rfl
      refine one_ (i := 14) (N := some 82) #[true, true, true, true, true, true, true, true, true, true, true, true, true, true, true, false, false] rfl rfl (one_of HT_.out (by kernel_rfl)) (by decide) (fun K hK => ?_)
      refine goes_ Try.func26 (by kernel_rfl) rfl #[] (by rfl) rfl rfl al_ ?_
      with_reducible refine (comfitlaw02_awake.calls kj11  t577 _ A145.out).mono ?_
      rintro e w148 ⟨rfl, hb⟩
      refine ⟨_, rfl, ?_⟩
      have n0_ := Aside0.mk (bkb_ BK548.out hb)
      have n1_ := Aside0.mk (bkb_ BK549.out hb)
      have n2_ := Aside0.mk (bkb_ BK550.out hb)
      have n3_ := Aside0.mk (bkb_ BK551.out hb)
      have n4_ := Aside0.mk (bkb_ BK567.out hb)
      have n5_ := Aside0.mk (below_step (hb_ HB.out) hb)
      clear BK548
      clear BK549
      clear BK550
      clear BK551
      clear BK567
      clear HB
      have BK548 := n0_
      have BK549 := n1_
      have BK550 := n2_
      have BK551 := n3_
      have BK567 := n4_
      have HB := n5_
      clear n0_ n1_ n2_ n3_ n4_ n5_
      (try clear hb)
      (try clear hb2)
      (try clear hk)
      (try clear hi)
      refine hK.out _ _ ⟨(blk_cell BK567.out 0).trans rfl, (blk_cell BK567.out 1).trans rfl, (blk_cell BK548.out 0).trans rfl, (blk_cell BK548.out 1).trans rfl, (blk_cell BK549.out 0).trans rfl, (blk_cell BK549.out 1).trans rfl, (blk_cell BK550.out 0).trans rfl, (blk_cell BK550.out 1).trans rfl, (blk_cell BK551.out 0).trans rfl, (blk_cell BK551.out 1).trans rfl⟩ (fun hHeld => ?_)
      clear hK K
      refine norm_ (a' := ?_) ?_ ?_
      rotate_left
      ·show Act.put _ (some 82) _ = _
       simp only [Act.put, List.setIfInBounds_toArray, List.set_cons_zero, List.set_cons_succ, i64_w, i32_w]
       rfl
      refine pure_ (i := 15) (N := some 83) (v := ?_) (a' := ?_) #[true, true, true, true, true, true, true, true, true, true, true, true, true, true, true, true, false] rfl rfl (any_of HT_.out (by kernel_rfl)) (fun _ _ _ h => h) (Or.inl ⟨by rfl, ?_⟩) ?_ ?_
      rotate_left
      ·intro w'
       go_simp
       with_reducible rfl
      rotate_left
      ·simp only [Act.put, List.setIfInBounds_toArray, List.set_cons_zero, List.set_cons_succ, i64_w, i32_w]
       rfl
      refine pure_ (i := 16) (N := some 12) (v := ?_) (a' := ?_) #[true, true, true, true, true, true, true, true, true, true, true, true, true, true, true, true, true] rfl rfl (any_of HT_.out (by kernel_rfl)) (fun _ _ _ h => h) (Or.inl ⟨by rfl, ?_⟩) ?_ ?_
      rotate_left
      ·intro w'
       go_simp
       with_reducible rfl
      rotate_left
      ·simp only [Act.put, List.setIfInBounds_toArray, List.set_cons_zero, List.set_cons_succ, i64_w, i32_w]
       rfl
      refine done_ (done_of HT_.out (by kernel_rfl)) ?_
      try go_wp2
      go_ret
      exact ⟨by first | rfl | (simp [errW_none, errW_some] <;> rfl) | (simp [*, errW_none, errW_some] <;> rfl), by repeat (first | (with_reducible first | exact HB.out | apply below_alloc | apply pw_below_drewN | apply below_drew1 | refine below_set ?_ GE548.out | refine below_set ?_ GE549.out | refine below_set ?_ GE550.out | refine below_set ?_ GE551.out | refine below_set ?_ GE567.out) | exact HB.out)⟩
     ·rw [if_neg c144] at H
      have c144b0 : (t566 == 0) = false := beq_eq_false_iff_ne.mpr c144
      have c144b1 : (t566 != 0) = true := bne_iff_ne.mpr c144
      obtain rfl := Option.some.inj H
      try go_wp2
      have n0_ := Aside0.mk (blk_drew BK548.out)
      have n1_ := Aside0.mk (blk_drew BK549.out)
      have n2_ := Aside0.mk (blk_drew BK550.out)
      have n3_ := Aside0.mk (blk_drew BK551.out)
      have n4_ := Aside0.mk (blk_drew BK567.out)
      have n5_ := Aside0.mk (below_drew1 HB.out)
      clear BK548
      clear BK549
      clear BK550
      clear BK551
      clear BK567
      clear HB
      have BK548 := n0_
      have BK549 := n1_
      have BK550 := n2_
      have BK551 := n3_
      have BK567 := n4_
      have HB := n5_
      clear n0_ n1_ n2_ n3_ n4_ n5_
      refine start_ (n := 17) (S := fun w' => w'.cell? ⟨gb567, 0, none⟩ = some (.int .i64 t564) ∧ w'.cell? ⟨gb567, 1, none⟩ = some (.int .i64 t565) ∧ w'.cell? ⟨gb548, 0, none⟩ = some (.slice A0_0 l0_0.length c0_0) ∧ w'.cell? ⟨gb548, 1, none⟩ = some (.slice A0_1 l0_1.length c0_1) ∧ w'.cell? ⟨gb549, 0, none⟩ = some (.int .i64 a1_0) ∧ w'.cell? ⟨gb549, 1, none⟩ = some (.int .i64 a1_1) ∧ w'.cell? ⟨gb550, 0, none⟩ = some (.int .i64 a2_0) ∧ w'.cell? ⟨gb550, 1, none⟩ = some (.int .i64 a2_1) ∧ w'.cell? ⟨gb551, 0, none⟩ = some (.int .i64 a3_0) ∧ w'.cell? ⟨gb551, 1, none⟩ = some (.int .i64 a3_1)) (ds := []) #[false, false, false, false, false, false, false, false, false, false, false, false, false, false, false, false, false] (by kernel_rfl) rfl rfl ⟨(blk_cell BK567.out 0).trans rfl, (blk_cell BK567.out 1).trans rfl, (blk_cell BK548.out 0).trans rfl, (blk_cell BK548.out 1).trans rfl, (blk_cell BK549.out 0).trans rfl, (blk_cell BK549.out 1).trans rfl, (blk_cell BK550.out 0).trans rfl, (blk_cell BK550.out 1).trans rfl, (blk_cell BK551.out 0).trans rfl, (blk_cell BK551.out 1).trans rfl⟩ (fun hHeld => ?_); refine with_tabW comfitlaw02_LotsPrices.tab4 comfitlaw02_LotsPrices.bits4 (fun HT_ HW_ => ?_)
      generalize wc.drew = w149 at BK548 BK549 BK550 BK551 BK567 HB hHeld ⊢
      refine pure_ (i := 5) (N := some 73) (v := ?_) (a' := ?_) #[false, false, false, false, false, true, false, false, false, false, false, false, false, false, false, false, false] rfl rfl (any_of HT_.out (by kernel_rfl)) (fun _ _ _ h => h) (Or.inl ⟨by rfl, ?_⟩) ?_ ?_
      rotate_left
      ·intro w'
       go_simp
       with_reducible rfl
      rotate_left
      ·simp only [Act.put, List.setIfInBounds_toArray, List.set_cons_zero, List.set_cons_succ, i64_w, i32_w]
       rfl
      refine pure_ (i := 6) (N := some 74) (v := ?_) (a' := ?_) #[false, false, false, false, false, true, true, false, false, false, false, false, false, false, false, false, false] rfl rfl (any_of HT_.out (by kernel_rfl)) (fun _ _ _ h => h) (Or.inl ⟨by rfl, ?_⟩) ?_ ?_
      rotate_left
      ·intro w'
       go_simp
       with_reducible rfl
      rotate_left
      ·simp only [Act.put, List.setIfInBounds_toArray, List.set_cons_zero, List.set_cons_succ, i64_w, i32_w]
       rfl
      refine take_ (i := 0) (N := some 68) (v := ?_) (a' := ?_) #[true, false, false, false, false, true, true, false, false, false, false, false, false, false, false, false, false] rfl rfl (take_ofW HT_.out HW_.out (by kernel_rfl)) (fun _ _ _ h => h) (Or.inl ⟨by rfl, ?_⟩) hHeld ?_ ?_
      rotate_left
      ·rintro w' ⟨s0, s1, s2, s3, s4, s5, s6, s7, s8, s9⟩
       go_simp
       with_reducible rfl
      rotate_left
      ·simp only [Act.put, List.setIfInBounds_toArray, List.set_cons_zero, List.set_cons_succ, i64_w, i32_w]
       rfl
      refine take_ (i := 1) (N := some 69) (v := ?_) (a' := ?_) #[true, true, false, false, false, true, true, false, false, false, false, false, false, false, false, false, false] rfl rfl (take_ofW HT_.out HW_.out (by kernel_rfl)) (fun _ _ _ h => h) (Or.inl ⟨by rfl, ?_⟩) hHeld ?_ ?_
      rotate_left
      ·rintro w' ⟨s0, s1, s2, s3, s4, s5, s6, s7, s8, s9⟩
       go_simp
       with_reducible rfl
      rotate_left
      ·simp only [Act.put, List.setIfInBounds_toArray, List.set_cons_zero, List.set_cons_succ, i64_w, i32_w]
       rfl
      refine take_ (i := 2) (N := some 70) (v := ?_) (a' := ?_) #[true, true, true, false, false, true, true, false, false, false, false, false, false, false, false, false, false] rfl rfl (take_ofW HT_.out HW_.out (by kernel_rfl)) (fun _ _ _ h => h) (Or.inl ⟨by rfl, ?_⟩) hHeld ?_ ?_
      rotate_left
      ·rintro w' ⟨s0, s1, s2, s3, s4, s5, s6, s7, s8, s9⟩
       go_simp
       with_reducible rfl
      rotate_left
      ·simp only [Act.put, List.setIfInBounds_toArray, List.set_cons_zero, List.set_cons_succ, i64_w, i32_w]
       rfl
      refine take_ (i := 3) (N := some 71) (v := ?_) (a' := ?_) #[true, true, true, true, false, true, true, false, false, false, false, false, false, false, false, false, false] rfl rfl (take_ofW HT_.out HW_.out (by kernel_rfl)) (fun _ _ _ h => h) (Or.inl ⟨by rfl, ?_⟩) hHeld ?_ ?_
      rotate_left
      ·rintro w' ⟨s0, s1, s2, s3, s4, s5, s6, s7, s8, s9⟩
       go_simp
       with_reducible rfl
      rotate_left
      ·simp only [Act.put, List.setIfInBounds_toArray, List.set_cons_zero, List.set_cons_succ, i64_w, i32_w]
       rfl
      refine take_ (i := 4) (N := some 72) (v := ?_) (a' := ?_) #[true, true, true, true, true, true, true, false, false, false, false, false, false, false, false, false, false] rfl rfl (take_ofW HT_.out HW_.out (by kernel_rfl)) (fun _ _ _ h => h) (Or.inl ⟨by rfl, ?_⟩) hHeld ?_ ?_
      rotate_left
      ·rintro w' ⟨s0, s1, s2, s3, s4, s5, s6, s7, s8, s9⟩
       go_simp
       with_reducible rfl
      rotate_left
      ·simp only [Act.put, List.setIfInBounds_toArray, List.set_cons_zero, List.set_cons_succ, i64_w, i32_w]
       rfl
      refine one_ (i := 7) (N := some 75) #[true, true, true, true, true, true, true, true, false, false, false, false, false, false, false, false, false] rfl rfl (one_of HT_.out (by kernel_rfl)) (by decide) (fun K hK => ?_)
      refine goes_ Try.func44 (by kernel_rfl) rfl #[.agg #[.slice A0_0 l0_0.length c0_0, .slice A0_1 l0_1.length c0_1], .agg #[.int .i64 a1_0, .int .i64 a1_1], .agg #[.int .i64 a2_0, .int .i64 a2_1], .agg #[.int .i64 a3_0, .int .i64 a3_1], .int .i64 a4, .int .i64 a5] (by rfl) rfl rfl al_ ?_
      with_reducible refine (comfitref02_Price.calls kj11 _ _ l0_0 _ _ l0_1 a1_0 a1_1 a2_0 a2_1 a3_0 a3_1 a4 a5 t575 t576 _ ?side1 ?side2 ?side3 ?side4 A142.out).mono ?_
      (case side1 => exact kc_ (Kd.C_below HR0_0.out HB.out))
      (case side2 => exact HC0_0.out)
      (case side3 => exact kc_ (Kd.C_below HR0_1.out HB.out))
      (case side4 => exact HC0_1.out)
      rintro e w150 ⟨rfl, hb⟩
      refine ⟨_, rfl, ?_⟩
      have n0_ := Aside0.mk (bkb_ BK548.out hb)
      have n1_ := Aside0.mk (bkb_ BK549.out hb)
      have n2_ := Aside0.mk (bkb_ BK550.out hb)
      have n3_ := Aside0.mk (bkb_ BK551.out hb)
      have n4_ := Aside0.mk (bkb_ BK567.out hb)
      have n5_ := Aside0.mk (below_step (hb_ HB.out) hb)
      clear BK548
      clear BK549
      clear BK550
      clear BK551
      clear BK567
      clear HB
      have BK548 := n0_
      have BK549 := n1_
      have BK550 := n2_
      have BK551 := n3_
      have BK567 := n4_
      have HB := n5_
      clear n0_ n1_ n2_ n3_ n4_ n5_
      (try clear hb)
      (try clear hb2)
      (try clear hk)
      (try clear hi)
      refine hK.out _ _ ⟨(blk_cell BK567.out 0).trans rfl, (blk_cell BK567.out 1).trans rfl, (blk_cell BK548.out 0).trans rfl, (blk_cell BK548.out 1).trans rfl, (blk_cell BK549.out 0).trans rfl, (blk_cell BK549.out 1).trans rfl, (blk_cell BK550.out 0).trans rfl, (blk_cell BK550.out 1).trans rfl, (blk_cell BK551.out 0).trans rfl, (blk_cell BK551.out 1).trans rfl⟩ (fun hHeld => ?_)
      clear hK K
      refine norm_ (a' := ?_) ?_ ?_
      rotate_left
      ·show Act.put _ (some 75) _ = _
       simp only [Act.put, List.setIfInBounds_toArray, List.set_cons_zero, List.set_cons_succ, i64_w, i32_w]
       rfl
      refine pure_ (i := 8) (N := some 76) (v := ?_) (a' := ?_) #[true, true, true, true, true, true, true, true, true, false, false, false, false, false, false, false, false] rfl rfl (any_of HT_.out (by kernel_rfl)) (fun _ _ _ h => h) (Or.inl ⟨by rfl, ?_⟩) ?_ ?_
      rotate_left
      ·intro w'
       go_simp
       with_reducible rfl
      rotate_left
      ·simp only [Act.put, List.setIfInBounds_toArray, List.set_cons_zero, List.set_cons_succ, i64_w, i32_w]
       rfl
      refine pure_ (i := 9) (N := some 77) (v := ?_) (a' := ?_) #[true, true, true, true, true, true, true, true, true, true, false, false, false, false, false, false, false] rfl rfl (any_of HT_.out (by kernel_rfl)) (fun _ _ _ h => h) (Or.inl ⟨by rfl, ?_⟩) ?_ ?_
      rotate_left
      ·intro w'
       go_simp
       with_reducible rfl
      rotate_left
      ·simp only [Act.put, List.setIfInBounds_toArray, List.set_cons_zero, List.set_cons_succ, i64_w, i32_w]
       rfl
      refine pure_ (i := 10) (N := some 78) (v := ?_) (a' := ?_) #[true, true, true, true, true, true, true, true, true, true, true, false, false, false, false, false, false] rfl rfl (any_of HT_.out (by kernel_rfl)) (fun _ _ _ h => h) (Or.inl ⟨by rfl, ?_⟩) ?_ ?_
      rotate_left
      ·intro w'
       go_simp
       with_reducible rfl
      rotate_left
      ·simp only [Act.put, List.setIfInBounds_toArray, List.set_cons_zero, List.set_cons_succ, i64_w, i32_w]
       rfl
      refine pure_ (i := 11) (N := some 79) (v := ?_) (a' := ?_) #[true, true, true, true, true, true, true, true, true, true, true, true, false, false, false, false, false] rfl rfl (any_of HT_.out (by kernel_rfl)) (fun _ _ _ h => h) (Or.inl ⟨by rfl, ?_⟩) ?_ ?_
      rotate_left
      ·intro w'
       go_simp
       with_reducible rfl
      rotate_left
      ·simp only [Act.put, List.setIfInBounds_toArray, List.set_cons_zero, List.set_cons_succ, i64_w, i32_w]
       rfl
      refine pure_ (i := 12) (N := some 80) (v := ?_) (a' := ?_) #[true, true, true, true, true, true, true, true, true, true, true, true, true, false, false, false, false] rfl rfl (any_of HT_.out (by kernel_rfl)) (fun _ _ _ h => h) (Or.inl ⟨by rfl, ?_⟩) ?_ ?_
      rotate_left
      ·intro w'
       go_simp
       with_reducible rfl
      rotate_left
      ·simp only [Act.put, List.setIfInBounds_toArray, List.set_cons_zero, List.set_cons_succ, i64_w, i32_w]
       rfl
      refine pure_ (i := 13) (N := some 81) (v := ?_) (a' := ?_) #[true, true, true, true, true, true, true, true, true, true, true, true, true, true, false, false, false] rfl rfl (any_of HT_.out (by kernel_rfl)) (fun _ _ _ h => h) (Or.inl ⟨by rfl, ?_⟩) ?_ ?_
      rotate_left
      ·intro w'
       go_simp
       with_reducible rfl
      rotate_left
      ·simp only [Act.put, List.setIfInBounds_toArray, List.set_cons_zero, List.set_cons_succ, i64_w, i32_w]
       rfl
      refine pure_ (i := 14) (N := some 82) (v := undef) (a' := ?_) #[true, true, true, true, true, true, true, true, true, true, true, true, true, true, true, false, false] rfl rfl (any_of HT_.out (by kernel_rfl)) (fun _ _ _ h => h) (Or.inr ⟨by rfl, rfl⟩) ?_ ?_
      rotate_left
      ·simp only [Act.put, List.setIfInBounds_toArray, List.set_cons_zero, List.set_cons_succ, i64_w, i32_w]
       rfl
      refine pure_ (i := 15) (N := some 83) (v := ?_) (a' := ?_) #[true, true, true, true, true, true, true, true, true, true, true, true, true, true, true, true, false] rfl rfl (any_of HT_.out (by kernel_rfl)) (fun _ _ _ h => h) (Or.inl ⟨by rfl, ?_⟩) ?_ ?_
      rotate_left
      ·intro w'
       go_simp
       with_reducible rfl
      rotate_left
      ·simp only [Act.put, List.setIfInBounds_toArray, List.set_cons_zero, List.set_cons_succ, i64_w, i32_w]
       rfl
      refine pure_ (i := 16) (N := some 12) (v := ?_) (a' := ?_) #[true, true, true, true, true, true, true, true, true, true, true, true, true, true, true, true, true] rfl rfl (any_of HT_.out (by kernel_rfl)) (fun _ _ _ h => h) (Or.inl ⟨by rfl, ?_⟩) ?_ ?_
      rotate_left
      ·intro w'
       go_simp
       with_reducible rfl
      rotate_left
      ·simp only [Act.put, List.setIfInBounds_toArray, List.set_cons_zero, List.set_cons_succ, i64_w, i32_w]
       rfl
      refine done_ (done_of HT_.out (by kernel_rfl)) ?_
      try go_wp2
      go_ret
      exact ⟨by first | rfl | (simp [errW_none, errW_some] <;> rfl) | (simp [*, errW_none, errW_some] <;> rfl), by repeat (first | (with_reducible first | exact HB.out | apply below_alloc | apply pw_below_drewN | apply below_drew1 | refine below_set ?_ GE548.out | refine below_set ?_ GE549.out | refine below_set ?_ GE550.out | refine below_set ?_ GE551.out | refine below_set ?_ GE567.out) | exact HB.out)⟩
    ·rw [if_neg c143] at H
     have c143b0 : (t564 == t575 && (t565 == t576)) = false := by simpa using c143
     (try (have c143b1 : decide (t564 = t575 && (t565 == t576)) = false := by simpa using c143))
     (try (have c143b2 : (t564 == t575 && (t565 == t576)) = false := by simpa using c143))
     (try (have c143b3 : ¬ (t564 = t575 && (t565 == t576)) := by simpa using c143))
     clear c143
     obtain rfl := Option.some.inj H
     try go_wp2
     have n0_ := Aside0.mk (blk_drew BK548.out)
     have n1_ := Aside0.mk (blk_drew BK549.out)
     have n2_ := Aside0.mk (blk_drew BK550.out)
     have n3_ := Aside0.mk (blk_drew BK551.out)
     have n4_ := Aside0.mk (blk_drew BK567.out)
     have n5_ := Aside0.mk (below_drew1 HB.out)
     clear BK548
     clear BK549
     clear BK550
     clear BK551
     clear BK567
     clear HB
     have BK548 := n0_
     have BK549 := n1_
     have BK550 := n2_
     have BK551 := n3_
     have BK567 := n4_
     have HB := n5_
     clear n0_ n1_ n2_ n3_ n4_ n5_
     refine start_ (n := 17) (S := fun w' => w'.cell? ⟨gb567, 0, none⟩ = some (.int .i64 t564) ∧ w'.cell? ⟨gb567, 1, none⟩ = some (.int .i64 t565) ∧ w'.cell? ⟨gb548, 0, none⟩ = some (.slice A0_0 l0_0.length c0_0) ∧ w'.cell? ⟨gb548, 1, none⟩ = some (.slice A0_1 l0_1.length c0_1) ∧ w'.cell? ⟨gb549, 0, none⟩ = some (.int .i64 a1_0) ∧ w'.cell? ⟨gb549, 1, none⟩ = some (.int .i64 a1_1) ∧ w'.cell? ⟨gb550, 0, none⟩ = some (.int .i64 a2_0) ∧ w'.cell? ⟨gb550, 1, none⟩ = some (.int .i64 a2_1) ∧ w'.cell? ⟨gb551, 0, none⟩ = some (.int .i64 a3_0) ∧ w'.cell? ⟨gb551, 1, none⟩ = some (.int .i64 a3_1)) (ds := []) #[false, false, false, false, false, false, false, false, false, false, false, false, false, false, false, false, false] (by kernel_rfl) rfl rfl ⟨(blk_cell BK567.out 0).trans rfl, (blk_cell BK567.out 1).trans rfl, (blk_cell BK548.out 0).trans rfl, (blk_cell BK548.out 1).trans rfl, (blk_cell BK549.out 0).trans rfl, (blk_cell BK549.out 1).trans rfl, (blk_cell BK550.out 0).trans rfl, (blk_cell BK550.out 1).trans rfl, (blk_cell BK551.out 0).trans rfl, (blk_cell BK551.out 1).trans rfl⟩ (fun hHeld => ?_); refine with_tabW comfitlaw02_LotsPrices.tab4 comfitlaw02_LotsPrices.bits4 (fun HT_ HW_ => ?_)
     generalize wc.drew = w151 at BK548 BK549 BK550 BK551 BK567 HB hHeld ⊢
     refine pure_ (i := 5) (N := some 73) (v := ?_) (a' := ?_) #[false, false, false, false, false, true, false, false, false, false, false, false, false, false, false, false, false] rfl rfl (any_of HT_.out (by kernel_rfl)) (fun _ _ _ h => h) (Or.inl ⟨by rfl, ?_⟩) ?_ ?_
     rotate_left
     ·intro w'
      go_simp
      with_reducible rfl
     rotate_left
     ·simp only [Act.put, List.setIfInBounds_toArray, List.set_cons_zero, List.set_cons_succ, i64_w, i32_w]
      rfl
     refine pure_ (i := 6) (N := some 74) (v := ?_) (a' := ?_) #[false, false, false, false, false, true, true, false, false, false, false, false, false, false, false, false, false] rfl rfl (any_of HT_.out (by kernel_rfl)) (fun _ _ _ h => h) (Or.inl ⟨by rfl, ?_⟩) ?_ ?_
     rotate_left
     ·intro w'
      go_simp
      with_reducible rfl
     rotate_left
     ·simp only [Act.put, List.setIfInBounds_toArray, List.set_cons_zero, List.set_cons_succ, i64_w, i32_w]
      rfl
     refine take_ (i := 0) (N := some 68) (v := ?_) (a' := ?_) #[true, false, false, false, false, true, true, false, false, false, false, false, false, false, false, false, false] rfl rfl (take_ofW HT_.out HW_.out (by kernel_rfl)) (fun _ _ _ h => h) (Or.inl ⟨by rfl, ?_⟩) hHeld ?_ ?_
     rotate_left
     ·rintro w' ⟨s0, s1, s2, s3, s4, s5, s6, s7, s8, s9⟩
      go_simp
      with_reducible rfl
     rotate_left
     ·simp only [Act.put, List.setIfInBounds_toArray, List.set_cons_zero, List.set_cons_succ, i64_w, i32_w]
      rfl
     refine take_ (i := 1) (N := some 69) (v := ?_) (a' := ?_) #[true, true, false, false, false, true, true, false, false, false, false, false, false, false, false, false, false] rfl rfl (take_ofW HT_.out HW_.out (by kernel_rfl)) (fun _ _ _ h => h) (Or.inl ⟨by rfl, ?_⟩) hHeld ?_ ?_
     rotate_left
     ·rintro w' ⟨s0, s1, s2, s3, s4, s5, s6, s7, s8, s9⟩
      go_simp
      with_reducible rfl
     rotate_left
     ·simp only [Act.put, List.setIfInBounds_toArray, List.set_cons_zero, List.set_cons_succ, i64_w, i32_w]
      rfl
     refine take_ (i := 2) (N := some 70) (v := ?_) (a' := ?_) #[true, true, true, false, false, true, true, false, false, false, false, false, false, false, false, false, false] rfl rfl (take_ofW HT_.out HW_.out (by kernel_rfl)) (fun _ _ _ h => h) (Or.inl ⟨by rfl, ?_⟩) hHeld ?_ ?_
     rotate_left
     ·rintro w' ⟨s0, s1, s2, s3, s4, s5, s6, s7, s8, s9⟩
      go_simp
      with_reducible rfl
     rotate_left
     ·simp only [Act.put, List.setIfInBounds_toArray, List.set_cons_zero, List.set_cons_succ, i64_w, i32_w]
      rfl
     refine take_ (i := 3) (N := some 71) (v := ?_) (a' := ?_) #[true, true, true, true, false, true, true, false, false, false, false, false, false, false, false, false, false] rfl rfl (take_ofW HT_.out HW_.out (by kernel_rfl)) (fun _ _ _ h => h) (Or.inl ⟨by rfl, ?_⟩) hHeld ?_ ?_
     rotate_left
     ·rintro w' ⟨s0, s1, s2, s3, s4, s5, s6, s7, s8, s9⟩
      go_simp
      with_reducible rfl
     rotate_left
     ·simp only [Act.put, List.setIfInBounds_toArray, List.set_cons_zero, List.set_cons_succ, i64_w, i32_w]
      rfl
     refine take_ (i := 4) (N := some 72) (v := ?_) (a' := ?_) #[true, true, true, true, true, true, true, false, false, false, false, false, false, false, false, false, false] rfl rfl (take_ofW HT_.out HW_.out (by kernel_rfl)) (fun _ _ _ h => h) (Or.inl ⟨by rfl, ?_⟩) hHeld ?_ ?_
     rotate_left
     ·rintro w' ⟨s0, s1, s2, s3, s4, s5, s6, s7, s8, s9⟩
      go_simp
      with_reducible rfl
     rotate_left
     ·simp only [Act.put, List.setIfInBounds_toArray, List.set_cons_zero, List.set_cons_succ, i64_w, i32_w]
      rfl
     refine one_ (i := 7) (N := some 75) #[true, true, true, true, true, true, true, true, false, false, false, false, false, false, false, false, false] rfl rfl (one_of HT_.out (by kernel_rfl)) (by decide) (fun K hK => ?_)
     refine goes_ Try.func44 (by kernel_rfl) rfl #[.agg #[.slice A0_0 l0_0.length c0_0, .slice A0_1 l0_1.length c0_1], .agg #[.int .i64 a1_0, .int .i64 a1_1], .agg #[.int .i64 a2_0, .int .i64 a2_1], .agg #[.int .i64 a3_0, .int .i64 a3_1], .int .i64 a4, .int .i64 a5] (by rfl) rfl rfl al_ ?_
     with_reducible refine (comfitref02_Price.calls kj11 _ _ l0_0 _ _ l0_1 a1_0 a1_1 a2_0 a2_1 a3_0 a3_1 a4 a5 t575 t576 _ ?side1 ?side2 ?side3 ?side4 A142.out).mono ?_
     (case side1 => exact kc_ (Kd.C_below HR0_0.out HB.out))
     (case side2 => exact HC0_0.out)
     (case side3 => exact kc_ (Kd.C_below HR0_1.out HB.out))
     (case side4 => exact HC0_1.out)
     rintro e w152 ⟨rfl, hb⟩
     refine ⟨_, rfl, ?_⟩
     have n0_ := Aside0.mk (bkb_ BK548.out hb)
     have n1_ := Aside0.mk (bkb_ BK549.out hb)
     have n2_ := Aside0.mk (bkb_ BK550.out hb)
     have n3_ := Aside0.mk (bkb_ BK551.out hb)
     have n4_ := Aside0.mk (bkb_ BK567.out hb)
     have n5_ := Aside0.mk (below_step (hb_ HB.out) hb)
     clear BK548
     clear BK549
     clear BK550
     clear BK551
     clear BK567
     clear HB
     have BK548 := n0_
     have BK549 := n1_
     have BK550 := n2_
     have BK551 := n3_
     have BK567 := n4_
     have HB := n5_
     clear n0_ n1_ n2_ n3_ n4_ n5_
     (try clear hb)
     (try clear hb2)
     (try clear hk)
     (try clear hi)
     refine hK.out _ _ ⟨(blk_cell BK567.out 0).trans rfl, (blk_cell BK567.out 1).trans rfl, (blk_cell BK548.out 0).trans rfl, (blk_cell BK548.out 1).trans rfl, (blk_cell BK549.out 0).trans rfl, (blk_cell BK549.out 1).trans rfl, (blk_cell BK550.out 0).trans rfl, (blk_cell BK550.out 1).trans rfl, (blk_cell BK551.out 0).trans rfl, (blk_cell BK551.out 1).trans rfl⟩ (fun hHeld => ?_)
     clear hK K
     refine norm_ (a' := ?_) ?_ ?_
     rotate_left
     ·show Act.put _ (some 75) _ = _
      simp only [Act.put, List.setIfInBounds_toArray, List.set_cons_zero, List.set_cons_succ, i64_w, i32_w]
      rfl
     refine pure_ (i := 8) (N := some 76) (v := ?_) (a' := ?_) #[true, true, true, true, true, true, true, true, true, false, false, false, false, false, false, false, false] rfl rfl (any_of HT_.out (by kernel_rfl)) (fun _ _ _ h => h) (Or.inl ⟨by rfl, ?_⟩) ?_ ?_
     rotate_left
     ·intro w'
      go_simp
      with_reducible rfl
     rotate_left
     ·simp only [Act.put, List.setIfInBounds_toArray, List.set_cons_zero, List.set_cons_succ, i64_w, i32_w]
      rfl
     refine pure_ (i := 9) (N := some 77) (v := ?_) (a' := ?_) #[true, true, true, true, true, true, true, true, true, true, false, false, false, false, false, false, false] rfl rfl (any_of HT_.out (by kernel_rfl)) (fun _ _ _ h => h) (Or.inl ⟨by rfl, ?_⟩) ?_ ?_
     rotate_left
     ·intro w'
      go_simp
      with_reducible rfl
     rotate_left
     ·simp only [Act.put, List.setIfInBounds_toArray, List.set_cons_zero, List.set_cons_succ, i64_w, i32_w]
      rfl
     refine pure_ (i := 10) (N := some 78) (v := undef) (a' := ?_) #[true, true, true, true, true, true, true, true, true, true, true, false, false, false, false, false, false] rfl rfl (any_of HT_.out (by kernel_rfl)) (fun _ _ _ h => h) (Or.inr ⟨by rfl, rfl⟩) ?_ ?_
     rotate_left
     ·simp only [Act.put, List.setIfInBounds_toArray, List.set_cons_zero, List.set_cons_succ, i64_w, i32_w]
      rfl
     refine pure_ (i := 11) (N := some 79) (v := undef) (a' := ?_) #[true, true, true, true, true, true, true, true, true, true, true, true, false, false, false, false, false] rfl rfl (any_of HT_.out (by kernel_rfl)) (fun _ _ _ h => h) (Or.inr ⟨by rfl, rfl⟩) ?_ ?_
     rotate_left
     ·simp only [Act.put, List.setIfInBounds_toArray, List.set_cons_zero, List.set_cons_succ, i64_w, i32_w]
      rfl
     refine pure_ (i := 12) (N := some 80) (v := ?_) (a' := ?_) #[true, true, true, true, true, true, true, true, true, true, true, true, true, false, false, false, false] rfl rfl (any_of HT_.out (by kernel_rfl)) (fun _ _ _ h => h) (Or.inl ⟨by rfl, ?_⟩) ?_ ?_
     rotate_left
     ·intro w'
      go_simp
      with_reducible rfl
     rotate_left
     ·simp only [Act.put, List.setIfInBounds_toArray, List.set_cons_zero, List.set_cons_succ, i64_w, i32_w]
      rfl
     refine pure_ (i := 13) (N := some 81) (v := ?_) (a' := ?_) #[true, true, true, true, true, true, true, true, true, true, true, true, true, true, false, false, false] rfl rfl (any_of HT_.out (by kernel_rfl)) (fun _ _ _ h => h) (Or.inl ⟨by rfl, ?_⟩) ?_ ?_
     rotate_left
     ·intro w'
      go_simp
      with_reducible rfl
     rotate_left
     ·simp only [Act.put, List.setIfInBounds_toArray, List.set_cons_zero, List.set_cons_succ, i64_w, i32_w]
      rfl
     refine pure_ (i := 14) (N := some 82) (v := undef) (a' := ?_) #[true, true, true, true, true, true, true, true, true, true, true, true, true, true, true, false, false] rfl rfl (any_of HT_.out (by kernel_rfl)) (fun _ _ _ h => h) (Or.inr ⟨by rfl, rfl⟩) ?_ ?_
     rotate_left
     ·simp only [Act.put, List.setIfInBounds_toArray, List.set_cons_zero, List.set_cons_succ, i64_w, i32_w]
      rfl
     refine pure_ (i := 15) (N := some 83) (v := ?_) (a' := ?_) #[true, true, true, true, true, true, true, true, true, true, true, true, true, true, true, true, false] rfl rfl (any_of HT_.out (by kernel_rfl)) (fun _ _ _ h => h) (Or.inl ⟨by rfl, ?_⟩) ?_ ?_
     rotate_left
     ·intro w'
      go_simp
      with_reducible rfl
     rotate_left
     ·simp only [Act.put, List.setIfInBounds_toArray, List.set_cons_zero, List.set_cons_succ, i64_w, i32_w]
      rfl
     refine pure_ (i := 16) (N := some 12) (v := ?_) (a' := ?_) #[true, true, true, true, true, true, true, true, true, true, true, true, true, true, true, true, true] rfl rfl (any_of HT_.out (by kernel_rfl)) (fun _ _ _ h => h) (Or.inl ⟨by rfl, ?_⟩) ?_ ?_
     rotate_left
     ·intro w'
      go_simp
      with_reducible rfl
     rotate_left
     ·simp only [Act.put, List.setIfInBounds_toArray, List.set_cons_zero, List.set_cons_succ, i64_w, i32_w]
      rfl
     refine done_ (done_of HT_.out (by kernel_rfl)) ?_
     try go_wp2
     go_ret
     exact ⟨by first | rfl | (simp [errW_none, errW_some] <;> rfl) | (simp [*, errW_none, errW_some] <;> rfl), by repeat (first | (with_reducible first | exact HB.out | apply below_alloc | apply pw_below_drewN | apply below_drew1 | refine below_set ?_ GE548.out | refine below_set ?_ GE549.out | refine below_set ?_ GE550.out | refine below_set ?_ GE551.out | refine below_set ?_ GE567.out) | exact HB.out)⟩

end Go.Proofs.Ytdppnmfljfdhaaa.X
