/- Written by a program of this session (wip/tools/xprint.py, which calls the kit's print): Go functions as Lean functions, and for each the proof that the machine's call does what it says; no conditions but those that each theorem names. -/
import Derived.Test.YtdppnmfljfdhaaaQX0
import Derived.Test.YtdppnmfljfdhaaaQXR
namespace Go.Proofs.Ytdppnmfljfdhaaa.X
open Go.RowKit Go.Proofs.YtdppnmfljfdhaaaW.PrintWords Go.Proofs.YtdppnmfljfdhaaaW.PrintLast Go.Proofs.YtdppnmfljfdhaaaW.PrintMore
attribute [local go_sem] max2_int min2_int max_two min_two max_three min_three max_four min_four   -- for this text's walks alone
set_option linter.unusedVariables false
set_option linter.unusedSimpArgs false

/-! ### comfitref02_wise: function 71 -/
mutual
def comfitref02_wise.l0 : Nat → Int → Int → List Int → List Int → Int → Int → Int → List Int → List Int → Int → Int → Int → Int → Int → Int → Int → Int → Option (Int)
 | 0, _, _, _, _, _, _, _, _, _, _, _, _, _, _, _, _, _ => none
 | k + 1, x0, x1, x4, x5, x6, x7, x8, x20, x21, x38, x39, x102000, x102001, x103000, x103001, x104000, x104001 => if x39 < x38 then (if 0 ≤ x39 then (if x39 < (x20.length : Int) then (if x39 < (x4.length : Int) then ((some (x20.set (x39 : Int).toNat (wrap64 ((rd x20 x39) + (wrap64 ((rd x4 x39) * (wrap64 (x102001 - x102000)))))) : List Int)).bind fun y112 => (if 0 ≤ (wrap64 (x39 + 1)) then (if (wrap64 (x39 + 1)) < (x20.length : Int) then (if x39 < (x21.length : Int) then (if x39 < (x5.length : Int) then ((some (x21.set (x39 : Int).toNat (wrap64 ((rd x21 x39) + (wrap64 ((rd x5 x39) * (wrap64 (x103001 - x103000)))))) : List Int)).bind fun y118 => (if (wrap64 (x39 + 1)) < (x21.length : Int) then (comfitref02_wise.l0 k x0 x1 x4 x5 x6 x7 x8 (y112.set ((wrap64 (x39 + 1)) : Int).toNat (wrap64 ((rd y112 (wrap64 (x39 + 1))) + (wrap64 ((rd x4 x39) * x102000))))) (y118.set ((wrap64 (x39 + 1)) : Int).toNat (wrap64 ((rd y118 (wrap64 (x39 + 1))) + (wrap64 ((rd x5 x39) * x103000))))) x38 (wrap64 (x39 + 1)) x102000 x102001 x103000 x103001 x104000 x104001) else (none))) else (none)) else (none)) else (none)) else (none))) else (none)) else (none)) else (none)) else ((comfitref02_power.f k x102001 (wrap64 (x0 - x1))).bind fun t122 => ((comfitref02_power.f k x103001 (wrap64 (x0 - x1))).bind fun t123 => (comfitref02_wise.l1 k x0 x1 x4 x5 x6 x7 x8 x20 x21 t122 t123 x1 0 x102000 x102001 x103000 x103001 x104000 x104001)))
def comfitref02_wise.l1 : Nat → Int → Int → List Int → List Int → Int → Int → Int → List Int → List Int → Int → Int → Int → Int → Int → Int → Int → Int → Int → Int → Option (Int)
 | 0, _, _, _, _, _, _, _, _, _, _, _, _, _, _, _, _, _, _, _ => none
 | k + 1, x0, x1, x4, x5, x6, x7, x8, x20, x21, x23, x24, x115, x116, x102000, x102001, x103000, x103001, x104000, x104001 => if x116 < x115 then (if 0 ≤ x116 then (if x116 < (x4.length : Int) then (if x116 < (x5.length : Int) then (comfitref02_wise.l1 k x0 x1 x4 x5 (wrap64 (x6 + (wrap64 ((wrap64 ((wrap64 ((rd x4 x116) * x102001)) * x23)) + (wrap64 ((wrap64 ((rd x5 x116) * x103001)) * x24)))))) x7 x8 x20 x21 x23 x24 x115 (wrap64 (x116 + 1)) x102000 x102001 x103000 x103001 x104000 x104001) else (none)) else (none)) else (none)) else (if x104000 ≥ 0 then (comfitref02_wise.j2 k x0 x1 x6 x7 x8 x20 x21 x23 x24 (decide (x6 ≥ x104000)) x102000 x102001 x103000 x103001 x104000 x104001) else (comfitref02_wise.j2 k x0 x1 x6 x7 x8 x20 x21 x23 x24 false x102000 x102001 x103000 x103001 x104000 x104001))
def comfitref02_wise.j2 : Nat → Int → Int → Int → Int → Int → List Int → List Int → Int → Int → Bool → Int → Int → Int → Int → Int → Int → Option (Int)
 | 0, _, _, _, _, _, _, _, _, _, _, _, _, _, _, _, _ => none
 | k + 1, x0, x1, x6, x7, x8, x20, x21, x23, x24, x151, x102000, x102001, x103000, x103001, x104000, x104001 => if x151 = true then (some x104000) else (comfitref02_wise.l2 k x0 x1 x6 x7 x8 x20 x21 x23 x24 (-1) x102000 x102001 x103000 x103001 x104000 x104001)
def comfitref02_wise.l2 : Nat → Int → Int → Int → Int → Int → List Int → List Int → Int → Int → Int → Int → Int → Int → Int → Int → Int → Option (Int)
 | 0, _, _, _, _, _, _, _, _, _, _, _, _, _, _, _, _ => none
 | k + 1, x0, x1, x6, x7, x8, x20, x21, x23, x24, x26, x102000, x102001, x103000, x103001, x104000, x104001 => if x26 ≤ x1 then (comfitref02_wise.l3 k x0 x1 x6 x7 x8 x20 x21 x23 x24 x26 (wrap64 (x26 + 1)) x102000 x102001 x103000 x103001 x104000 x104001) else (some x104000)
def comfitref02_wise.l3 : Nat → Int → Int → Int → Int → Int → List Int → List Int → Int → Int → Int → Int → Int → Int → Int → Int → Int → Int → Option (Int)
 | 0, _, _, _, _, _, _, _, _, _, _, _, _, _, _, _, _, _ => none
 | k + 1, x0, x1, x6, x7, x8, x20, x21, x23, x24, x26, x27, x102000, x102001, x103000, x103001, x104000, x104001 => if x27 ≤ (wrap64 (x1 + 1)) then (if x1 = x0 then (comfitref02_wise.j5 k x0 x1 x6 x7 x8 x20 x21 x23 x24 x26 x27 (x27 != (wrap64 (x26 + 1))) x102000 x102001 x103000 x103001 x104000 x104001) else (comfitref02_wise.j5 k x0 x1 x6 x7 x8 x20 x21 x23 x24 x26 x27 false x102000 x102001 x103000 x103001 x104000 x104001)) else (comfitref02_wise.l2 k x0 x1 x6 x7 x8 x20 x21 x23 x24 (wrap64 (x26 + 1)) x102000 x102001 x103000 x103001 x104000 x104001)
def comfitref02_wise.j5 : Nat → Int → Int → Int → Int → Int → List Int → List Int → Int → Int → Int → Int → Bool → Int → Int → Int → Int → Int → Int → Option (Int)
 | 0, _, _, _, _, _, _, _, _, _, _, _, _, _, _, _, _, _, _ => none
 | k + 1, x0, x1, x6, x7, x8, x20, x21, x23, x24, x26, x27, x173, x102000, x102001, x103000, x103001, x104000, x104001 => if x173 = true then (comfitref02_wise.l3 k x0 x1 x6 x7 x8 x20 x21 x23 x24 x26 (wrap64 (x27 + 1)) x102000 x102001 x103000 x103001 x104000 x104001) else (if 0 ≤ (wrap64 (x1 + 1)) then (if (wrap64 (x1 + 1) : Int).toNat ≤ 35184372088832 then (comfitref02_wise.l4 k x0 x1 x6 x7 x8 x20 x21 x23 x24 x26 x27 x6 (List.replicate (wrap64 (x1 + 1) : Int).toNat 0) (List.replicate (wrap64 (x1 + 1) : Int).toNat 0) (wrap64 (x1 + 1)) 0 x102000 x102001 x103000 x103001 x104000 x104001) else (none)) else (none))
def comfitref02_wise.l4 : Nat → Int → Int → Int → Int → Int → List Int → List Int → Int → Int → Int → Int → Int → List Int → List Int → Int → Int → Int → Int → Int → Int → Int → Int → Option (Int)
 | 0, _, _, _, _, _, _, _, _, _, _, _, _, _, _, _, _, _, _, _, _, _, _ => none
 | k + 1, x0, x1, x6, x7, x8, x20, x21, x23, x24, x26, x27, x28, x29, x30, x182, x183, x102000, x102001, x103000, x103001, x104000, x104001 => if x183 < x182 then (if x183 ≤ x26 then (if 0 ≤ x183 then (if x183 < (x21.length : Int) then (comfitref02_wise.l4 k x0 x1 x6 x7 x8 x20 x21 x23 x24 x26 x27 (wrap64 (x28 + (wrap64 ((wrap64 (x7 * (rd x21 x183))) * x24)))) x29 x30 x182 (wrap64 (x183 + 1)) x102000 x102001 x103000 x103001 x104000 x104001) else (none)) else (none)) else (if x183 ≥ x27 then (if 0 ≤ x183 then (if x183 < (x20.length : Int) then (comfitref02_wise.l4 k x0 x1 x6 x7 x8 x20 x21 x23 x24 x26 x27 (wrap64 (x28 + (wrap64 ((wrap64 (x8 * (rd x20 x183))) * x23)))) x29 x30 x182 (wrap64 (x183 + 1)) x102000 x102001 x103000 x103001 x104000 x104001) else (none)) else (none)) else (if 0 ≤ x183 then (if x183 < (x20.length : Int) then (if x183 < (x21.length : Int) then (if x183 < (x29.length : Int) then (if x183 < (x30.length : Int) then (comfitref02_wise.l4 k x0 x1 x6 x7 x8 x20 x21 x23 x24 x26 x27 x28 (x29.set (x183 : Int).toNat (rd x20 x183)) (x30.set (x183 : Int).toNat (rd x21 x183)) x182 (wrap64 (x183 + 1)) x102000 x102001 x103000 x103001 x104000 x104001) else (none)) else (none)) else (none)) else (none)) else (none)))) else (if x1 < x0 then ((comfitref02_wise.f k x0 (wrap64 (x1 + 1)) x102000 x102001 x103000 x103001 x29 x30 x28 x7 x8 x104000 x104001).bind fun t138 => (comfitref02_wise.l3 k x0 x1 x6 x7 x8 x20 x21 x23 x24 x26 (wrap64 (x27 + 1)) x102000 x102001 x103000 x103001 t138 x104001)) else (if x104000 < 0 then (comfitref02_wise.l3 k x0 x1 x6 x7 x8 x20 x21 x23 x24 x26 (wrap64 (x27 + 1)) x102000 x102001 x103000 x103001 x28 x104001) else (if x28 < x104000 then (comfitref02_wise.l3 k x0 x1 x6 x7 x8 x20 x21 x23 x24 x26 (wrap64 (x27 + 1)) x102000 x102001 x103000 x103001 x28 x104001) else (comfitref02_wise.l3 k x0 x1 x6 x7 x8 x20 x21 x23 x24 x26 (wrap64 (x27 + 1)) x102000 x102001 x103000 x103001 x104000 x104001))))
def comfitref02_wise.f : Nat → Int → Int → Int → Int → Int → Int → List Int → List Int → Int → Int → Int → Int → Int → Option (Int)
 | 0, _, _, _, _, _, _, _, _, _, _, _, _, _ => none
 | k + 1, a0, a1, a2_0, a2_1, a3_0, a3_1, l4, l5, a6, a7, a8, a9_0, a9_1 => if 0 ≤ (wrap64 (a1 + 1)) then (if (wrap64 (a1 + 1) : Int).toNat ≤ 35184372088832 then (comfitref02_wise.l0 k a0 a1 l4 l5 a6 a7 a8 (List.replicate (wrap64 (a1 + 1) : Int).toNat 0) (List.replicate (wrap64 (a1 + 1) : Int).toNat 0) a1 0 a2_0 a2_1 a3_0 a3_1 a9_0 a9_1) else (none)) else (none)
end
def comfitref02_wise.T1 : Bool × List (List Nat × List Nat) := (true, [([], []), ([0], [0]), ([1, 1], [1]), ([], []), ([3], [3]), ([4, 4], [4]), ([2, 0, 1, 2], [2]), ([5, 6, 0, 1, 2, 3, 4, 5, 6], [5])])
def comfitref02_wise.B1 : List Nat := [0, 1, 3, 0, 8, 24, 7, 127]
theorem comfitref02_wise.tab1 : rtab .any (opsOf Try.f71 1) = comfitref02_wise.T1 := by kernel_rfl
theorem comfitref02_wise.bits1 : waitsOk comfitref02_wise.T1.2 comfitref02_wise.B1 = true := by kernel_rfl
def comfitref02_wise.T5 : Bool × List (List Nat × List Nat) := (true, [([], []), ([], []), ([0, 1], [0, 1]), ([2], [2]), ([], []), ([], []), ([4, 5], [4, 5]), ([6], [6]), ([], []), ([8], [8]), ([], []), ([10], [10]), ([9, 11], [9, 11]), ([7, 12], [7, 12]), ([3, 13], [3, 13]), ([0, 1, 0, 1, 2, 3, 4, 5, 6, 7, 8, 9, 10, 11, 12, 13, 14], [0, 1]), ([15, 14, 0, 1, 2, 3, 4, 5, 6, 7, 8, 9, 10, 11, 12, 13, 14], [14, 15])])
def comfitref02_wise.B5 : List Nat := [0, 0, 3, 7, 0, 0, 48, 112, 0, 256, 0, 1024, 3840, 8176, 16383, 32767, 65535]
theorem comfitref02_wise.tab5 : rtab .any (opsOf Try.f71 5) = comfitref02_wise.T5 := by kernel_rfl
theorem comfitref02_wise.bits5 : waitsOk comfitref02_wise.T5.2 comfitref02_wise.B5 = true := by kernel_rfl
def comfitref02_wise.T6 : Bool × List (List Nat × List Nat) := (true, [([], []), ([], []), ([1], [1]), ([0, 2], [0, 2]), ([3], [3]), ([], []), ([], []), ([5, 6], [5, 6]), ([7], [7]), ([], []), ([9], [9]), ([8, 10], [8, 10]), ([4, 11], [4, 11]), ([0, 2, 0, 1, 2, 3, 4, 5, 6, 7, 8, 9, 10, 11, 12], [0, 2]), ([13, 12, 0, 1, 2, 3, 4, 5, 6, 7, 8, 9, 10, 11, 12], [12, 13])])
def comfitref02_wise.B6 : List Nat := [0, 0, 2, 7, 15, 0, 0, 96, 224, 0, 512, 2016, 4095, 8191, 16383]
theorem comfitref02_wise.tab6 : rtab .any (opsOf Try.f71 6) = comfitref02_wise.T6 := by kernel_rfl
theorem comfitref02_wise.bits6 : waitsOk comfitref02_wise.T6.2 comfitref02_wise.B6 = true := by kernel_rfl
def comfitref02_wise.T7 : Bool × List (List Nat × List Nat) := (true, [([], []), ([], []), ([0, 1], [0, 1]), ([2], [2]), ([], []), ([], []), ([4, 5], [4, 5]), ([6], [6]), ([], []), ([8], [8]), ([], []), ([10], [10]), ([9, 11], [9, 11]), ([7, 12], [7, 12]), ([3, 13], [3, 13]), ([0, 1, 0, 1, 2, 3, 4, 5, 6, 7, 8, 9, 10, 11, 12, 13, 14], [0, 1]), ([15, 14, 0, 1, 2, 3, 4, 5, 6, 7, 8, 9, 10, 11, 12, 13, 14], [14, 15])])
def comfitref02_wise.B7 : List Nat := [0, 0, 3, 7, 0, 0, 48, 112, 0, 256, 0, 1024, 3840, 8176, 16383, 32767, 65535]
theorem comfitref02_wise.tab7 : rtab .any (opsOf Try.f71 7) = comfitref02_wise.T7 := by kernel_rfl
theorem comfitref02_wise.bits7 : waitsOk comfitref02_wise.T7.2 comfitref02_wise.B7 = true := by kernel_rfl
def comfitref02_wise.T8 : Bool × List (List Nat × List Nat) := (true, [([], []), ([], []), ([1], [1]), ([0, 2], [0, 2]), ([3], [3]), ([], []), ([], []), ([5, 6], [5, 6]), ([7], [7]), ([], []), ([9], [9]), ([8, 10], [8, 10]), ([4, 11], [4, 11]), ([0, 2, 0, 1, 2, 3, 4, 5, 6, 7, 8, 9, 10, 11, 12], [0, 2]), ([13, 12, 0, 1, 2, 3, 4, 5, 6, 7, 8, 9, 10, 11, 12], [12, 13])])
def comfitref02_wise.B8 : List Nat := [0, 0, 2, 7, 15, 0, 0, 96, 224, 0, 512, 2016, 4095, 8191, 16383]
theorem comfitref02_wise.tab8 : rtab .any (opsOf Try.f71 8) = comfitref02_wise.T8 := by kernel_rfl
theorem comfitref02_wise.bits8 : waitsOk comfitref02_wise.T8.2 comfitref02_wise.B8 = true := by kernel_rfl
def comfitref02_wise.T10 : Bool × List (List Nat × List Nat) := (true, [([], []), ([0], [0]), ([], []), ([], []), ([2, 3], [2, 3]), ([1, 4], [1, 4]), ([], []), ([6], [6]), ([], []), ([], []), ([8, 9], [8, 9]), ([7, 10, 5], [7, 10]), ([5, 11, 0, 1, 2, 3, 4, 5], [5]), ([11, 12, 0, 1, 2, 3, 4, 5, 6, 7, 8, 9, 10, 11, 12], [11])])
def comfitref02_wise.B10 : List Nat := [0, 1, 0, 0, 12, 31, 0, 64, 0, 0, 768, 2047, 4095, 8191]
theorem comfitref02_wise.tab10 : rtab .any (opsOf Try.f71 10) = comfitref02_wise.T10 := by kernel_rfl
theorem comfitref02_wise.bits10 : waitsOk comfitref02_wise.T10.2 comfitref02_wise.B10 = true := by kernel_rfl
def comfitref02_wise.T14 : Bool × List (List Nat × List Nat) := (true, [([], []), ([], []), ([], []), ([1, 2], [1, 2]), ([3], [3]), ([], []), ([5], [5]), ([4, 6], [4, 6]), ([], []), ([7, 8], [7, 8]), ([], []), ([], []), ([10, 11], [10, 11]), ([12], [12]), ([], []), ([14], [14]), ([13, 15], [13, 15]), ([], []), ([16, 17], [16, 17]), ([9, 18], [9, 18]), ([0, 19], [0, 19]), ([20, 0, 1, 2, 3, 4, 5, 6, 7, 8, 9, 10, 11, 12, 13, 14, 15, 16, 17, 18, 19, 20], [0, 20])])
def comfitref02_wise.B14 : List Nat := [0, 0, 0, 6, 14, 0, 32, 126, 0, 510, 0, 0, 3072, 7168, 0, 16384, 64512, 0, 261120, 524286, 1048575, 2097151]
theorem comfitref02_wise.tab14 : rtab .any (opsOf Try.f71 14) = comfitref02_wise.T14 := by kernel_rfl
theorem comfitref02_wise.bits14 : waitsOk comfitref02_wise.T14.2 comfitref02_wise.B14 = true := by kernel_rfl
def comfitref02_wise.T25 : Bool × List (List Nat × List Nat) := (true, [([], []), ([0], [0]), ([1, 1], [1]), ([], []), ([3], [3]), ([4, 4], [4]), ([2, 0, 1, 2], [2]), ([5, 6, 0, 1, 2, 3, 4, 5, 6], [5])])
def comfitref02_wise.B25 : List Nat := [0, 1, 3, 0, 8, 24, 7, 127]
theorem comfitref02_wise.tab25 : rtab .any (opsOf Try.f71 25) = comfitref02_wise.T25 := by kernel_rfl
theorem comfitref02_wise.bits25 : waitsOk comfitref02_wise.T25.2 comfitref02_wise.B25 = true := by kernel_rfl
def comfitref02_wise.T29 : Bool × List (List Nat × List Nat) := (true, [([], []), ([], []), ([], []), ([], []), ([], []), ([], []), ([4, 5], [4, 5]), ([6], [6]), ([], []), ([], []), ([8, 9], [8, 9]), ([10], [10]), ([0, 1, 0, 1, 4, 5, 6, 7, 11], [0, 1]), ([12, 7, 0, 1, 4, 5, 6, 7, 11], [7, 12]), ([2, 3, 0, 1, 2, 3, 4, 5, 6, 7, 8, 9, 10, 11, 12, 13], [2, 3]), ([14, 11, 13, 0, 1, 2, 3, 4, 5, 6, 7, 8, 9, 10, 11, 12, 13], [11, 14])])
def comfitref02_wise.B29 : List Nat := [0, 0, 0, 0, 0, 0, 48, 112, 0, 0, 768, 1792, 4083, 8179, 16383, 32767]
theorem comfitref02_wise.tab29 : rtab .any (opsOf Try.f71 29) = comfitref02_wise.T29 := by kernel_rfl
theorem comfitref02_wise.bits29 : waitsOk comfitref02_wise.T29.2 comfitref02_wise.B29 = true := by kernel_rfl
/-- The memory as it was, but for one variable; and more of it. -/
def GB (g : Nat) (w W : World) : Prop := w.grownBy W (some g)
section
variable {α : Type} {g : Nat} {w W W1 : World}
theorem gb_size (h : GB g w W) : w.heap.size ≤ W.heap.size := h.size
theorem gb_refl : GB g w w := ⟨rfl, rfl, rfl, Nat.le_refl _, fun _ _ _ => rfl⟩
theorem gb_trans (h : GB g w W) (k : GB g W W1) : GB g w W1 := ⟨k.os.trans h.os, k.tape.trans h.tape, k.output.trans h.output, Nat.le_trans h.size k.size, fun i hi hn => (k.block i (Nat.lt_of_lt_of_le hi h.size) hn).trans (h.block i hi hn)⟩
theorem gb_step (h : GB g w W) (k : Below W.heap.size W W1) : GB g w W1 := gb_trans h ⟨k.os, k.tape, k.output, k.size, fun i hi _ => k.block i hi⟩
theorem gb_drew1 (h : GB g w W) : GB g w W.drew := ⟨h.os, h.tape, h.output, h.size, h.block⟩
theorem gb_drewN (h : GB g w W) (n : Nat) : GB g w (W.drewN n) := ⟨h.os, h.tape, h.output, h.size, h.block⟩
theorem gb_alloc (h : GB g w W) (o : Obj) : GB g w (W.alloc o) := gb_step h (below_alloc (Below.refl _ _) o)
theorem gb_set {b j : Nat} {v : Value} (h : GB g w W) (hb : w.heap.size ≤ b) : GB g w (W.setCell ⟨b, j, none⟩ v) :=
  ⟨h.os, h.tape, h.output, by simpa [World.setCell] using h.size, fun i hi hn => (Below.heap_setCell W _ v i (by show i ≠ b; omega)).trans (h.block i hi hn)⟩
theorem gb_put {j : Nat} {v : Value} (h : GB g w W) : GB g w (W.setCell ⟨g, j, none⟩ v) :=
  ⟨h.os, h.tape, h.output, by simpa [World.setCell] using h.size, fun i hi hn => (Below.heap_setCell W _ v i (fun e => hn (congrArg some e))).trans (h.block i hi hn)⟩
theorem gb_cell {a : Addr} {j : Nat} {v : Value} (h : GB g w W) (hc : w.cell? (a.add j) = some v) (hn : a.block ≠ g) : W.cell? (a.add j) = some v := World.grownBy.cell h hc (fun e => hn ((by unfold Addr.add; split <;> rfl : (a.add j).block = a.block).symm.trans (Option.some.inj e)))
theorem gb_blk {b : Nat} {o : Obj} (h : W.heap[b]? = some o) (k : GB g W W1) (hn : b ≠ g) : W1.heap[b]? = some o := (k.block b (blk_lt h) (fun e => hn (Option.some.inj e))).trans h
theorem gbp_ {P Q : Prop} (h : P) (hq : P → Q := by intro h_; repeat (first | (with_reducible first | exact h_ | apply gb_alloc | apply gb_drewN | apply gb_drew1) | (refine gb_set ?_ (Aside0.out (by assumption))) | exact h_)) : Q := hq h
theorem gb_types {d : Kd α} {e base : Nat} {ok : Nat → Prop} {v : Value} {xs : List α} (h : d.R e W base ok v xs) (hl : g < base) : d.R e W base (fun k => ok k ∧ k ≠ g) v xs := Kd.R_mono (Kd.R_bound h) (fun k hk => ⟨hk.1, by have := hk.2.1; omega⟩)
theorem gb_ne {d : Kd α} {e base : Nat} {ok : Nat → Prop} {v : Value} {xs : List α} (h : d.R e W base ok v xs) (hl : g < base) : some g ≠ v.ownBlock := fun e_ => by have := Kd.R_base h g e_.symm; omega
theorem gb_keep {d : Kd α} {e base : Nat} {ok : Nat → Prop} {v : Value} {xs : List α} (h : d.R e W base ok v xs) (hl : g < base) (k : GB g W W1) : d.R e W1 base ok v xs := Kd.R_mono (Kd.R_grown (gb_types h hl) k (fun i hi e_ => hi.2 (Option.some.inj e_))) (fun _ hk => hk.1)
end
set_option maxHeartbeats 8000000 in
set_option maxRecDepth 100000 in
theorem comfitref02_wise.calls (k : Nat) : ∀ (a0 : Int) (a1 : Int) (a2_0 : Int) (a2_1 : Int) (a3_0 : Int) (a3_1 : Int) (A4 : Option Addr) (c4 : Nat) (l4 : List Int) (A5 : Option Addr) (c5 : Nat) (l5 : List Int) (a6 : Int) (a7 : Int) (a8 : Int) (a9_0 : Int) (a9_1 : Int) (gb103 : Nat) (r : Int) (w : World) (hbx : w.heap[gb103]? = some (.cells #[.int .i64 a9_0] 3 (0, 0))) (nx4 : ∀ a, A4 = some a → a.block ≠ gb103) (nx5 : ∀ a, A5 = some a → a.block ≠ gb103) (hr4 : Kd.C (Kd.int .i64) w A4 l4.length l4) (hc4 : l4.length ≤ c4) (hr5 : Kd.C (Kd.int .i64) w A5 l5.length l5) (hc5 : l5.length ≤ c5) (h : comfitref02_wise.f k a0 a1 a2_0 a2_1 a3_0 a3_1 l4 l5 a6 a7 a8 a9_0 a9_1 = some r),
  Calls Try.prog 71 #[.int .i64 a0, .int .i64 a1, .agg #[.int .i64 a2_0, .int .i64 a2_1], .agg #[.int .i64 a3_0, .int .i64 a3_1], .slice A4 l4.length c4, .slice A5 l5.length c5, .int .i64 a6, .int .i64 a7, .int .i64 a8, .pointer (some ⟨gb103, 0, none⟩)] w fun e w' => (∃ v, e = .returned v) ∧ w'.heap[gb103]? = some (.cells #[.int .i64 r] 3 (0, 0)) ∧ GB gb103 w w' := by
 induction k using Nat.strongRecOn with
 | _ k ih =>
 intro a0 a1 a2_0 a2_1 a3_0 a3_1 A4 c4 l4 A5 c5 l5 a6 a7 a8 a9_0 a9_1 gb103 r w hbx nx4 nx5 hr4 hc4 hr5 hc5 h
 cases k with
 | zero => exact absurd h (by simp [comfitref02_wise.f])
 | succ k =>
 simp only [comfitref02_wise.f] at h
 have hu26 := Try.underlying26
 have HR4 := Aside0.mk hr4
 have HC4 := Aside0.mk hc4
 clear hr4 hc4
 have HR5 := Aside0.mk hr5
 have HC5 := Aside0.mk hc5
 clear hr5 hc5
 have HB : Aside0 (GB gb103 w w) := ⟨gb_refl⟩
 have BK103 := Aside0.mk hbx
 have L103 := Aside0.mk (blk_lt hbx)
 have NX4 := Aside0.mk nx4
 have NX5 := Aside0.mk nx5
 clear hbx nx4 nx5
 have H : (if 0 ≤ (wrap64 (a1 + 1)) then (if (wrap64 (a1 + 1) : Int).toNat ≤ 35184372088832 then (comfitref02_wise.l0 k a0 a1 l4 l5 a6 a7 a8 (List.replicate (wrap64 (a1 + 1) : Int).toNat 0) (List.replicate (wrap64 (a1 + 1) : Int).toNat 0) a1 0 a2_0 a2_1 a3_0 a3_1 a9_0 a9_1) else (none)) else (none)) = some r := h
 clear h
 obtain ⟨ji11, hji11⟩ : ∃ j_ : Int, (wrap64 (a1 + 1)) = j_ := ⟨_, rfl⟩
 replace H : (if 0 ≤ (ji11) then (if (ji11 : Int).toNat ≤ 35184372088832 then (comfitref02_wise.l0 k a0 a1 l4 l5 a6 a7 a8 (List.replicate (ji11 : Int).toNat 0) (List.replicate (ji11 : Int).toNat 0) a1 0 a2_0 a2_1 a3_0 a3_1 a9_0 a9_1) else (none)) else (none)) = some r := by first | (rw [hji11] at H; exact H) | (simp only [hji11] at H ⊢; exact H)
 have hji11w : (IntKind.i64.wrap (a1 + 1)) = ji11 := (i64_w _).trans hji11
 by_cases c12 : 0 ≤ (ji11)
 ·rw [if_pos c12] at H
  have c12b0 := eq_true c12
  have c12b1 : decide (0 ≤ (ji11)) = true := decide_eq_true c12
  clear c12
  by_cases c13 : (ji11 : Int).toNat ≤ 35184372088832
  ·rw [if_pos c13] at H
   have c13b0 := eq_true c13
   have c13b1 : decide ((ji11 : Int).toNat ≤ 35184372088832) = true := decide_eq_true c13
   clear c13
   obtain ⟨y104, hy104⟩ : ∃ y_ : List Int, y_ = (List.replicate (ji11 : Int).toNat 0) := ⟨_, rfl⟩
   replace H : (comfitref02_wise.l0 k a0 a1 l4 l5 a6 a7 a8 y104 (List.replicate (ji11 : Int).toNat 0) a1 0 a2_0 a2_1 a3_0 a3_1 a9_0 a9_1) = some r := by first | (rw [hy104]; with_reducible exact H) | (have H2_ := (Option.bind_some _ _).symm.trans H; rw [hy104]; with_reducible exact H2_) | (have H2_ := (Option.bind_some _ _).symm.trans H; with_reducible exact H2_) | with_reducible exact H | (rw [hy104]; exact H) | exact H
   have Ny104 := Aside0.mk hy104
   clear hy104
   obtain ⟨y107, hy107⟩ : ∃ y_ : List Int, y_ = (List.replicate (ji11 : Int).toNat 0) := ⟨_, rfl⟩
   replace H : (comfitref02_wise.l0 k a0 a1 l4 l5 a6 a7 a8 y104 y107 a1 0 a2_0 a2_1 a3_0 a3_1 a9_0 a9_1) = some r := by first | (rw [hy107]; with_reducible exact H) | (have H2_ := (Option.bind_some _ _).symm.trans H; rw [hy107]; with_reducible exact H2_) | (have H2_ := (Option.bind_some _ _).symm.trans H; with_reducible exact H2_) | with_reducible exact H | (rw [hy107]; exact H) | exact H
   have Ny107 := Aside0.mk hy107
   clear hy107
   have H' := Aside0.mk H
   clear H
   go_enter Try.func71, Try.ntmps71
   try go_wp2_with (first | ((with_reducible refine gate_dst (N := 12) rfl ?_); refine box_event ?hg (N := 12) ?hd (cs := #[.int .i64 a2_0, .int .i64 a2_1]) (t := 26) ?hr ?_; (case hd => rfl); (case hg => rfl); (case hr => first | (go_simp; done) | (go_simp; rfl)); intro gb101 hg w14 hbox hb; have nq_ := Aside0.mk (bkb_ BK103.out hb); clear BK103; have BK103 := nq_; clear nq_; have n0_ := Aside0.mk (gb_step (gbp_ HB.out) hb); have n1_ := Aside0.mk (hbox); have n2_ := Aside0.mk ((by rw [hg]; exact (gb_size (gbp_ HB.out)) : w.heap.size ≤ gb101)); have n3_ := Aside0.mk ((by rw [hg]; exact (gb_size (gbp_ HB.out)) : w.heap.size ≤ gb101)); clear HB; have HB := n0_; have BK101 := n1_; have GW101 := n2_; have GE101 := n3_; clear n0_ n1_ n2_ n3_; clear hb hbox hg) | ((with_reducible refine gate_dst (N := 13) rfl ?_); refine box_event ?hg (N := 13) ?hd (cs := #[.int .i64 a3_0, .int .i64 a3_1]) (t := 26) ?hr ?_; (case hd => rfl); (case hg => rfl); (case hr => first | (go_simp; done) | (go_simp; rfl)); intro gb102 hg w15 hbox hb; have nq_ := Aside0.mk (bkb_ BK103.out hb); clear BK103; have BK103 := nq_; clear nq_; have n0_ := Aside0.mk (bkb_ BK101.out hb); have n1_ := Aside0.mk (gb_step (gbp_ HB.out) hb); have n2_ := Aside0.mk (hbox); have n3_ := Aside0.mk ((by rw [hg]; exact (gb_size (gbp_ HB.out)) : w.heap.size ≤ gb102)); have n4_ := Aside0.mk ((by rw [hg]; exact (gb_size (gbp_ HB.out)) : w.heap.size ≤ gb102)); have n5_ := Aside0.mk ((by rw [hg]; exact Nat.ne_of_lt (bkl_ BK101.out) : gb101 ≠ gb102)); have n6_ := Aside0.mk ((by rw [hg]; exact Nat.ne_of_gt (bkl_ BK101.out) : gb102 ≠ gb101)); clear BK101; clear HB; have BK101 := n0_; have HB := n1_; have BK102 := n2_; have GW102 := n3_; have GE102 := n4_; have NB101_102 := n5_; have NB102_101 := n6_; clear n0_ n1_ n2_ n3_ n4_ n5_ n6_; clear hb hbox hg))
   have NB101_103 : Aside0 (gb101 ≠ gb103) := ⟨by have h1_ := GW101.out; have h2_ := L103.out; omega⟩
   have NB103_101 : Aside0 (gb103 ≠ gb101) := ⟨by have h1_ := GW101.out; have h2_ := L103.out; omega⟩
   have NB102_103 : Aside0 (gb102 ≠ gb103) := ⟨by have h1_ := GW102.out; have h2_ := L103.out; omega⟩
   have NB103_102 : Aside0 (gb103 ≠ gb102) := ⟨by have h1_ := GW102.out; have h2_ := L103.out; omega⟩
   have n0_ := Aside0.mk (blk_drew BK101.out)
   have n1_ := Aside0.mk (blk_drew BK102.out)
   have n2_ := Aside0.mk (blk_drew BK103.out)
   have n3_ := Aside0.mk (gb_drew1 HB.out)
   clear BK101
   clear BK102
   clear BK103
   clear HB
   have BK101 := n0_
   have BK102 := n1_
   have BK103 := n2_
   have HB := n3_
   clear n0_ n1_ n2_ n3_
   refine start_ (n := 8) (S := fun w' => True) (ds := []) #[false, false, false, false, false, false, false, false] (by kernel_rfl) rfl rfl trivial (fun hHeld => ?_); refine with_tabW comfitref02_wise.tab1 comfitref02_wise.bits1 (fun HT_ HW_ => ?_)
   generalize w15.drew = w17 at BK101 BK102 BK103 HB hHeld ⊢
   refine pure_ (i := 0) (N := some 32) (v := ?_) (a' := ?_) #[true, false, false, false, false, false, false, false] rfl rfl (any_of HT_.out (by kernel_rfl)) (fun _ _ _ h => h) (Or.inl ⟨by rfl, ?_⟩) ?_ ?_
   rotate_left
   ·intro w'
    go_simp
    with_reducible rfl
   rotate_left
   ·simp only [Act.put, List.setIfInBounds_toArray, List.set_cons_zero, List.set_cons_succ, i64_w, i32_w]
    rfl
   refine pure_ (i := 1) (N := some 33) (v := ?_) (a' := ?_) #[true, true, false, false, false, false, false, false] rfl rfl (any_of HT_.out (by kernel_rfl)) (fun _ _ _ h => h) (Or.inl ⟨by rfl, ?_⟩) ?_ ?_
   rotate_left
   ·intro w'
    go_simp
    with_reducible rfl
   rotate_left
   ·simp only [Act.put, List.setIfInBounds_toArray, List.set_cons_zero, List.set_cons_succ, i64_w, i32_w]
    rfl
   refine pure_ (i := 3) (N := some 35) (v := ?_) (a' := ?_) #[true, true, false, true, false, false, false, false] rfl rfl (any_of HT_.out (by kernel_rfl)) (fun _ _ _ h => h) (Or.inl ⟨by rfl, ?_⟩) ?_ ?_
   rotate_left
   ·intro w'
    go_simp
    with_reducible rfl
   rotate_left
   ·simp only [Act.put, List.setIfInBounds_toArray, List.set_cons_zero, List.set_cons_succ, i64_w, i32_w]
    rfl
   refine pure_ (i := 4) (N := some 36) (v := ?_) (a' := ?_) #[true, true, false, true, true, false, false, false] rfl rfl (any_of HT_.out (by kernel_rfl)) (fun _ _ _ h => h) (Or.inl ⟨by rfl, ?_⟩) ?_ ?_
   rotate_left
   ·intro w'
    go_simp
    with_reducible rfl
   rotate_left
   ·simp only [Act.put, List.setIfInBounds_toArray, List.set_cons_zero, List.set_cons_succ, i64_w, i32_w]
    rfl
   refine join_ (σ := Value × Value) 1 #[true, true, true, true, true, true, true, false] (fun s_ => [(34, s_.1), (37, s_.2), (20, s_.1)]) (fun s_ w' => (Kd.R (Kd.int .i64) 3 w' w.heap.size (fun k_ => some k_ ≠ (s_.2 : Value).ownBlock) s_.1 y104) ∧ (Kd.R (Kd.int .i64) 3 w' w.heap.size (fun k_ => some k_ ≠ (s_.1 : Value).ownBlock) s_.2 y107) ∧ (w'.heap[gb101]? = some (.cells #[.int .i64 a2_0, .int .i64 a2_1] 26 (0, 0))) ∧ (w'.heap[gb102]? = some (.cells #[.int .i64 a3_0, .int .i64 a3_1] 26 (0, 0))) ∧ (w'.heap[gb103]? = some (.cells #[.int .i64 a9_0] 3 (0, 0))) ∧ (GB gb103 w w')) ?_ ?_
   rotate_left
   ·intro hCont
    refine two_ (i := 2) (j := 5) (Ni := some 34) (Nj := some 37) #[true, true, true, true, true, false, false, false] #[true, true, false, true, true, true, false, false] rfl rfl rfl rfl (two_of HT_.out (by kernel_rfl)) (by decide) (by decide) (fun K hK => ?_) (fun K hK => ?_)
    ·skip
     refine Kd.R_make_step (Kd.int .i64) _ 3 (by rfl) (N := 34) rfl 22 _ _ rfl ji11 rfl rfl Try.underlying22 (.int .i64 0) 8 info3 rfl (by decide) (by omega) 0 (ok := fun _ => True) (okp := fun _ => True) rfl (fun _ hk => hk) trivial (of_decide_eq_true (by first | (with_reducible assumption) | assumption)) (Nat.le_trans (Nat.mul_le_mul_right _ (of_decide_eq_true (by first | (with_reducible assumption) | assumption) : ji11.toNat ≤ 35184372088832)) (by omega)) (Below.refl _ _) (Nat.le_refl _) ?_
     intro v105 w18 ho19 hb hg_ hnew_
     clear hg_ hnew_
     (first | rw [← Ny104.out] at ho19 | (simp only [Int.reduceToNat] at ho19; rw [← Ny104.out] at ho19))
     have n0_ := Aside0.mk (Kd.R_lower ho19 (gb_size (gbp_ HB.out)))
     have n1_ := Aside0.mk (bkb_ BK101.out hb)
     have n2_ := Aside0.mk (bkb_ BK102.out hb)
     have n3_ := Aside0.mk (bkb_ BK103.out hb)
     have n4_ := Aside0.mk (gb_step (gbp_ HB.out) hb)
     clear BK101
     clear BK102
     clear BK103
     clear HB
     have HO106 := n0_
     have BK101 := n1_
     have BK102 := n2_
     have BK103 := n3_
     have HB := n4_
     clear n0_ n1_ n2_ n3_ n4_
     clear hb ho19
     refine hK.out _ _ trivial (fun hHeld => ?_)
     clear hK K
     refine norm_ (a' := ?_) ?_ ?_
     rotate_left
     ·show Act.put _ (some 34) _ = _
      simp only [Act.put, List.setIfInBounds_toArray, List.set_cons_zero, List.set_cons_succ, i64_w, i32_w]
      rfl
     refine pure_ (i := 6) (N := some 20) (v := ?_) (a' := ?_) #[true, true, true, true, true, false, true, false] rfl rfl (any_of HT_.out (by kernel_rfl)) (fun _ _ _ h => h) (Or.inl ⟨by rfl, ?_⟩) ?_ ?_
     rotate_left
     ·intro w'
      go_simp
      with_reducible rfl
     rotate_left
     ·simp only [Act.put, List.setIfInBounds_toArray, List.set_cons_zero, List.set_cons_succ, i64_w, i32_w]
      rfl
     refine one_ (i := 5) (N := some 37) #[true, true, true, true, true, true, true, false] rfl rfl (one_of HT_.out (by kernel_rfl)) (by decide) (fun K hK => ?_)
     refine Kd.R_make_step (Kd.int .i64) _ 3 (by rfl) (N := 37) rfl 22 _ _ rfl ji11 rfl rfl Try.underlying22 (.int .i64 0) 8 info3 rfl (by decide) (by omega) 0 (ok := fun _ => True) (okp := fun _ => True) rfl (fun _ hk => hk) trivial (of_decide_eq_true (by first | (with_reducible assumption) | assumption)) (Nat.le_trans (Nat.mul_le_mul_right _ (of_decide_eq_true (by first | (with_reducible assumption) | assumption) : ji11.toNat ≤ 35184372088832)) (by omega)) (Below.refl _ _) (Nat.le_refl _) ?_
     intro v108 w20 ho21 hb hg_ hnew_
     clear hg_ hnew_
     (first | rw [← Ny107.out] at ho21 | (simp only [Int.reduceToNat] at ho21; rw [← Ny107.out] at ho21))
     have n0_ := Aside0.mk (Kd.R_elder' (kr_ (HO106.out)) (Kd.R_base ho21) hb)
     have n1_ := Aside0.mk (Kd.R_lower (Kd.R_new' ho21 (Kd.R_lt (kr_ (HO106.out)))) (gb_size (gbp_ HB.out)))
     have n2_ := Aside0.mk (bkb_ BK101.out hb)
     have n3_ := Aside0.mk (bkb_ BK102.out hb)
     have n4_ := Aside0.mk (bkb_ BK103.out hb)
     have n5_ := Aside0.mk (gb_step (gbp_ HB.out) hb)
     clear HO106
     clear BK101
     clear BK102
     clear BK103
     clear HB
     have HO106 := n0_
     have HO109 := n1_
     have BK101 := n2_
     have BK102 := n3_
     have BK103 := n4_
     have HB := n5_
     clear n0_ n1_ n2_ n3_ n4_ n5_
     clear hb ho21
     refine hK.out _ _ trivial (fun hHeld => ?_)
     clear hK K
     refine norm_ (a' := ?_) ?_ ?_
     rotate_left
     ·show Act.put _ (some 37) _ = _
      simp only [Act.put, List.setIfInBounds_toArray, List.set_cons_zero, List.set_cons_succ, i64_w, i32_w]
      rfl
     exact norm_ (by simp only [putAll, Act.put, List.setIfInBounds_toArray, List.set_cons_zero, List.set_cons_succ]) (hCont (v105, v108) _ ⟨(by (with_reducible repeat (first | apply Kd.R_alloc | apply Kd.R_drewN | apply Kd.R_drew)); exact Kd.R_mono HO106.out (fun _ hk => hk.2)), (by (with_reducible repeat (first | apply Kd.R_alloc | apply Kd.R_drewN | apply Kd.R_drew)); exact Kd.R_mono HO109.out (fun _ hk => hk.2)), (bk_ BK101.out), (bk_ BK102.out), (bk_ BK103.out), (gbp_ HB.out)⟩)
    ·skip
     refine Kd.R_make_step (Kd.int .i64) _ 3 (by rfl) (N := 37) rfl 22 _ _ rfl ji11 rfl rfl Try.underlying22 (.int .i64 0) 8 info3 rfl (by decide) (by omega) 0 (ok := fun _ => True) (okp := fun _ => True) rfl (fun _ hk => hk) trivial (of_decide_eq_true (by first | (with_reducible assumption) | assumption)) (Nat.le_trans (Nat.mul_le_mul_right _ (of_decide_eq_true (by first | (with_reducible assumption) | assumption) : ji11.toNat ≤ 35184372088832)) (by omega)) (Below.refl _ _) (Nat.le_refl _) ?_
     intro v108 w18 ho19 hb hg_ hnew_
     clear hg_ hnew_
     (first | rw [← Ny107.out] at ho19 | (simp only [Int.reduceToNat] at ho19; rw [← Ny107.out] at ho19))
     have n0_ := Aside0.mk (Kd.R_lower ho19 (gb_size (gbp_ HB.out)))
     have n1_ := Aside0.mk (bkb_ BK101.out hb)
     have n2_ := Aside0.mk (bkb_ BK102.out hb)
     have n3_ := Aside0.mk (bkb_ BK103.out hb)
     have n4_ := Aside0.mk (gb_step (gbp_ HB.out) hb)
     clear BK101
     clear BK102
     clear BK103
     clear HB
     have HO109 := n0_
     have BK101 := n1_
     have BK102 := n2_
     have BK103 := n3_
     have HB := n4_
     clear n0_ n1_ n2_ n3_ n4_
     clear hb ho19
     refine hK.out _ _ trivial (fun hHeld => ?_)
     clear hK K
     refine norm_ (a' := ?_) ?_ ?_
     rotate_left
     ·show Act.put _ (some 37) _ = _
      simp only [Act.put, List.setIfInBounds_toArray, List.set_cons_zero, List.set_cons_succ, i64_w, i32_w]
      rfl
     refine one_ (i := 2) (N := some 34) #[true, true, true, true, true, true, false, false] rfl rfl (one_of HT_.out (by kernel_rfl)) (by decide) (fun K hK => ?_)
     refine Kd.R_make_step (Kd.int .i64) _ 3 (by rfl) (N := 34) rfl 22 _ _ rfl ji11 rfl rfl Try.underlying22 (.int .i64 0) 8 info3 rfl (by decide) (by omega) 0 (ok := fun _ => True) (okp := fun _ => True) rfl (fun _ hk => hk) trivial (of_decide_eq_true (by first | (with_reducible assumption) | assumption)) (Nat.le_trans (Nat.mul_le_mul_right _ (of_decide_eq_true (by first | (with_reducible assumption) | assumption) : ji11.toNat ≤ 35184372088832)) (by omega)) (Below.refl _ _) (Nat.le_refl _) ?_
     intro v105 w20 ho21 hb hg_ hnew_
     clear hg_ hnew_
     (first | rw [← Ny104.out] at ho21 | (simp only [Int.reduceToNat] at ho21; rw [← Ny104.out] at ho21))
     have n0_ := Aside0.mk (Kd.R_elder' (kr_ (HO109.out)) (Kd.R_base ho21) hb)
     have n1_ := Aside0.mk (Kd.R_lower (Kd.R_new' ho21 (Kd.R_lt (kr_ (HO109.out)))) (gb_size (gbp_ HB.out)))
     have n2_ := Aside0.mk (bkb_ BK101.out hb)
     have n3_ := Aside0.mk (bkb_ BK102.out hb)
     have n4_ := Aside0.mk (bkb_ BK103.out hb)
     have n5_ := Aside0.mk (gb_step (gbp_ HB.out) hb)
     clear HO109
     clear BK101
     clear BK102
     clear BK103
     clear HB
     have HO109 := n0_
     have HO106 := n1_
     have BK101 := n2_
     have BK102 := n3_
     have BK103 := n4_
     have HB := n5_
     clear n0_ n1_ n2_ n3_ n4_ n5_
     clear hb ho21
     refine hK.out _ _ trivial (fun hHeld => ?_)
     clear hK K
     refine norm_ (a' := ?_) ?_ ?_
     rotate_left
     ·show Act.put _ (some 34) _ = _
      simp only [Act.put, List.setIfInBounds_toArray, List.set_cons_zero, List.set_cons_succ, i64_w, i32_w]
      rfl
     refine pure_ (i := 6) (N := some 20) (v := ?_) (a' := ?_) #[true, true, true, true, true, true, true, false] rfl rfl (any_of HT_.out (by kernel_rfl)) (fun _ _ _ h => h) (Or.inl ⟨by rfl, ?_⟩) ?_ ?_
     rotate_left
     ·intro w'
      go_simp
      with_reducible rfl
     rotate_left
     ·simp only [Act.put, List.setIfInBounds_toArray, List.set_cons_zero, List.set_cons_succ, i64_w, i32_w]
      rfl
     exact norm_ (by simp only [putAll, Act.put, List.setIfInBounds_toArray, List.set_cons_zero, List.set_cons_succ]) (hCont (v105, v108) _ ⟨(by (with_reducible repeat (first | apply Kd.R_alloc | apply Kd.R_drewN | apply Kd.R_drew)); exact Kd.R_mono HO106.out (fun _ hk => hk.2)), (by (with_reducible repeat (first | apply Kd.R_alloc | apply Kd.R_drewN | apply Kd.R_drew)); exact Kd.R_mono HO109.out (fun _ hk => hk.2)), (bk_ BK101.out), (bk_ BK102.out), (bk_ BK103.out), (gbp_ HB.out)⟩)
   rintro ⟨v105, v108⟩ w22 ⟨h0_, h1_, h2_, h3_, h4_, h5_⟩
   have n0_ : Aside0 (Kd.R (Kd.int .i64) 3 w22 w.heap.size (fun k_ => some k_ ≠ (v108 : Value).ownBlock) v105 y104) := ⟨h0_⟩
   have n1_ : Aside0 (Kd.R (Kd.int .i64) 3 w22 w.heap.size (fun k_ => some k_ ≠ (v105 : Value).ownBlock) v108 y107) := ⟨h1_⟩
   have n2_ : Aside0 (w22.heap[gb101]? = some (.cells #[.int .i64 a2_0, .int .i64 a2_1] 26 (0, 0))) := ⟨h2_⟩
   have n3_ : Aside0 (w22.heap[gb102]? = some (.cells #[.int .i64 a3_0, .int .i64 a3_1] 26 (0, 0))) := ⟨h3_⟩
   have n4_ : Aside0 (w22.heap[gb103]? = some (.cells #[.int .i64 a9_0] 3 (0, 0))) := ⟨h4_⟩
   have n5_ : Aside0 (GB gb103 w w22) := ⟨h5_⟩
   clear BK101
   clear BK102
   clear BK103
   clear HB
   clear h0_ h1_ h2_ h3_ h4_ h5_
   have HO106 := n0_
   have HO109 := n1_
   have BK101 := n2_
   have BK102 := n3_
   have BK103 := n4_
   have HB := n5_
   clear n0_ n1_ n2_ n3_ n4_ n5_
   have hHeld := trivial
   refine norm_ (a' := ?_) ?_ ?_
   rotate_left
   ·simp only [putAll, Act.put, List.setIfInBounds_toArray, List.set_cons_zero, List.set_cons_succ]
    rfl
   refine pure_ (i := 7) (N := some 21) (v := ?_) (a' := ?_) #[true, true, true, true, true, true, true, true] rfl rfl (any_of HT_.out (by kernel_rfl)) (fun _ _ _ h => h) (Or.inl ⟨by rfl, ?_⟩) ?_ ?_
   rotate_left
   ·intro w'
    go_simp
    with_reducible rfl
   rotate_left
   ·simp only [Act.put, List.setIfInBounds_toArray, List.set_cons_zero, List.set_cons_succ, i64_w, i32_w]
    rfl
   refine done_ (done_of HT_.out (by kernel_rfl)) ?_
   try go_wp2
   go_loopg [39] k (fun kq v39 w' => ∃ (x20_1 : List Int) (x21_1 : List Int) (x39_1 : Int), v39 = .int .i64 x39_1 ∧ Aside0 (comfitref02_wise.l0 kq a0 a1 l4 l5 a6 a7 a8 x20_1 x21_1 a1 x39_1 a2_0 a2_1 a3_0 a3_1 a9_0 a9_1 = some r) ∧ Aside0 (kq ≤ k) ∧ Aside0 (Kd.R (Kd.int .i64) 3 w' w.heap.size (fun k_ => some k_ ≠ (v108 : Value).ownBlock) v105 x20_1) ∧ Aside0 (Kd.R (Kd.int .i64) 3 w' w.heap.size (fun k_ => some k_ ≠ (v105 : Value).ownBlock) v108 x21_1) ∧ Aside0 (w'.heap[gb101]? = some (.cells #[.int .i64 a2_0, .int .i64 a2_1] 26 (0, 0))) ∧ Aside0 (w'.heap[gb102]? = some (.cells #[.int .i64 a3_0, .int .i64 a3_1] 26 (0, 0))) ∧ Aside0 (w'.heap[gb103]? = some (.cells #[.int .i64 a9_0] 3 (0, 0))) ∧ Aside0 (GB gb103 w w'))
   case atStart => exact ⟨(y104), (y107), (0), (by first | rfl | (simp; done) | (simp [*]; done)), H', ⟨Nat.le_refl _⟩, ⟨by (with_reducible repeat (first | apply Kd.R_alloc | apply Kd.R_drewN | apply Kd.R_drew)); exact HO106.out⟩, ⟨by (with_reducible repeat (first | apply Kd.R_alloc | apply Kd.R_drewN | apply Kd.R_drew)); exact HO109.out⟩, ⟨by (with_reducible repeat (first | refine blk_drewN ?_ _ | refine blk_drew ?_ | refine blk_alloc ?_ _)); exact BK101.out⟩, ⟨by (with_reducible repeat (first | refine blk_drewN ?_ _ | refine blk_drew ?_ | refine blk_alloc ?_ _)); exact BK102.out⟩, ⟨by (with_reducible repeat (first | refine blk_drewN ?_ _ | refine blk_drew ?_ | refine blk_alloc ?_ _)); exact BK103.out⟩, ⟨by repeat (first | (with_reducible first | exact HB.out | apply gb_alloc | apply gb_drewN | apply gb_drew1 | refine gb_set ?_ GE101.out | refine gb_set ?_ GE102.out | refine gb_put ?_) | exact HB.out)⟩⟩
   case round => as_aux_lemma =>
    clear H'
    try clear c1
    try clear p2
    try clear c4
    try clear c5
    try clear p6
    try clear c7
    try clear c12
    try clear c12b0
    try clear c12b1
    try clear c13
    try clear c13b0
    try clear c13b1
    obtain ⟨x20_1, x21_1, x39_1, rfl, HA, HK1, HO_20, HO_21, BK101, BK102, BK103, HB⟩ := hrel
    cases gk with
    | zero => exact absurd HA.out (by simp [comfitref02_wise.l0])
    | succ k1 =>
     have H := HA.out
     clear HA
     simp only [comfitref02_wise.l0] at H
     by_cases c23 : x39_1 < a1
     ·rw [if_pos c23] at H
      have c23b0 : decide (x39_1 < a1) = true := decide_eq_true c23
      clear c23
      by_cases c24 : 0 ≤ x39_1
      ·rw [if_pos c24] at H
       have c24b0 : decide (0 ≤ x39_1) = true := decide_eq_true c24
       clear c24
       by_cases c25 : x39_1 < (x20_1.length : Int)
       ·rw [if_pos c25] at H
        have c25b0 : decide (x39_1 < (x20_1.length : Int)) = true := decide_eq_true c25
        clear c25
        by_cases c26 : x39_1 < (l4.length : Int)
        ·rw [if_pos c26] at H
         have c26b0 : decide (x39_1 < (l4.length : Int)) = true := decide_eq_true c26
         clear c26
         obtain ⟨y112, hy112⟩ : ∃ y_ : List Int, y_ = (x20_1.set (x39_1 : Int).toNat (wrap64 ((rd x20_1 x39_1) + (wrap64 ((rd l4 x39_1) * (wrap64 (a2_1 - a2_0))))))) := ⟨_, rfl⟩
         replace H : (if 0 ≤ (wrap64 (x39_1 + 1)) then (if (wrap64 (x39_1 + 1)) < (x20_1.length : Int) then (if x39_1 < (x21_1.length : Int) then (if x39_1 < (l5.length : Int) then ((some (x21_1.set (x39_1 : Int).toNat (wrap64 ((rd x21_1 x39_1) + (wrap64 ((rd l5 x39_1) * (wrap64 (a3_1 - a3_0)))))) : List Int)).bind fun y118 => (if (wrap64 (x39_1 + 1)) < (x21_1.length : Int) then (comfitref02_wise.l0 k1 a0 a1 l4 l5 a6 a7 a8 (y112.set ((wrap64 (x39_1 + 1)) : Int).toNat (wrap64 ((rd y112 (wrap64 (x39_1 + 1))) + (wrap64 ((rd l4 x39_1) * a2_0))))) (y118.set ((wrap64 (x39_1 + 1)) : Int).toNat (wrap64 ((rd y118 (wrap64 (x39_1 + 1))) + (wrap64 ((rd l5 x39_1) * a3_0))))) a1 (wrap64 (x39_1 + 1)) a2_0 a2_1 a3_0 a3_1 a9_0 a9_1) else (none))) else (none)) else (none)) else (none)) else (none)) = some r := by first | (rw [hy112]; with_reducible exact H) | (have H2_ := (Option.bind_some _ _).symm.trans H; rw [hy112]; with_reducible exact H2_) | (have H2_ := (Option.bind_some _ _).symm.trans H; with_reducible exact H2_) | with_reducible exact H | (rw [hy112]; exact H) | exact H
         have Ny112 := Aside0.mk hy112
         clear hy112
         obtain ⟨ji28, hji28⟩ : ∃ j_ : Int, (wrap64 (x39_1 + 1)) = j_ := ⟨_, rfl⟩
         replace H : (if 0 ≤ (ji28) then (if (ji28) < (x20_1.length : Int) then (if x39_1 < (x21_1.length : Int) then (if x39_1 < (l5.length : Int) then ((some (x21_1.set (x39_1 : Int).toNat (wrap64 ((rd x21_1 x39_1) + (wrap64 ((rd l5 x39_1) * (wrap64 (a3_1 - a3_0)))))) : List Int)).bind fun y118 => (if (ji28) < (x21_1.length : Int) then (comfitref02_wise.l0 k1 a0 a1 l4 l5 a6 a7 a8 (y112.set ((ji28) : Int).toNat (wrap64 ((rd y112 (ji28)) + (wrap64 ((rd l4 x39_1) * a2_0))))) (y118.set ((ji28) : Int).toNat (wrap64 ((rd y118 (ji28)) + (wrap64 ((rd l5 x39_1) * a3_0))))) a1 ji28 a2_0 a2_1 a3_0 a3_1 a9_0 a9_1) else (none))) else (none)) else (none)) else (none)) else (none)) = some r := by first | (rw [hji28] at H; exact H) | (simp only [hji28] at H ⊢; exact H)
         have hji28w : (IntKind.i64.wrap (x39_1 + 1)) = ji28 := (i64_w _).trans hji28
         by_cases c29 : 0 ≤ (ji28)
         ·rw [if_pos c29] at H
          have c29b0 : decide (0 ≤ (ji28)) = true := decide_eq_true c29
          clear c29
          by_cases c30 : (ji28) < (x20_1.length : Int)
          ·rw [if_pos c30] at H
           have c30b0 : decide ((ji28) < (x20_1.length : Int)) = true := decide_eq_true c30
           clear c30
           obtain ⟨y115, hy115⟩ : ∃ y_ : List Int, y_ = (y112.set ((ji28) : Int).toNat (wrap64 ((rd y112 (ji28)) + (wrap64 ((rd l4 x39_1) * a2_0))))) := ⟨_, rfl⟩
           replace H : (if x39_1 < (x21_1.length : Int) then (if x39_1 < (l5.length : Int) then ((some (x21_1.set (x39_1 : Int).toNat (wrap64 ((rd x21_1 x39_1) + (wrap64 ((rd l5 x39_1) * (wrap64 (a3_1 - a3_0)))))) : List Int)).bind fun y118 => (if (ji28) < (x21_1.length : Int) then (comfitref02_wise.l0 k1 a0 a1 l4 l5 a6 a7 a8 y115 (y118.set ((ji28) : Int).toNat (wrap64 ((rd y118 (ji28)) + (wrap64 ((rd l5 x39_1) * a3_0))))) a1 ji28 a2_0 a2_1 a3_0 a3_1 a9_0 a9_1) else (none))) else (none)) else (none)) = some r := by first | (rw [hy115]; with_reducible exact H) | (have H2_ := (Option.bind_some _ _).symm.trans H; rw [hy115]; with_reducible exact H2_) | (have H2_ := (Option.bind_some _ _).symm.trans H; with_reducible exact H2_) | with_reducible exact H | (rw [hy115]; exact H) | exact H
           have Ny115 := Aside0.mk hy115
           clear hy115
           by_cases c32 : x39_1 < (x21_1.length : Int)
           ·rw [if_pos c32] at H
            have c32b0 : decide (x39_1 < (x21_1.length : Int)) = true := decide_eq_true c32
            clear c32
            by_cases c33 : x39_1 < (l5.length : Int)
            ·rw [if_pos c33] at H
             have c33b0 : decide (x39_1 < (l5.length : Int)) = true := decide_eq_true c33
             clear c33
             obtain ⟨y118, hy118⟩ : ∃ y_ : List Int, y_ = (x21_1.set (x39_1 : Int).toNat (wrap64 ((rd x21_1 x39_1) + (wrap64 ((rd l5 x39_1) * (wrap64 (a3_1 - a3_0))))))) := ⟨_, rfl⟩
             replace H : (if (ji28) < (x21_1.length : Int) then (comfitref02_wise.l0 k1 a0 a1 l4 l5 a6 a7 a8 y115 (y118.set ((ji28) : Int).toNat (wrap64 ((rd y118 (ji28)) + (wrap64 ((rd l5 x39_1) * a3_0))))) a1 ji28 a2_0 a2_1 a3_0 a3_1 a9_0 a9_1) else (none)) = some r := by first | (rw [hy118]; with_reducible exact H) | (have H2_ := (Option.bind_some _ _).symm.trans H; rw [hy118]; with_reducible exact H2_) | (have H2_ := (Option.bind_some _ _).symm.trans H; with_reducible exact H2_) | with_reducible exact H | (rw [hy118]; exact H) | exact H
             have Ny118 := Aside0.mk hy118
             clear hy118
             by_cases c35 : (ji28) < (x21_1.length : Int)
             ·rw [if_pos c35] at H
              have c35b0 : decide ((ji28) < (x21_1.length : Int)) = true := decide_eq_true c35
              clear c35
              obtain ⟨y121, hy121⟩ : ∃ y_ : List Int, y_ = (y118.set ((ji28) : Int).toNat (wrap64 ((rd y118 (ji28)) + (wrap64 ((rd l5 x39_1) * a3_0))))) := ⟨_, rfl⟩
              replace H : (comfitref02_wise.l0 k1 a0 a1 l4 l5 a6 a7 a8 y115 y121 a1 ji28 a2_0 a2_1 a3_0 a3_1 a9_0 a9_1) = some r := by first | (rw [hy121]; with_reducible exact H) | (have H2_ := (Option.bind_some _ _).symm.trans H; rw [hy121]; with_reducible exact H2_) | (have H2_ := (Option.bind_some _ _).symm.trans H; with_reducible exact H2_) | with_reducible exact H | (rw [hy121]; exact H) | exact H
              have Ny121 := Aside0.mk hy121
              clear hy121
              have H' := Aside0.mk H
              clear H
              try go_wp2
              have n0_ := Aside0.mk (Kd.R_drew HO_20.out)
              have n1_ := Aside0.mk (Kd.R_drew HO_21.out)
              have n2_ := Aside0.mk (blk_drew BK101.out)
              have n3_ := Aside0.mk (blk_drew BK102.out)
              have n4_ := Aside0.mk (blk_drew BK103.out)
              have n5_ := Aside0.mk (gb_drew1 HB.out)
              clear HO_20
              clear HO_21
              clear BK101
              clear BK102
              clear BK103
              clear HB
              have HO_20 := n0_
              have HO_21 := n1_
              have BK101 := n2_
              have BK102 := n3_
              have BK103 := n4_
              have HB := n5_
              clear n0_ n1_ n2_ n3_ n4_ n5_
              obtain ⟨Ao38, co38, eo38⟩ := Kd.R_slice HO_20.out
              (first | subst eo38 | (injection eo38 with f1_ f2_ f3_; have f4_ := f1_.symm; have f5_ := f3_.symm; clear f1_ f2_ f3_; subst f4_; subst f5_))
              have p110 : 0 ≤ (x39_1 : Int) := of_decide_eq_true (by first | (with_reducible assumption) | assumption)
              have q110 : x39_1 < (x20_1.length : Int) := of_decide_eq_true (by first | (with_reducible assumption) | assumption)
              obtain ⟨ad110, e110, hx110_0⟩ := Kd.at_int (Kd.R_reads' HO_20.out).2.2 x39_1 p110 q110
              cases e110
              replace p110 := eq_true p110
              replace q110 := eq_true q110
              have p111 : 0 ≤ (x39_1 : Int) := of_decide_eq_true (by first | (with_reducible assumption) | assumption)
              have q111 : x39_1 < (l4.length : Int) := of_decide_eq_true (by first | (with_reducible assumption) | assumption)
              obtain ⟨ad111, e111, hx111_0⟩ := Kd.at_int HR4.out x39_1 p111 q111
              have hw111_0 := hx111_0
              cases e111
              replace hx111_0 := gb_cell HB.out hx111_0 (NX4.out _ (by first | rfl | assumption))
              replace p111 := eq_true p111
              replace q111 := eq_true q111
              have p27 : 0 ≤ (x39_1 : Int) := of_decide_eq_true (by first | (with_reducible assumption) | assumption)
              have q27 : (x39_1 : Int) < ((x20_1.length : Int) : Int) := of_decide_eq_true (by first | (with_reducible assumption) | assumption)
              obtain ⟨go27, co27, eo27, gb27, gl27, cl27, HG27⟩ := Kd.R_form HO_20.out (by omega)
              (first | cases eo27 | (injection eo27 with ea_ en_ ec_; (first | subst ea_ | (injection ea_ with ea_; subst ea_)); subst ec_; clear en_))
              have GB27 := Aside0.mk gb27
              have GG27 := Aside0.mk HG27
              clear gb27 gl27 HG27
              (first | simp only [add_plain] at hx110_0 | skip)
              obtain ⟨hx27_0, hf27_0⟩ := Kd.R_celln 0 HO_20.out (x39_1 : Int) p27 q27
              replace p27 := eq_true p27
              replace q27 := eq_true q27
              have HP39 := Kd.R_putn HO_20.out (x39_1 : Int) (wrap64 ((rd x20_1 x39_1) + (wrap64 ((rd l4 x39_1) * (wrap64 (a2_1 - a2_0))))))
              rw [← Ny112.out] at HP39
              have HQ39 := Aside0.mk HP39
              clear HP39
              refine start_ (n := 17) (S := fun w' => w'.cell? ⟨gb101, 0, none⟩ = some (.int .i64 a2_0) ∧ w'.cell? ⟨gb101, 1, none⟩ = some (.int .i64 a2_1) ∧ w'.cell? ⟨go27, (x39_1).toNat, none⟩ = some (.int .i64 (rd x20_1 x39_1)) ∧ w'.cell? (ad111.add (x39_1).toNat) = some (.int .i64 (rd l4 x39_1))) (ds := [16]) #[false, false, false, false, false, false, false, false, false, false, false, false, false, false, false, false, false] (by kernel_rfl) rfl rfl ⟨(blk_cell BK101.out 0).trans rfl, (blk_cell BK101.out 1).trans rfl, hx110_0, (gb_cell HB.out hw111_0 (NX4.out _ (by first | rfl | assumption)))⟩ (fun hHeld => ?_); refine with_tabW comfitref02_wise.tab5 comfitref02_wise.bits5 (fun HT_ HW_ => ?_)
              generalize wr.drew = w37 at HO_20 HO_21 BK101 BK102 BK103 HB GG27 HQ39 hf27_0 hx110_0 hx111_0 hx27_0 hHeld ⊢
              refine pure_ (i := 0) (N := some 42) (v := ?_) (a' := ?_) #[true, false, false, false, false, false, false, false, false, false, false, false, false, false, false, false, false] rfl rfl (any_of HT_.out (by kernel_rfl)) (fun _ _ _ h => h) (Or.inl ⟨by rfl, ?_⟩) ?_ ?_
              rotate_left
              ·intro w'
               go_simp
               with_reducible rfl
              rotate_left
              ·simp only [Act.put, List.setIfInBounds_toArray, List.set_cons_zero, List.set_cons_succ, i64_w, i32_w]
               rfl
              refine pure_ (i := 1) (N := some 43) (v := ?_) (a' := ?_) #[true, true, false, false, false, false, false, false, false, false, false, false, false, false, false, false, false] rfl rfl (any_of HT_.out (by kernel_rfl)) (fun _ _ _ h => h) (Or.inl ⟨by rfl, ?_⟩) ?_ ?_
              rotate_left
              ·intro w'
               go_simp
               with_reducible rfl
              rotate_left
              ·simp only [Act.put, List.setIfInBounds_toArray, List.set_cons_zero, List.set_cons_succ, i64_w, i32_w]
               rfl
              refine pure_ (i := 2) (N := some 44) (v := ?_) (a' := ?_) #[true, true, true, false, false, false, false, false, false, false, false, false, false, false, false, false, false] rfl rfl (any_of HT_.out (by kernel_rfl)) (fun _ _ _ h => h) (Or.inl ⟨by rfl, ?_⟩) ?_ ?_
              rotate_left
              ·intro w'
               go_simp
               with_reducible rfl
              rotate_left
              ·simp only [Act.put, List.setIfInBounds_toArray, List.set_cons_zero, List.set_cons_succ, i64_w, i32_w]
               rfl
              refine pure_ (i := 4) (N := some 46) (v := ?_) (a' := ?_) #[true, true, true, false, true, false, false, false, false, false, false, false, false, false, false, false, false] rfl rfl (any_of HT_.out (by kernel_rfl)) (fun _ _ _ h => h) (Or.inl ⟨by rfl, ?_⟩) ?_ ?_
              rotate_left
              ·intro w'
               go_simp
               with_reducible rfl
              rotate_left
              ·simp only [Act.put, List.setIfInBounds_toArray, List.set_cons_zero, List.set_cons_succ, i64_w, i32_w]
               rfl
              refine pure_ (i := 5) (N := some 47) (v := ?_) (a' := ?_) #[true, true, true, false, true, true, false, false, false, false, false, false, false, false, false, false, false] rfl rfl (any_of HT_.out (by kernel_rfl)) (fun _ _ _ h => h) (Or.inl ⟨by rfl, ?_⟩) ?_ ?_
              rotate_left
              ·intro w'
               go_simp
               with_reducible rfl
              rotate_left
              ·simp only [Act.put, List.setIfInBounds_toArray, List.set_cons_zero, List.set_cons_succ, i64_w, i32_w]
               rfl
              refine pure_ (i := 6) (N := some 48) (v := ?_) (a' := ?_) #[true, true, true, false, true, true, true, false, false, false, false, false, false, false, false, false, false] rfl rfl (any_of HT_.out (by kernel_rfl)) (fun _ _ _ h => h) (Or.inl ⟨by rfl, ?_⟩) ?_ ?_
              rotate_left
              ·intro w'
               go_simp
               with_reducible rfl
              rotate_left
              ·simp only [Act.put, List.setIfInBounds_toArray, List.set_cons_zero, List.set_cons_succ, i64_w, i32_w]
               rfl
              refine pure_ (i := 8) (N := some 50) (v := ?_) (a' := ?_) #[true, true, true, false, true, true, true, false, true, false, false, false, false, false, false, false, false] rfl rfl (any_of HT_.out (by kernel_rfl)) (fun _ _ _ h => h) (Or.inl ⟨by rfl, ?_⟩) ?_ ?_
              rotate_left
              ·intro w'
               go_simp
               with_reducible rfl
              rotate_left
              ·simp only [Act.put, List.setIfInBounds_toArray, List.set_cons_zero, List.set_cons_succ, i64_w, i32_w]
               rfl
              refine pure_ (i := 10) (N := some 52) (v := ?_) (a' := ?_) #[true, true, true, false, true, true, true, false, true, false, true, false, false, false, false, false, false] rfl rfl (any_of HT_.out (by kernel_rfl)) (fun _ _ _ h => h) (Or.inl ⟨by rfl, ?_⟩) ?_ ?_
              rotate_left
              ·intro w'
               go_simp
               with_reducible rfl
              rotate_left
              ·simp only [Act.put, List.setIfInBounds_toArray, List.set_cons_zero, List.set_cons_succ, i64_w, i32_w]
               rfl
              refine take_ (i := 3) (N := some 45) (v := ?_) (a' := ?_) #[true, true, true, true, true, true, true, false, true, false, true, false, false, false, false, false, false] rfl rfl (take_ofW HT_.out HW_.out (by kernel_rfl)) (fun _ _ _ h => h) (Or.inl ⟨by rfl, ?_⟩) hHeld ?_ ?_
              rotate_left
              ·rintro w' ⟨s0, s1, s2, s3⟩
               go_simp
               with_reducible rfl
              rotate_left
              ·simp only [Act.put, List.setIfInBounds_toArray, List.set_cons_zero, List.set_cons_succ, i64_w, i32_w]
               rfl
              refine take_ (i := 7) (N := some 49) (v := ?_) (a' := ?_) #[true, true, true, true, true, true, true, true, true, false, true, false, false, false, false, false, false] rfl rfl (take_ofW HT_.out HW_.out (by kernel_rfl)) (fun _ _ _ h => h) (Or.inl ⟨by rfl, ?_⟩) hHeld ?_ ?_
              rotate_left
              ·rintro w' ⟨s0, s1, s2, s3⟩
               go_simp
               with_reducible rfl
              rotate_left
              ·simp only [Act.put, List.setIfInBounds_toArray, List.set_cons_zero, List.set_cons_succ, i64_w, i32_w]
               rfl
              refine take_ (i := 9) (N := some 51) (v := ?_) (a' := ?_) #[true, true, true, true, true, true, true, true, true, true, true, false, false, false, false, false, false] rfl rfl (take_ofW HT_.out HW_.out (by kernel_rfl)) (fun _ _ _ h => h) (Or.inl ⟨by rfl, ?_⟩) hHeld ?_ ?_
              rotate_left
              ·rintro w' ⟨s0, s1, s2, s3⟩
               go_simp
               with_reducible rfl
              rotate_left
              ·simp only [Act.put, List.setIfInBounds_toArray, List.set_cons_zero, List.set_cons_succ, i64_w, i32_w]
               rfl
              refine take_ (i := 11) (N := some 53) (v := ?_) (a' := ?_) #[true, true, true, true, true, true, true, true, true, true, true, true, false, false, false, false, false] rfl rfl (take_ofW HT_.out HW_.out (by kernel_rfl)) (fun _ _ _ h => h) (Or.inl ⟨by rfl, ?_⟩) hHeld ?_ ?_
              rotate_left
              ·rintro w' ⟨s0, s1, s2, s3⟩
               go_simp
               with_reducible rfl
              rotate_left
              ·simp only [Act.put, List.setIfInBounds_toArray, List.set_cons_zero, List.set_cons_succ, i64_w, i32_w]
               rfl
              refine pure_ (i := 12) (N := some 54) (v := ?_) (a' := ?_) #[true, true, true, true, true, true, true, true, true, true, true, true, true, false, false, false, false] rfl rfl (any_of HT_.out (by kernel_rfl)) (fun _ _ _ h => h) (Or.inl ⟨by rfl, ?_⟩) ?_ ?_
              rotate_left
              ·intro w'
               go_simp
               with_reducible rfl
              rotate_left
              ·simp only [Act.put, List.setIfInBounds_toArray, List.set_cons_zero, List.set_cons_succ, i64_w, i32_w]
               rfl
              refine pure_ (i := 13) (N := some 55) (v := ?_) (a' := ?_) #[true, true, true, true, true, true, true, true, true, true, true, true, true, true, false, false, false] rfl rfl (any_of HT_.out (by kernel_rfl)) (fun _ _ _ h => h) (Or.inl ⟨by rfl, ?_⟩) ?_ ?_
              rotate_left
              ·intro w'
               go_simp
               with_reducible rfl
              rotate_left
              ·simp only [Act.put, List.setIfInBounds_toArray, List.set_cons_zero, List.set_cons_succ, i64_w, i32_w]
               rfl
              refine pure_ (i := 14) (N := some 56) (v := ?_) (a' := ?_) #[true, true, true, true, true, true, true, true, true, true, true, true, true, true, true, false, false] rfl rfl (any_of HT_.out (by kernel_rfl)) (fun _ _ _ h => h) (Or.inl ⟨by rfl, ?_⟩) ?_ ?_
              rotate_left
              ·intro w'
               go_simp
               with_reducible rfl
              rotate_left
              ·simp only [Act.put, List.setIfInBounds_toArray, List.set_cons_zero, List.set_cons_succ, i64_w, i32_w]
               rfl
              refine pure_ (i := 15) (N := some 57) (v := ?_) (a' := ?_) #[true, true, true, true, true, true, true, true, true, true, true, true, true, true, true, true, false] rfl rfl (any_of HT_.out (by kernel_rfl)) (fun _ _ _ h => h) (Or.inl ⟨by rfl, ?_⟩) ?_ ?_
              rotate_left
              ·intro w'
               go_simp
               with_reducible rfl
              rotate_left
              ·simp only [Act.put, List.setIfInBounds_toArray, List.set_cons_zero, List.set_cons_succ, i64_w, i32_w]
               rfl
              refine last_ (i := 16) (N := none) #[true, true, true, true, true, true, true, true, true, true, true, true, true, true, true, true, true] rfl rfl (one_of HT_.out (by kernel_rfl)) (by decide) (fun K hK => ?_)
              refine skip_ (w1 := ?_) (by rfl) rfl ?_ ?_
              rotate_left
              ·go_simp
               rfl
              refine hK.out _ _ ?_
              clear hK K
              refine done_ (done_of HT_.out (by kernel_rfl)) ?_
              try go_wp2
              have n0_ : Aside0 (Kd.R (Kd.int .i64) 3 (w37.setCell ⟨go27, (x39_1 : Int).toNat, none⟩ (.int .i64 (wrap64 ((rd x20_1 x39_1) + (wrap64 ((rd l4 x39_1) * (wrap64 (a2_1 - a2_0)))))))) w.heap.size (fun k_ => some k_ ≠ (v108 : Value).ownBlock) (.slice (some ⟨go27, 0, none⟩) x20_1.length co38) y112) := ⟨by (with_reducible repeat (first | apply Kd.R_alloc | apply Kd.R_drewN | apply Kd.R_drew)); exact HQ39.out⟩
              have n1_ : Aside0 (Kd.R (Kd.int .i64) 3 (w37.setCell ⟨go27, (x39_1 : Int).toNat, none⟩ (.int .i64 (wrap64 ((rd x20_1 x39_1) + (wrap64 ((rd l4 x39_1) * (wrap64 (a2_1 - a2_0)))))))) w.heap.size (fun k_ => some k_ ≠ (.slice (some ⟨go27, 0, none⟩) x20_1.length co38 : Value).ownBlock) v108 x21_1) := ⟨by (with_reducible repeat (first | apply Kd.R_alloc | apply Kd.R_drewN | apply Kd.R_drew)); exact Kd.R_mono (Kd.R_far (p := ⟨go27, (x39_1 : Int).toNat, none⟩) (Kd.R_mono HO_21.out (fun k_ hk => (⟨hk, fun e_ => hk (by rw [e_]; rfl)⟩ : _ ∧ k_ ≠ go27))) (fun _ hk => hk.2) (.int .i64 (wrap64 ((rd x20_1 x39_1) + (wrap64 ((rd l4 x39_1) * (wrap64 (a2_1 - a2_0)))))))) (fun _ hk => hk.1)⟩
              have n2_ : Aside0 ((w37.setCell ⟨go27, (x39_1 : Int).toNat, none⟩ (.int .i64 (wrap64 ((rd x20_1 x39_1) + (wrap64 ((rd l4 x39_1) * (wrap64 (a2_1 - a2_0)))))))).heap[gb101]? = some (.cells #[.int .i64 a2_0, .int .i64 a2_1] 26 (0, 0))) := ⟨by (with_reducible repeat (first | refine blk_drewN ?_ _ | refine blk_drew ?_ | refine blk_alloc ?_ _)); refine blk_far ?_ (by have h_ := Kd.R_ne HO_20.out BK101.out (by decide); intro e_; exact h_ (by rw [e_]; rfl)) _; (with_reducible repeat (first | refine blk_drewN ?_ _ | refine blk_drew ?_ | refine blk_alloc ?_ _)); exact BK101.out⟩
              have n3_ : Aside0 ((w37.setCell ⟨go27, (x39_1 : Int).toNat, none⟩ (.int .i64 (wrap64 ((rd x20_1 x39_1) + (wrap64 ((rd l4 x39_1) * (wrap64 (a2_1 - a2_0)))))))).heap[gb102]? = some (.cells #[.int .i64 a3_0, .int .i64 a3_1] 26 (0, 0))) := ⟨by (with_reducible repeat (first | refine blk_drewN ?_ _ | refine blk_drew ?_ | refine blk_alloc ?_ _)); refine blk_far ?_ (by have h_ := Kd.R_ne HO_20.out BK102.out (by decide); intro e_; exact h_ (by rw [e_]; rfl)) _; (with_reducible repeat (first | refine blk_drewN ?_ _ | refine blk_drew ?_ | refine blk_alloc ?_ _)); exact BK102.out⟩
              have n4_ : Aside0 ((w37.setCell ⟨go27, (x39_1 : Int).toNat, none⟩ (.int .i64 (wrap64 ((rd x20_1 x39_1) + (wrap64 ((rd l4 x39_1) * (wrap64 (a2_1 - a2_0)))))))).heap[gb103]? = some (.cells #[.int .i64 a9_0] 3 (0, 0))) := ⟨by (with_reducible repeat (first | refine blk_drewN ?_ _ | refine blk_drew ?_ | refine blk_alloc ?_ _)); refine blk_far ?_ (by have h_ := gb_ne HO_20.out L103.out; intro e_; exact h_ (by rw [e_]; rfl)) _; (with_reducible repeat (first | refine blk_drewN ?_ _ | refine blk_drew ?_ | refine blk_alloc ?_ _)); exact BK103.out⟩
              have n5_ : Aside0 (GB gb103 w (w37.setCell ⟨go27, (x39_1 : Int).toNat, none⟩ (.int .i64 (wrap64 ((rd x20_1 x39_1) + (wrap64 ((rd l4 x39_1) * (wrap64 (a2_1 - a2_0))))))))) := ⟨by repeat (first | (with_reducible first | exact HB.out | apply gb_alloc | apply gb_drewN | apply gb_drew1 | refine gb_set ?_ GB27.out | refine gb_set ?_ GE101.out | refine gb_set ?_ GE102.out | refine gb_put ?_) | exact HB.out)⟩
              (try clear HO_20)
              (try clear HO_21)
              (try clear BK101)
              (try clear BK102)
              (try clear BK103)
              (try clear HB)
              generalize (w37.setCell ⟨go27, (x39_1 : Int).toNat, none⟩ (.int .i64 (wrap64 ((rd x20_1 x39_1) + (wrap64 ((rd l4 x39_1) * (wrap64 (a2_1 - a2_0)))))))) = w40 at n0_ n1_ n2_ n3_ n4_ n5_ ⊢
              have HO_20 := n0_
              have HO_21 := n1_
              have BK101 := n2_
              have BK102 := n3_
              have BK103 := n4_
              have HB := n5_
              clear n0_ n1_ n2_ n3_ n4_ n5_
              have n0_ := Aside0.mk (Kd.R_drew HO_20.out)
              have n1_ := Aside0.mk (Kd.R_drew HO_21.out)
              have n2_ := Aside0.mk (blk_drew BK101.out)
              have n3_ := Aside0.mk (blk_drew BK102.out)
              have n4_ := Aside0.mk (blk_drew BK103.out)
              have n5_ := Aside0.mk (gb_drew1 HB.out)
              clear HO_20
              clear HO_21
              clear BK101
              clear BK102
              clear BK103
              clear HB
              have HO_20 := n0_
              have HO_21 := n1_
              have BK101 := n2_
              have BK102 := n3_
              have BK103 := n4_
              have HB := n5_
              clear n0_ n1_ n2_ n3_ n4_ n5_
              have p113 : 0 ≤ ((ji28) : Int) := of_decide_eq_true (by first | (with_reducible assumption) | assumption)
              have q113 : (ji28) < (y112.length : Int) := (by have h_ : ((ji28) : Int) < ((x20_1.length : Int) : Int) := of_decide_eq_true (by first | (with_reducible assumption) | assumption); first | (have e_ := (Kd.R_reads' HO_20.out).1; omega) | simpa only [Ny112.out, List.length_set] using h_)
              have ql113 : (((ji28) : Int) < ((x20_1.length : Int) : Int)) = True := eq_true (of_decide_eq_true (by first | (with_reducible assumption) | assumption))
              obtain ⟨ad113, e113, hx113_0⟩ := Kd.at_int (Kd.R_reads' HO_20.out).2.2 (ji28) p113 q113
              obtain rfl : (⟨go27, 0, none⟩ : Addr) = ad113 := (by injection e113)
              (first | simp only [add_plain] at hx113_0 | simp only [add_at] at hx113_0 | simp only [Addr.add, Nat.zero_add] at hx113_0 | skip)
              replace p113 := eq_true p113
              replace q113 := eq_true q113
              have p114 : 0 ≤ (x39_1 : Int) := of_decide_eq_true (by first | (with_reducible assumption) | assumption)
              have q114 : x39_1 < (l4.length : Int) := of_decide_eq_true (by first | (with_reducible assumption) | assumption)
              obtain ⟨ad114, e114, hx114_0⟩ := Kd.at_int HR4.out x39_1 p114 q114
              have hw114_0 := hx114_0
              obtain rfl : ad111 = ad114 := (by injection e114)
              replace hx114_0 := gb_cell HB.out hx114_0 (NX4.out _ (by first | rfl | assumption))
              replace p114 := eq_true p114
              replace q114 := eq_true q114
              have p31 : 0 ≤ ((ji28) : Int) := of_decide_eq_true (by first | (with_reducible assumption) | assumption)
              have q31 : ((ji28) : Int) < ((x20_1.length : Int) : Int) := of_decide_eq_true (by first | (with_reducible assumption) | assumption)
              obtain ⟨hx31_0, hf31_0⟩ := Kd.R_celln 0 HO_20.out ((ji28) : Int) p31 q31
              replace p31 := eq_true p31
              replace q31 := eq_true q31
              have HP42 := Kd.R_putn HO_20.out ((ji28) : Int) (wrap64 ((rd y112 (ji28)) + (wrap64 ((rd l4 x39_1) * a2_0))))
              rw [← Ny115.out] at HP42
              have HQ42 := Aside0.mk HP42
              clear HP42
              refine start_ (n := 15) (S := fun w' => w'.cell? ⟨gb101, 0, none⟩ = some (.int .i64 a2_0) ∧ w'.cell? ⟨gb101, 1, none⟩ = some (.int .i64 a2_1) ∧ w'.cell? ⟨go27, ((ji28)).toNat, none⟩ = some (.int .i64 (rd y112 (ji28))) ∧ w'.cell? (ad111.add (x39_1).toNat) = some (.int .i64 (rd l4 x39_1))) (ds := [14]) #[false, false, false, false, false, false, false, false, false, false, false, false, false, false, false] (by kernel_rfl) rfl rfl ⟨(blk_cell BK101.out 0).trans rfl, (blk_cell BK101.out 1).trans rfl, hx113_0, (gb_cell HB.out hw114_0 (NX4.out _ (by first | rfl | assumption)))⟩ (fun hHeld => ?_); refine with_tabW comfitref02_wise.tab6 comfitref02_wise.bits6 (fun HT_ HW_ => ?_)
              generalize w40.drew = w41 at HO_20 HO_21 BK101 BK102 BK103 HB HQ39 HQ42 hf31_0 hx113_0 hx114_0 hx31_0 hHeld ⊢
              refine pure_ (i := 0) (N := some 58) (v := ?_) (a' := ?_) #[true, false, false, false, false, false, false, false, false, false, false, false, false, false, false] rfl rfl (any_of HT_.out (by kernel_rfl)) (fun _ _ _ h => h) (Or.inl ⟨by rfl, ?_⟩) ?_ ?_
              rotate_left
              ·intro w'
               go_simp
               with_reducible rfl
              rotate_left
              ·simp only [Act.put, List.setIfInBounds_toArray, List.set_cons_zero, List.set_cons_succ, i64_w, i32_w]
               rfl
              refine pure_ (i := 1) (N := some 59) (v := ?_) (a' := ?_) #[true, true, false, false, false, false, false, false, false, false, false, false, false, false, false] rfl rfl (any_of HT_.out (by kernel_rfl)) (fun _ _ _ h => h) (Or.inl ⟨by rfl, ?_⟩) ?_ ?_
              rotate_left
              ·intro w'
               go_simp
               with_reducible rfl
              rotate_left
              ·simp only [Act.put, List.setIfInBounds_toArray, List.set_cons_zero, List.set_cons_succ, i64_w, i32_w]
               rfl
              refine pure_ (i := 2) (N := some 60) (v := ?_) (a' := ?_) #[true, true, true, false, false, false, false, false, false, false, false, false, false, false, false] rfl rfl (any_of HT_.out (by kernel_rfl)) (fun _ _ _ h => h) (Or.inl ⟨by rfl, ?_⟩) ?_ ?_
              rotate_left
              ·intro w'
               go_simp
               with_reducible rfl
              rotate_left
              ·simp only [Act.put, List.setIfInBounds_toArray, List.set_cons_zero, List.set_cons_succ, i64_w, i32_w]
               rfl
              refine pure_ (i := 3) (N := some 61) (v := ?_) (a' := ?_) #[true, true, true, true, false, false, false, false, false, false, false, false, false, false, false] rfl rfl (any_of HT_.out (by kernel_rfl)) (fun _ _ _ h => h) (Or.inl ⟨by rfl, ?_⟩) ?_ ?_
              rotate_left
              ·intro w'
               go_simp
               with_reducible rfl
              rotate_left
              ·simp only [Act.put, List.setIfInBounds_toArray, List.set_cons_zero, List.set_cons_succ, i64_w, i32_w]
               rfl
              refine pure_ (i := 5) (N := some 63) (v := ?_) (a' := ?_) #[true, true, true, true, false, true, false, false, false, false, false, false, false, false, false] rfl rfl (any_of HT_.out (by kernel_rfl)) (fun _ _ _ h => h) (Or.inl ⟨by rfl, ?_⟩) ?_ ?_
              rotate_left
              ·intro w'
               go_simp
               with_reducible rfl
              rotate_left
              ·simp only [Act.put, List.setIfInBounds_toArray, List.set_cons_zero, List.set_cons_succ, i64_w, i32_w]
               rfl
              refine pure_ (i := 6) (N := some 64) (v := ?_) (a' := ?_) #[true, true, true, true, false, true, true, false, false, false, false, false, false, false, false] rfl rfl (any_of HT_.out (by kernel_rfl)) (fun _ _ _ h => h) (Or.inl ⟨by rfl, ?_⟩) ?_ ?_
              rotate_left
              ·intro w'
               go_simp
               with_reducible rfl
              rotate_left
              ·simp only [Act.put, List.setIfInBounds_toArray, List.set_cons_zero, List.set_cons_succ, i64_w, i32_w]
               rfl
              refine pure_ (i := 7) (N := some 65) (v := ?_) (a' := ?_) #[true, true, true, true, false, true, true, true, false, false, false, false, false, false, false] rfl rfl (any_of HT_.out (by kernel_rfl)) (fun _ _ _ h => h) (Or.inl ⟨by rfl, ?_⟩) ?_ ?_
              rotate_left
              ·intro w'
               go_simp
               with_reducible rfl
              rotate_left
              ·simp only [Act.put, List.setIfInBounds_toArray, List.set_cons_zero, List.set_cons_succ, i64_w, i32_w]
               rfl
              refine pure_ (i := 9) (N := some 67) (v := ?_) (a' := ?_) #[true, true, true, true, false, true, true, true, false, true, false, false, false, false, false] rfl rfl (any_of HT_.out (by kernel_rfl)) (fun _ _ _ h => h) (Or.inl ⟨by rfl, ?_⟩) ?_ ?_
              rotate_left
              ·intro w'
               go_simp
               with_reducible rfl
              rotate_left
              ·simp only [Act.put, List.setIfInBounds_toArray, List.set_cons_zero, List.set_cons_succ, i64_w, i32_w]
               rfl
              refine take_ (i := 4) (N := some 62) (v := ?_) (a' := ?_) #[true, true, true, true, true, true, true, true, false, true, false, false, false, false, false] rfl rfl (take_ofW HT_.out HW_.out (by kernel_rfl)) (fun _ _ _ h => h) (Or.inl ⟨by rfl, ?_⟩) hHeld ?_ ?_
              rotate_left
              ·rintro w' ⟨s0, s1, s2, s3⟩
               go_simp
               with_reducible rfl
              rotate_left
              ·simp only [Act.put, List.setIfInBounds_toArray, List.set_cons_zero, List.set_cons_succ, i64_w, i32_w]
               rfl
              refine take_ (i := 8) (N := some 66) (v := ?_) (a' := ?_) #[true, true, true, true, true, true, true, true, true, true, false, false, false, false, false] rfl rfl (take_ofW HT_.out HW_.out (by kernel_rfl)) (fun _ _ _ h => h) (Or.inl ⟨by rfl, ?_⟩) hHeld ?_ ?_
              rotate_left
              ·rintro w' ⟨s0, s1, s2, s3⟩
               go_simp
               with_reducible rfl
              rotate_left
              ·simp only [Act.put, List.setIfInBounds_toArray, List.set_cons_zero, List.set_cons_succ, i64_w, i32_w]
               rfl
              refine take_ (i := 10) (N := some 68) (v := ?_) (a' := ?_) #[true, true, true, true, true, true, true, true, true, true, true, false, false, false, false] rfl rfl (take_ofW HT_.out HW_.out (by kernel_rfl)) (fun _ _ _ h => h) (Or.inl ⟨by rfl, ?_⟩) hHeld ?_ ?_
              rotate_left
              ·rintro w' ⟨s0, s1, s2, s3⟩
               go_simp
               with_reducible rfl
              rotate_left
              ·simp only [Act.put, List.setIfInBounds_toArray, List.set_cons_zero, List.set_cons_succ, i64_w, i32_w]
               rfl
              refine pure_ (i := 11) (N := some 69) (v := ?_) (a' := ?_) #[true, true, true, true, true, true, true, true, true, true, true, true, false, false, false] rfl rfl (any_of HT_.out (by kernel_rfl)) (fun _ _ _ h => h) (Or.inl ⟨by rfl, ?_⟩) ?_ ?_
              rotate_left
              ·intro w'
               go_simp
               with_reducible rfl
              rotate_left
              ·simp only [Act.put, List.setIfInBounds_toArray, List.set_cons_zero, List.set_cons_succ, i64_w, i32_w]
               rfl
              refine pure_ (i := 12) (N := some 70) (v := ?_) (a' := ?_) #[true, true, true, true, true, true, true, true, true, true, true, true, true, false, false] rfl rfl (any_of HT_.out (by kernel_rfl)) (fun _ _ _ h => h) (Or.inl ⟨by rfl, ?_⟩) ?_ ?_
              rotate_left
              ·intro w'
               go_simp
               with_reducible rfl
              rotate_left
              ·simp only [Act.put, List.setIfInBounds_toArray, List.set_cons_zero, List.set_cons_succ, i64_w, i32_w]
               rfl
              refine pure_ (i := 13) (N := some 71) (v := ?_) (a' := ?_) #[true, true, true, true, true, true, true, true, true, true, true, true, true, true, false] rfl rfl (any_of HT_.out (by kernel_rfl)) (fun _ _ _ h => h) (Or.inl ⟨by rfl, ?_⟩) ?_ ?_
              rotate_left
              ·intro w'
               go_simp
               with_reducible rfl
              rotate_left
              ·simp only [Act.put, List.setIfInBounds_toArray, List.set_cons_zero, List.set_cons_succ, i64_w, i32_w]
               rfl
              refine last_ (i := 14) (N := none) #[true, true, true, true, true, true, true, true, true, true, true, true, true, true, true] rfl rfl (one_of HT_.out (by kernel_rfl)) (by decide) (fun K hK => ?_)
              refine skip_ (w1 := ?_) (by rfl) rfl ?_ ?_
              rotate_left
              ·go_simp
               rfl
              refine hK.out _ _ ?_
              clear hK K
              refine done_ (done_of HT_.out (by kernel_rfl)) ?_
              try go_wp2
              have n0_ : Aside0 (Kd.R (Kd.int .i64) 3 (w41.setCell ⟨go27, ((ji28) : Int).toNat, none⟩ (.int .i64 (wrap64 ((rd y112 (ji28)) + (wrap64 ((rd l4 x39_1) * a2_0)))))) w.heap.size (fun k_ => some k_ ≠ (v108 : Value).ownBlock) (.slice (some ⟨go27, 0, none⟩) x20_1.length co38) y115) := ⟨by (with_reducible repeat (first | apply Kd.R_alloc | apply Kd.R_drewN | apply Kd.R_drew)); exact HQ42.out⟩
              have n1_ : Aside0 (Kd.R (Kd.int .i64) 3 (w41.setCell ⟨go27, ((ji28) : Int).toNat, none⟩ (.int .i64 (wrap64 ((rd y112 (ji28)) + (wrap64 ((rd l4 x39_1) * a2_0)))))) w.heap.size (fun k_ => some k_ ≠ (.slice (some ⟨go27, 0, none⟩) x20_1.length co38 : Value).ownBlock) v108 x21_1) := ⟨by (with_reducible repeat (first | apply Kd.R_alloc | apply Kd.R_drewN | apply Kd.R_drew)); exact Kd.R_mono (Kd.R_far (p := ⟨go27, ((ji28) : Int).toNat, none⟩) (Kd.R_mono HO_21.out (fun k_ hk => (⟨hk, fun e_ => hk (by rw [e_]; rfl)⟩ : _ ∧ k_ ≠ go27))) (fun _ hk => hk.2) (.int .i64 (wrap64 ((rd y112 (ji28)) + (wrap64 ((rd l4 x39_1) * a2_0)))))) (fun _ hk => hk.1)⟩
              have n2_ : Aside0 ((w41.setCell ⟨go27, ((ji28) : Int).toNat, none⟩ (.int .i64 (wrap64 ((rd y112 (ji28)) + (wrap64 ((rd l4 x39_1) * a2_0)))))).heap[gb101]? = some (.cells #[.int .i64 a2_0, .int .i64 a2_1] 26 (0, 0))) := ⟨by (with_reducible repeat (first | refine blk_drewN ?_ _ | refine blk_drew ?_ | refine blk_alloc ?_ _)); refine blk_far ?_ (by have h_ := Kd.R_ne HO_20.out BK101.out (by decide); intro e_; exact h_ (by rw [e_]; rfl)) _; (with_reducible repeat (first | refine blk_drewN ?_ _ | refine blk_drew ?_ | refine blk_alloc ?_ _)); exact BK101.out⟩
              have n3_ : Aside0 ((w41.setCell ⟨go27, ((ji28) : Int).toNat, none⟩ (.int .i64 (wrap64 ((rd y112 (ji28)) + (wrap64 ((rd l4 x39_1) * a2_0)))))).heap[gb102]? = some (.cells #[.int .i64 a3_0, .int .i64 a3_1] 26 (0, 0))) := ⟨by (with_reducible repeat (first | refine blk_drewN ?_ _ | refine blk_drew ?_ | refine blk_alloc ?_ _)); refine blk_far ?_ (by have h_ := Kd.R_ne HO_20.out BK102.out (by decide); intro e_; exact h_ (by rw [e_]; rfl)) _; (with_reducible repeat (first | refine blk_drewN ?_ _ | refine blk_drew ?_ | refine blk_alloc ?_ _)); exact BK102.out⟩
              have n4_ : Aside0 ((w41.setCell ⟨go27, ((ji28) : Int).toNat, none⟩ (.int .i64 (wrap64 ((rd y112 (ji28)) + (wrap64 ((rd l4 x39_1) * a2_0)))))).heap[gb103]? = some (.cells #[.int .i64 a9_0] 3 (0, 0))) := ⟨by (with_reducible repeat (first | refine blk_drewN ?_ _ | refine blk_drew ?_ | refine blk_alloc ?_ _)); refine blk_far ?_ (by have h_ := gb_ne HO_20.out L103.out; intro e_; exact h_ (by rw [e_]; rfl)) _; (with_reducible repeat (first | refine blk_drewN ?_ _ | refine blk_drew ?_ | refine blk_alloc ?_ _)); exact BK103.out⟩
              have n5_ : Aside0 (GB gb103 w (w41.setCell ⟨go27, ((ji28) : Int).toNat, none⟩ (.int .i64 (wrap64 ((rd y112 (ji28)) + (wrap64 ((rd l4 x39_1) * a2_0))))))) := ⟨by repeat (first | (with_reducible first | exact HB.out | apply gb_alloc | apply gb_drewN | apply gb_drew1 | refine gb_set ?_ GB27.out | refine gb_set ?_ GE101.out | refine gb_set ?_ GE102.out | refine gb_put ?_) | exact HB.out)⟩
              (try clear HO_20)
              (try clear HO_21)
              (try clear BK101)
              (try clear BK102)
              (try clear BK103)
              (try clear HB)
              generalize (w41.setCell ⟨go27, ((ji28) : Int).toNat, none⟩ (.int .i64 (wrap64 ((rd y112 (ji28)) + (wrap64 ((rd l4 x39_1) * a2_0)))))) = w43 at n0_ n1_ n2_ n3_ n4_ n5_ ⊢
              have HO_20 := n0_
              have HO_21 := n1_
              have BK101 := n2_
              have BK102 := n3_
              have BK103 := n4_
              have HB := n5_
              clear n0_ n1_ n2_ n3_ n4_ n5_
              have n0_ := Aside0.mk (Kd.R_drew HO_20.out)
              have n1_ := Aside0.mk (Kd.R_drew HO_21.out)
              have n2_ := Aside0.mk (blk_drew BK101.out)
              have n3_ := Aside0.mk (blk_drew BK102.out)
              have n4_ := Aside0.mk (blk_drew BK103.out)
              have n5_ := Aside0.mk (gb_drew1 HB.out)
              clear HO_20
              clear HO_21
              clear BK101
              clear BK102
              clear BK103
              clear HB
              have HO_20 := n0_
              have HO_21 := n1_
              have BK101 := n2_
              have BK102 := n3_
              have BK103 := n4_
              have HB := n5_
              clear n0_ n1_ n2_ n3_ n4_ n5_
              obtain ⟨Ao45, co45, eo45⟩ := Kd.R_slice HO_21.out
              (first | subst eo45 | (injection eo45 with f1_ f2_ f3_; have f4_ := f1_.symm; have f5_ := f3_.symm; clear f1_ f2_ f3_; subst f4_; subst f5_))
              have p116 : 0 ≤ (x39_1 : Int) := of_decide_eq_true (by first | (with_reducible assumption) | assumption)
              have q116 : x39_1 < (x21_1.length : Int) := of_decide_eq_true (by first | (with_reducible assumption) | assumption)
              obtain ⟨ad116, e116, hx116_0⟩ := Kd.at_int (Kd.R_reads' HO_21.out).2.2 x39_1 p116 q116
              cases e116
              replace p116 := eq_true p116
              replace q116 := eq_true q116
              have p117 : 0 ≤ (x39_1 : Int) := of_decide_eq_true (by first | (with_reducible assumption) | assumption)
              have q117 : x39_1 < (l5.length : Int) := of_decide_eq_true (by first | (with_reducible assumption) | assumption)
              obtain ⟨ad117, e117, hx117_0⟩ := Kd.at_int HR5.out x39_1 p117 q117
              have hw117_0 := hx117_0
              cases e117
              replace hx117_0 := gb_cell HB.out hx117_0 (NX5.out _ (by first | rfl | assumption))
              replace p117 := eq_true p117
              replace q117 := eq_true q117
              have p34 : 0 ≤ (x39_1 : Int) := of_decide_eq_true (by first | (with_reducible assumption) | assumption)
              have q34 : (x39_1 : Int) < ((x21_1.length : Int) : Int) := of_decide_eq_true (by first | (with_reducible assumption) | assumption)
              obtain ⟨go34, co34, eo34, gb34, gl34, cl34, HG34⟩ := Kd.R_form HO_21.out (by omega)
              (first | cases eo34 | (injection eo34 with ea_ en_ ec_; (first | subst ea_ | (injection ea_ with ea_; subst ea_)); subst ec_; clear en_))
              have GB34 := Aside0.mk gb34
              have GG34 := Aside0.mk HG34
              clear gb34 gl34 HG34
              (first | simp only [add_plain] at hx116_0 | skip)
              obtain ⟨hx34_0, hf34_0⟩ := Kd.R_celln 0 HO_21.out (x39_1 : Int) p34 q34
              replace p34 := eq_true p34
              replace q34 := eq_true q34
              have HP46 := Kd.R_putn HO_21.out (x39_1 : Int) (wrap64 ((rd x21_1 x39_1) + (wrap64 ((rd l5 x39_1) * (wrap64 (a3_1 - a3_0))))))
              rw [← Ny118.out] at HP46
              have HQ46 := Aside0.mk HP46
              clear HP46
              refine start_ (n := 17) (S := fun w' => w'.cell? ⟨gb102, 0, none⟩ = some (.int .i64 a3_0) ∧ w'.cell? ⟨gb102, 1, none⟩ = some (.int .i64 a3_1) ∧ w'.cell? ⟨go34, (x39_1).toNat, none⟩ = some (.int .i64 (rd x21_1 x39_1)) ∧ w'.cell? (ad117.add (x39_1).toNat) = some (.int .i64 (rd l5 x39_1))) (ds := [16]) #[false, false, false, false, false, false, false, false, false, false, false, false, false, false, false, false, false] (by kernel_rfl) rfl rfl ⟨(blk_cell BK102.out 0).trans rfl, (blk_cell BK102.out 1).trans rfl, hx116_0, (gb_cell HB.out hw117_0 (NX5.out _ (by first | rfl | assumption)))⟩ (fun hHeld => ?_); refine with_tabW comfitref02_wise.tab7 comfitref02_wise.bits7 (fun HT_ HW_ => ?_)
              generalize w43.drew = w44 at HO_20 HO_21 BK101 BK102 BK103 HB GG34 HQ42 HQ46 hf34_0 hx116_0 hx117_0 hx34_0 hHeld ⊢
              refine pure_ (i := 0) (N := some 72) (v := ?_) (a' := ?_) #[true, false, false, false, false, false, false, false, false, false, false, false, false, false, false, false, false] rfl rfl (any_of HT_.out (by kernel_rfl)) (fun _ _ _ h => h) (Or.inl ⟨by rfl, ?_⟩) ?_ ?_
              rotate_left
              ·intro w'
               go_simp
               with_reducible rfl
              rotate_left
              ·simp only [Act.put, List.setIfInBounds_toArray, List.set_cons_zero, List.set_cons_succ, i64_w, i32_w]
               rfl
              refine pure_ (i := 1) (N := some 73) (v := ?_) (a' := ?_) #[true, true, false, false, false, false, false, false, false, false, false, false, false, false, false, false, false] rfl rfl (any_of HT_.out (by kernel_rfl)) (fun _ _ _ h => h) (Or.inl ⟨by rfl, ?_⟩) ?_ ?_
              rotate_left
              ·intro w'
               go_simp
               with_reducible rfl
              rotate_left
              ·simp only [Act.put, List.setIfInBounds_toArray, List.set_cons_zero, List.set_cons_succ, i64_w, i32_w]
               rfl
              refine pure_ (i := 2) (N := some 74) (v := ?_) (a' := ?_) #[true, true, true, false, false, false, false, false, false, false, false, false, false, false, false, false, false] rfl rfl (any_of HT_.out (by kernel_rfl)) (fun _ _ _ h => h) (Or.inl ⟨by rfl, ?_⟩) ?_ ?_
              rotate_left
              ·intro w'
               go_simp
               with_reducible rfl
              rotate_left
              ·simp only [Act.put, List.setIfInBounds_toArray, List.set_cons_zero, List.set_cons_succ, i64_w, i32_w]
               rfl
              refine pure_ (i := 4) (N := some 76) (v := ?_) (a' := ?_) #[true, true, true, false, true, false, false, false, false, false, false, false, false, false, false, false, false] rfl rfl (any_of HT_.out (by kernel_rfl)) (fun _ _ _ h => h) (Or.inl ⟨by rfl, ?_⟩) ?_ ?_
              rotate_left
              ·intro w'
               go_simp
               with_reducible rfl
              rotate_left
              ·simp only [Act.put, List.setIfInBounds_toArray, List.set_cons_zero, List.set_cons_succ, i64_w, i32_w]
               rfl
              refine pure_ (i := 5) (N := some 77) (v := ?_) (a' := ?_) #[true, true, true, false, true, true, false, false, false, false, false, false, false, false, false, false, false] rfl rfl (any_of HT_.out (by kernel_rfl)) (fun _ _ _ h => h) (Or.inl ⟨by rfl, ?_⟩) ?_ ?_
              rotate_left
              ·intro w'
               go_simp
               with_reducible rfl
              rotate_left
              ·simp only [Act.put, List.setIfInBounds_toArray, List.set_cons_zero, List.set_cons_succ, i64_w, i32_w]
               rfl
              refine pure_ (i := 6) (N := some 78) (v := ?_) (a' := ?_) #[true, true, true, false, true, true, true, false, false, false, false, false, false, false, false, false, false] rfl rfl (any_of HT_.out (by kernel_rfl)) (fun _ _ _ h => h) (Or.inl ⟨by rfl, ?_⟩) ?_ ?_
              rotate_left
              ·intro w'
               go_simp
               with_reducible rfl
              rotate_left
              ·simp only [Act.put, List.setIfInBounds_toArray, List.set_cons_zero, List.set_cons_succ, i64_w, i32_w]
               rfl
              refine pure_ (i := 8) (N := some 80) (v := ?_) (a' := ?_) #[true, true, true, false, true, true, true, false, true, false, false, false, false, false, false, false, false] rfl rfl (any_of HT_.out (by kernel_rfl)) (fun _ _ _ h => h) (Or.inl ⟨by rfl, ?_⟩) ?_ ?_
              rotate_left
              ·intro w'
               go_simp
               with_reducible rfl
              rotate_left
              ·simp only [Act.put, List.setIfInBounds_toArray, List.set_cons_zero, List.set_cons_succ, i64_w, i32_w]
               rfl
              refine pure_ (i := 10) (N := some 82) (v := ?_) (a' := ?_) #[true, true, true, false, true, true, true, false, true, false, true, false, false, false, false, false, false] rfl rfl (any_of HT_.out (by kernel_rfl)) (fun _ _ _ h => h) (Or.inl ⟨by rfl, ?_⟩) ?_ ?_
              rotate_left
              ·intro w'
               go_simp
               with_reducible rfl
              rotate_left
              ·simp only [Act.put, List.setIfInBounds_toArray, List.set_cons_zero, List.set_cons_succ, i64_w, i32_w]
               rfl
              refine take_ (i := 3) (N := some 75) (v := ?_) (a' := ?_) #[true, true, true, true, true, true, true, false, true, false, true, false, false, false, false, false, false] rfl rfl (take_ofW HT_.out HW_.out (by kernel_rfl)) (fun _ _ _ h => h) (Or.inl ⟨by rfl, ?_⟩) hHeld ?_ ?_
              rotate_left
              ·rintro w' ⟨s0, s1, s2, s3⟩
               go_simp
               with_reducible rfl
              rotate_left
              ·simp only [Act.put, List.setIfInBounds_toArray, List.set_cons_zero, List.set_cons_succ, i64_w, i32_w]
               rfl
              refine take_ (i := 7) (N := some 79) (v := ?_) (a' := ?_) #[true, true, true, true, true, true, true, true, true, false, true, false, false, false, false, false, false] rfl rfl (take_ofW HT_.out HW_.out (by kernel_rfl)) (fun _ _ _ h => h) (Or.inl ⟨by rfl, ?_⟩) hHeld ?_ ?_
              rotate_left
              ·rintro w' ⟨s0, s1, s2, s3⟩
               go_simp
               with_reducible rfl
              rotate_left
              ·simp only [Act.put, List.setIfInBounds_toArray, List.set_cons_zero, List.set_cons_succ, i64_w, i32_w]
               rfl
              refine take_ (i := 9) (N := some 81) (v := ?_) (a' := ?_) #[true, true, true, true, true, true, true, true, true, true, true, false, false, false, false, false, false] rfl rfl (take_ofW HT_.out HW_.out (by kernel_rfl)) (fun _ _ _ h => h) (Or.inl ⟨by rfl, ?_⟩) hHeld ?_ ?_
              rotate_left
              ·rintro w' ⟨s0, s1, s2, s3⟩
               go_simp
               with_reducible rfl
              rotate_left
              ·simp only [Act.put, List.setIfInBounds_toArray, List.set_cons_zero, List.set_cons_succ, i64_w, i32_w]
               rfl
              refine take_ (i := 11) (N := some 83) (v := ?_) (a' := ?_) #[true, true, true, true, true, true, true, true, true, true, true, true, false, false, false, false, false] rfl rfl (take_ofW HT_.out HW_.out (by kernel_rfl)) (fun _ _ _ h => h) (Or.inl ⟨by rfl, ?_⟩) hHeld ?_ ?_
              rotate_left
              ·rintro w' ⟨s0, s1, s2, s3⟩
               go_simp
               with_reducible rfl
              rotate_left
              ·simp only [Act.put, List.setIfInBounds_toArray, List.set_cons_zero, List.set_cons_succ, i64_w, i32_w]
               rfl
              refine pure_ (i := 12) (N := some 84) (v := ?_) (a' := ?_) #[true, true, true, true, true, true, true, true, true, true, true, true, true, false, false, false, false] rfl rfl (any_of HT_.out (by kernel_rfl)) (fun _ _ _ h => h) (Or.inl ⟨by rfl, ?_⟩) ?_ ?_
              rotate_left
              ·intro w'
               go_simp
               with_reducible rfl
              rotate_left
              ·simp only [Act.put, List.setIfInBounds_toArray, List.set_cons_zero, List.set_cons_succ, i64_w, i32_w]
               rfl
              refine pure_ (i := 13) (N := some 85) (v := ?_) (a' := ?_) #[true, true, true, true, true, true, true, true, true, true, true, true, true, true, false, false, false] rfl rfl (any_of HT_.out (by kernel_rfl)) (fun _ _ _ h => h) (Or.inl ⟨by rfl, ?_⟩) ?_ ?_
              rotate_left
              ·intro w'
               go_simp
               with_reducible rfl
              rotate_left
              ·simp only [Act.put, List.setIfInBounds_toArray, List.set_cons_zero, List.set_cons_succ, i64_w, i32_w]
               rfl
              refine pure_ (i := 14) (N := some 86) (v := ?_) (a' := ?_) #[true, true, true, true, true, true, true, true, true, true, true, true, true, true, true, false, false] rfl rfl (any_of HT_.out (by kernel_rfl)) (fun _ _ _ h => h) (Or.inl ⟨by rfl, ?_⟩) ?_ ?_
              rotate_left
              ·intro w'
               go_simp
               with_reducible rfl
              rotate_left
              ·simp only [Act.put, List.setIfInBounds_toArray, List.set_cons_zero, List.set_cons_succ, i64_w, i32_w]
               rfl
              refine pure_ (i := 15) (N := some 87) (v := ?_) (a' := ?_) #[true, true, true, true, true, true, true, true, true, true, true, true, true, true, true, true, false] rfl rfl (any_of HT_.out (by kernel_rfl)) (fun _ _ _ h => h) (Or.inl ⟨by rfl, ?_⟩) ?_ ?_
              rotate_left
              ·intro w'
               go_simp
               with_reducible rfl
              rotate_left
              ·simp only [Act.put, List.setIfInBounds_toArray, List.set_cons_zero, List.set_cons_succ, i64_w, i32_w]
               rfl
              refine last_ (i := 16) (N := none) #[true, true, true, true, true, true, true, true, true, true, true, true, true, true, true, true, true] rfl rfl (one_of HT_.out (by kernel_rfl)) (by decide) (fun K hK => ?_)
              refine skip_ (w1 := ?_) (by rfl) rfl ?_ ?_
              rotate_left
              ·go_simp
               rfl
              refine hK.out _ _ ?_
              clear hK K
              refine done_ (done_of HT_.out (by kernel_rfl)) ?_
              try go_wp2
              have n0_ : Aside0 (Kd.R (Kd.int .i64) 3 (w44.setCell ⟨go34, (x39_1 : Int).toNat, none⟩ (.int .i64 (wrap64 ((rd x21_1 x39_1) + (wrap64 ((rd l5 x39_1) * (wrap64 (a3_1 - a3_0)))))))) w.heap.size (fun k_ => some k_ ≠ (.slice (some ⟨go34, 0, none⟩) x21_1.length co45 : Value).ownBlock) (.slice (some ⟨go27, 0, none⟩) x20_1.length co38) y115) := ⟨by (with_reducible repeat (first | apply Kd.R_alloc | apply Kd.R_drewN | apply Kd.R_drew)); exact Kd.R_mono (Kd.R_far (p := ⟨go34, (x39_1 : Int).toNat, none⟩) (Kd.R_mono HO_20.out (fun k_ hk => (⟨hk, fun e_ => hk (by rw [e_]; rfl)⟩ : _ ∧ k_ ≠ go34))) (fun _ hk => hk.2) (.int .i64 (wrap64 ((rd x21_1 x39_1) + (wrap64 ((rd l5 x39_1) * (wrap64 (a3_1 - a3_0)))))))) (fun _ hk => hk.1)⟩
              have n1_ : Aside0 (Kd.R (Kd.int .i64) 3 (w44.setCell ⟨go34, (x39_1 : Int).toNat, none⟩ (.int .i64 (wrap64 ((rd x21_1 x39_1) + (wrap64 ((rd l5 x39_1) * (wrap64 (a3_1 - a3_0)))))))) w.heap.size (fun k_ => some k_ ≠ (.slice (some ⟨go27, 0, none⟩) x20_1.length co38 : Value).ownBlock) (.slice (some ⟨go34, 0, none⟩) x21_1.length co45) y118) := ⟨by (with_reducible repeat (first | apply Kd.R_alloc | apply Kd.R_drewN | apply Kd.R_drew)); exact HQ46.out⟩
              have n2_ : Aside0 ((w44.setCell ⟨go34, (x39_1 : Int).toNat, none⟩ (.int .i64 (wrap64 ((rd x21_1 x39_1) + (wrap64 ((rd l5 x39_1) * (wrap64 (a3_1 - a3_0)))))))).heap[gb101]? = some (.cells #[.int .i64 a2_0, .int .i64 a2_1] 26 (0, 0))) := ⟨by (with_reducible repeat (first | refine blk_drewN ?_ _ | refine blk_drew ?_ | refine blk_alloc ?_ _)); refine blk_far ?_ (by have h_ := Kd.R_ne HO_21.out BK101.out (by decide); intro e_; exact h_ (by rw [e_]; rfl)) _; (with_reducible repeat (first | refine blk_drewN ?_ _ | refine blk_drew ?_ | refine blk_alloc ?_ _)); exact BK101.out⟩
              have n3_ : Aside0 ((w44.setCell ⟨go34, (x39_1 : Int).toNat, none⟩ (.int .i64 (wrap64 ((rd x21_1 x39_1) + (wrap64 ((rd l5 x39_1) * (wrap64 (a3_1 - a3_0)))))))).heap[gb102]? = some (.cells #[.int .i64 a3_0, .int .i64 a3_1] 26 (0, 0))) := ⟨by (with_reducible repeat (first | refine blk_drewN ?_ _ | refine blk_drew ?_ | refine blk_alloc ?_ _)); refine blk_far ?_ (by have h_ := Kd.R_ne HO_21.out BK102.out (by decide); intro e_; exact h_ (by rw [e_]; rfl)) _; (with_reducible repeat (first | refine blk_drewN ?_ _ | refine blk_drew ?_ | refine blk_alloc ?_ _)); exact BK102.out⟩
              have n4_ : Aside0 ((w44.setCell ⟨go34, (x39_1 : Int).toNat, none⟩ (.int .i64 (wrap64 ((rd x21_1 x39_1) + (wrap64 ((rd l5 x39_1) * (wrap64 (a3_1 - a3_0)))))))).heap[gb103]? = some (.cells #[.int .i64 a9_0] 3 (0, 0))) := ⟨by (with_reducible repeat (first | refine blk_drewN ?_ _ | refine blk_drew ?_ | refine blk_alloc ?_ _)); refine blk_far ?_ (by have h_ := gb_ne HO_21.out L103.out; intro e_; exact h_ (by rw [e_]; rfl)) _; (with_reducible repeat (first | refine blk_drewN ?_ _ | refine blk_drew ?_ | refine blk_alloc ?_ _)); exact BK103.out⟩
              have n5_ : Aside0 (GB gb103 w (w44.setCell ⟨go34, (x39_1 : Int).toNat, none⟩ (.int .i64 (wrap64 ((rd x21_1 x39_1) + (wrap64 ((rd l5 x39_1) * (wrap64 (a3_1 - a3_0))))))))) := ⟨by repeat (first | (with_reducible first | exact HB.out | apply gb_alloc | apply gb_drewN | apply gb_drew1 | refine gb_set ?_ GB34.out | refine gb_set ?_ GE101.out | refine gb_set ?_ GE102.out | refine gb_put ?_) | exact HB.out)⟩
              (try clear HO_20)
              (try clear HO_21)
              (try clear BK101)
              (try clear BK102)
              (try clear BK103)
              (try clear HB)
              generalize (w44.setCell ⟨go34, (x39_1 : Int).toNat, none⟩ (.int .i64 (wrap64 ((rd x21_1 x39_1) + (wrap64 ((rd l5 x39_1) * (wrap64 (a3_1 - a3_0)))))))) = w47 at n0_ n1_ n2_ n3_ n4_ n5_ ⊢
              have HO_20 := n0_
              have HO_21 := n1_
              have BK101 := n2_
              have BK102 := n3_
              have BK103 := n4_
              have HB := n5_
              clear n0_ n1_ n2_ n3_ n4_ n5_
              have n0_ := Aside0.mk (Kd.R_drew HO_20.out)
              have n1_ := Aside0.mk (Kd.R_drew HO_21.out)
              have n2_ := Aside0.mk (blk_drew BK101.out)
              have n3_ := Aside0.mk (blk_drew BK102.out)
              have n4_ := Aside0.mk (blk_drew BK103.out)
              have n5_ := Aside0.mk (gb_drew1 HB.out)
              clear HO_20
              clear HO_21
              clear BK101
              clear BK102
              clear BK103
              clear HB
              have HO_20 := n0_
              have HO_21 := n1_
              have BK101 := n2_
              have BK102 := n3_
              have BK103 := n4_
              have HB := n5_
              clear n0_ n1_ n2_ n3_ n4_ n5_
              have p119 : 0 ≤ ((ji28) : Int) := of_decide_eq_true (by first | (with_reducible assumption) | assumption)
              have q119 : (ji28) < (y118.length : Int) := (by have h_ : ((ji28) : Int) < ((x21_1.length : Int) : Int) := of_decide_eq_true (by first | (with_reducible assumption) | assumption); first | (have e_ := (Kd.R_reads' HO_21.out).1; omega) | simpa only [Ny118.out, List.length_set] using h_)
              have ql119 : (((ji28) : Int) < ((x21_1.length : Int) : Int)) = True := eq_true (of_decide_eq_true (by first | (with_reducible assumption) | assumption))
              obtain ⟨ad119, e119, hx119_0⟩ := Kd.at_int (Kd.R_reads' HO_21.out).2.2 (ji28) p119 q119
              obtain rfl : (⟨go34, 0, none⟩ : Addr) = ad119 := (by injection e119)
              (first | simp only [add_plain] at hx119_0 | simp only [add_at] at hx119_0 | simp only [Addr.add, Nat.zero_add] at hx119_0 | skip)
              replace p119 := eq_true p119
              replace q119 := eq_true q119
              have p120 : 0 ≤ (x39_1 : Int) := of_decide_eq_true (by first | (with_reducible assumption) | assumption)
              have q120 : x39_1 < (l5.length : Int) := of_decide_eq_true (by first | (with_reducible assumption) | assumption)
              obtain ⟨ad120, e120, hx120_0⟩ := Kd.at_int HR5.out x39_1 p120 q120
              have hw120_0 := hx120_0
              obtain rfl : ad117 = ad120 := (by injection e120)
              replace hx120_0 := gb_cell HB.out hx120_0 (NX5.out _ (by first | rfl | assumption))
              replace p120 := eq_true p120
              replace q120 := eq_true q120
              have p36 : 0 ≤ ((ji28) : Int) := of_decide_eq_true (by first | (with_reducible assumption) | assumption)
              have q36 : ((ji28) : Int) < ((x21_1.length : Int) : Int) := of_decide_eq_true (by first | (with_reducible assumption) | assumption)
              obtain ⟨hx36_0, hf36_0⟩ := Kd.R_celln 0 HO_21.out ((ji28) : Int) p36 q36
              replace p36 := eq_true p36
              replace q36 := eq_true q36
              have HP49 := Kd.R_putn HO_21.out ((ji28) : Int) (wrap64 ((rd y118 (ji28)) + (wrap64 ((rd l5 x39_1) * a3_0))))
              rw [← Ny121.out] at HP49
              have HQ49 := Aside0.mk HP49
              clear HP49
              refine start_ (n := 15) (S := fun w' => w'.cell? ⟨gb102, 0, none⟩ = some (.int .i64 a3_0) ∧ w'.cell? ⟨gb102, 1, none⟩ = some (.int .i64 a3_1) ∧ w'.cell? ⟨go34, ((ji28)).toNat, none⟩ = some (.int .i64 (rd y118 (ji28))) ∧ w'.cell? (ad117.add (x39_1).toNat) = some (.int .i64 (rd l5 x39_1))) (ds := [14]) #[false, false, false, false, false, false, false, false, false, false, false, false, false, false, false] (by kernel_rfl) rfl rfl ⟨(blk_cell BK102.out 0).trans rfl, (blk_cell BK102.out 1).trans rfl, hx119_0, (gb_cell HB.out hw120_0 (NX5.out _ (by first | rfl | assumption)))⟩ (fun hHeld => ?_); refine with_tabW comfitref02_wise.tab8 comfitref02_wise.bits8 (fun HT_ HW_ => ?_)
              generalize w47.drew = w48 at HO_20 HO_21 BK101 BK102 BK103 HB HQ46 HQ49 hf36_0 hx119_0 hx120_0 hx36_0 hHeld ⊢
              refine pure_ (i := 0) (N := some 88) (v := ?_) (a' := ?_) #[true, false, false, false, false, false, false, false, false, false, false, false, false, false, false] rfl rfl (any_of HT_.out (by kernel_rfl)) (fun _ _ _ h => h) (Or.inl ⟨by rfl, ?_⟩) ?_ ?_
              rotate_left
              ·intro w'
               go_simp
               with_reducible rfl
              rotate_left
              ·simp only [Act.put, List.setIfInBounds_toArray, List.set_cons_zero, List.set_cons_succ, i64_w, i32_w]
               rfl
              refine pure_ (i := 1) (N := some 89) (v := ?_) (a' := ?_) #[true, true, false, false, false, false, false, false, false, false, false, false, false, false, false] rfl rfl (any_of HT_.out (by kernel_rfl)) (fun _ _ _ h => h) (Or.inl ⟨by rfl, ?_⟩) ?_ ?_
              rotate_left
              ·intro w'
               go_simp
               with_reducible rfl
              rotate_left
              ·simp only [Act.put, List.setIfInBounds_toArray, List.set_cons_zero, List.set_cons_succ, i64_w, i32_w]
               rfl
              refine pure_ (i := 2) (N := some 90) (v := ?_) (a' := ?_) #[true, true, true, false, false, false, false, false, false, false, false, false, false, false, false] rfl rfl (any_of HT_.out (by kernel_rfl)) (fun _ _ _ h => h) (Or.inl ⟨by rfl, ?_⟩) ?_ ?_
              rotate_left
              ·intro w'
               go_simp
               with_reducible rfl
              rotate_left
              ·simp only [Act.put, List.setIfInBounds_toArray, List.set_cons_zero, List.set_cons_succ, i64_w, i32_w]
               rfl
              refine pure_ (i := 3) (N := some 91) (v := ?_) (a' := ?_) #[true, true, true, true, false, false, false, false, false, false, false, false, false, false, false] rfl rfl (any_of HT_.out (by kernel_rfl)) (fun _ _ _ h => h) (Or.inl ⟨by rfl, ?_⟩) ?_ ?_
              rotate_left
              ·intro w'
               go_simp
               with_reducible rfl
              rotate_left
              ·simp only [Act.put, List.setIfInBounds_toArray, List.set_cons_zero, List.set_cons_succ, i64_w, i32_w]
               rfl
              refine pure_ (i := 5) (N := some 93) (v := ?_) (a' := ?_) #[true, true, true, true, false, true, false, false, false, false, false, false, false, false, false] rfl rfl (any_of HT_.out (by kernel_rfl)) (fun _ _ _ h => h) (Or.inl ⟨by rfl, ?_⟩) ?_ ?_
              rotate_left
              ·intro w'
               go_simp
               with_reducible rfl
              rotate_left
              ·simp only [Act.put, List.setIfInBounds_toArray, List.set_cons_zero, List.set_cons_succ, i64_w, i32_w]
               rfl
              refine pure_ (i := 6) (N := some 94) (v := ?_) (a' := ?_) #[true, true, true, true, false, true, true, false, false, false, false, false, false, false, false] rfl rfl (any_of HT_.out (by kernel_rfl)) (fun _ _ _ h => h) (Or.inl ⟨by rfl, ?_⟩) ?_ ?_
              rotate_left
              ·intro w'
               go_simp
               with_reducible rfl
              rotate_left
              ·simp only [Act.put, List.setIfInBounds_toArray, List.set_cons_zero, List.set_cons_succ, i64_w, i32_w]
               rfl
              refine pure_ (i := 7) (N := some 95) (v := ?_) (a' := ?_) #[true, true, true, true, false, true, true, true, false, false, false, false, false, false, false] rfl rfl (any_of HT_.out (by kernel_rfl)) (fun _ _ _ h => h) (Or.inl ⟨by rfl, ?_⟩) ?_ ?_
              rotate_left
              ·intro w'
               go_simp
               with_reducible rfl
              rotate_left
              ·simp only [Act.put, List.setIfInBounds_toArray, List.set_cons_zero, List.set_cons_succ, i64_w, i32_w]
               rfl
              refine pure_ (i := 9) (N := some 97) (v := ?_) (a' := ?_) #[true, true, true, true, false, true, true, true, false, true, false, false, false, false, false] rfl rfl (any_of HT_.out (by kernel_rfl)) (fun _ _ _ h => h) (Or.inl ⟨by rfl, ?_⟩) ?_ ?_
              rotate_left
              ·intro w'
               go_simp
               with_reducible rfl
              rotate_left
              ·simp only [Act.put, List.setIfInBounds_toArray, List.set_cons_zero, List.set_cons_succ, i64_w, i32_w]
               rfl
              refine take_ (i := 4) (N := some 92) (v := ?_) (a' := ?_) #[true, true, true, true, true, true, true, true, false, true, false, false, false, false, false] rfl rfl (take_ofW HT_.out HW_.out (by kernel_rfl)) (fun _ _ _ h => h) (Or.inl ⟨by rfl, ?_⟩) hHeld ?_ ?_
              rotate_left
              ·rintro w' ⟨s0, s1, s2, s3⟩
               go_simp
               with_reducible rfl
              rotate_left
              ·simp only [Act.put, List.setIfInBounds_toArray, List.set_cons_zero, List.set_cons_succ, i64_w, i32_w]
               rfl
              refine take_ (i := 8) (N := some 96) (v := ?_) (a' := ?_) #[true, true, true, true, true, true, true, true, true, true, false, false, false, false, false] rfl rfl (take_ofW HT_.out HW_.out (by kernel_rfl)) (fun _ _ _ h => h) (Or.inl ⟨by rfl, ?_⟩) hHeld ?_ ?_
              rotate_left
              ·rintro w' ⟨s0, s1, s2, s3⟩
               go_simp
               with_reducible rfl
              rotate_left
              ·simp only [Act.put, List.setIfInBounds_toArray, List.set_cons_zero, List.set_cons_succ, i64_w, i32_w]
               rfl
              refine take_ (i := 10) (N := some 98) (v := ?_) (a' := ?_) #[true, true, true, true, true, true, true, true, true, true, true, false, false, false, false] rfl rfl (take_ofW HT_.out HW_.out (by kernel_rfl)) (fun _ _ _ h => h) (Or.inl ⟨by rfl, ?_⟩) hHeld ?_ ?_
              rotate_left
              ·rintro w' ⟨s0, s1, s2, s3⟩
               go_simp
               with_reducible rfl
              rotate_left
              ·simp only [Act.put, List.setIfInBounds_toArray, List.set_cons_zero, List.set_cons_succ, i64_w, i32_w]
               rfl
              refine pure_ (i := 11) (N := some 99) (v := ?_) (a' := ?_) #[true, true, true, true, true, true, true, true, true, true, true, true, false, false, false] rfl rfl (any_of HT_.out (by kernel_rfl)) (fun _ _ _ h => h) (Or.inl ⟨by rfl, ?_⟩) ?_ ?_
              rotate_left
              ·intro w'
               go_simp
               with_reducible rfl
              rotate_left
              ·simp only [Act.put, List.setIfInBounds_toArray, List.set_cons_zero, List.set_cons_succ, i64_w, i32_w]
               rfl
              refine pure_ (i := 12) (N := some 100) (v := ?_) (a' := ?_) #[true, true, true, true, true, true, true, true, true, true, true, true, true, false, false] rfl rfl (any_of HT_.out (by kernel_rfl)) (fun _ _ _ h => h) (Or.inl ⟨by rfl, ?_⟩) ?_ ?_
              rotate_left
              ·intro w'
               go_simp
               with_reducible rfl
              rotate_left
              ·simp only [Act.put, List.setIfInBounds_toArray, List.set_cons_zero, List.set_cons_succ, i64_w, i32_w]
               rfl
              refine pure_ (i := 13) (N := some 101) (v := ?_) (a' := ?_) #[true, true, true, true, true, true, true, true, true, true, true, true, true, true, false] rfl rfl (any_of HT_.out (by kernel_rfl)) (fun _ _ _ h => h) (Or.inl ⟨by rfl, ?_⟩) ?_ ?_
              rotate_left
              ·intro w'
               go_simp
               with_reducible rfl
              rotate_left
              ·simp only [Act.put, List.setIfInBounds_toArray, List.set_cons_zero, List.set_cons_succ, i64_w, i32_w]
               rfl
              refine last_ (i := 14) (N := none) #[true, true, true, true, true, true, true, true, true, true, true, true, true, true, true] rfl rfl (one_of HT_.out (by kernel_rfl)) (by decide) (fun K hK => ?_)
              refine skip_ (w1 := ?_) (by rfl) rfl ?_ ?_
              rotate_left
              ·go_simp
               rfl
              refine hK.out _ _ ?_
              clear hK K
              refine done_ (done_of HT_.out (by kernel_rfl)) ?_
              try go_wp2
              go_roundg k1
              case measure => have := HK1.out; omega
              case rel => exact ⟨(y115), (y121), (ji28), (by first | rfl | (simp; done) | (simp only [← hji28] <;> (first | rfl | simp)) | (simp [*]; done)), H', ⟨by have := HK1.out; omega⟩, ⟨by (with_reducible repeat (first | apply Kd.R_alloc | apply Kd.R_drewN | apply Kd.R_drew)); exact Kd.R_mono (Kd.R_far (p := ⟨go34, ((ji28) : Int).toNat, none⟩) (Kd.R_mono HO_20.out (fun k_ hk => (⟨hk, fun e_ => hk (by rw [e_]; rfl)⟩ : _ ∧ k_ ≠ go34))) (fun _ hk => hk.2) (.int .i64 (wrap64 ((rd y118 (ji28)) + (wrap64 ((rd l5 x39_1) * a3_0)))))) (fun _ hk => hk.1)⟩, ⟨by (with_reducible repeat (first | apply Kd.R_alloc | apply Kd.R_drewN | apply Kd.R_drew)); exact HQ49.out⟩, ⟨by (with_reducible repeat (first | refine blk_drewN ?_ _ | refine blk_drew ?_ | refine blk_alloc ?_ _)); refine blk_far ?_ (by have h_ := Kd.R_ne HO_21.out BK101.out (by decide); intro e_; exact h_ (by rw [e_]; rfl)) _; (with_reducible repeat (first | refine blk_drewN ?_ _ | refine blk_drew ?_ | refine blk_alloc ?_ _)); exact BK101.out⟩, ⟨by (with_reducible repeat (first | refine blk_drewN ?_ _ | refine blk_drew ?_ | refine blk_alloc ?_ _)); refine blk_far ?_ (by have h_ := Kd.R_ne HO_21.out BK102.out (by decide); intro e_; exact h_ (by rw [e_]; rfl)) _; (with_reducible repeat (first | refine blk_drewN ?_ _ | refine blk_drew ?_ | refine blk_alloc ?_ _)); exact BK102.out⟩, ⟨by (with_reducible repeat (first | refine blk_drewN ?_ _ | refine blk_drew ?_ | refine blk_alloc ?_ _)); refine blk_far ?_ (by have h_ := gb_ne HO_21.out L103.out; intro e_; exact h_ (by rw [e_]; rfl)) _; (with_reducible repeat (first | refine blk_drewN ?_ _ | refine blk_drew ?_ | refine blk_alloc ?_ _)); exact BK103.out⟩, ⟨by repeat (first | (with_reducible first | exact HB.out | apply gb_alloc | apply gb_drewN | apply gb_drew1 | refine gb_set ?_ GB34.out | refine gb_set ?_ GE101.out | refine gb_set ?_ GE102.out | refine gb_put ?_) | exact HB.out)⟩⟩
             ·rw [if_neg c35] at H
              exact absurd H (by simp)
            ·rw [if_neg c33] at H
             exact absurd H (by simp)
           ·rw [if_neg c32] at H
            exact absurd H (by simp)
          ·rw [if_neg c30] at H
           exact absurd H (by simp)
         ·rw [if_neg c29] at H
          exact absurd H (by simp)
        ·rw [if_neg c26] at H
         exact absurd H (by simp)
       ·rw [if_neg c25] at H
        exact absurd H (by simp)
      ·rw [if_neg c24] at H
       exact absurd H (by simp)
     ·rw [if_neg c23] at H
      have c23b0 : decide (x39_1 < a1) = false := decide_eq_false c23
      clear c23
      replace H := Option.bind_eq_some_iff.mp H
      obtain ⟨t122, A500, H⟩ := H
      replace H : ((comfitref02_power.f k1 a3_1 (wrap64 (a0 - a1))).bind fun t123 => (comfitref02_wise.l1 k1 a0 a1 l4 l5 a6 a7 a8 x20_1 x21_1 t122 t123 a1 0 a2_0 a2_1 a3_0 a3_1 a9_0 a9_1)) = some r := H
      have A50 := Aside0.mk A500
      clear A500
      replace H := Option.bind_eq_some_iff.mp H
      obtain ⟨t123, A510, H⟩ := H
      replace H : (comfitref02_wise.l1 k1 a0 a1 l4 l5 a6 a7 a8 x20_1 x21_1 t122 t123 a1 0 a2_0 a2_1 a3_0 a3_1 a9_0 a9_1) = some r := H
      have A51 := Aside0.mk A510
      clear A510
      have H' := Aside0.mk H
      clear H
      try go_wp2
      have n0_ := Aside0.mk (Kd.R_drew HO_20.out)
      have n1_ := Aside0.mk (Kd.R_drew HO_21.out)
      have n2_ := Aside0.mk (blk_drew BK101.out)
      have n3_ := Aside0.mk (blk_drew BK102.out)
      have n4_ := Aside0.mk (blk_drew BK103.out)
      have n5_ := Aside0.mk (gb_drew1 HB.out)
      clear HO_20
      clear HO_21
      clear BK101
      clear BK102
      clear BK103
      clear HB
      have HO_20 := n0_
      have HO_21 := n1_
      have BK101 := n2_
      have BK102 := n3_
      have BK103 := n4_
      have HB := n5_
      clear n0_ n1_ n2_ n3_ n4_ n5_
      refine start_ (n := 14) (S := fun w' => w'.cell? ⟨gb101, 0, none⟩ = some (.int .i64 a2_0) ∧ w'.cell? ⟨gb101, 1, none⟩ = some (.int .i64 a2_1) ∧ w'.cell? ⟨gb102, 0, none⟩ = some (.int .i64 a3_0) ∧ w'.cell? ⟨gb102, 1, none⟩ = some (.int .i64 a3_1)) (ds := []) #[false, false, false, false, false, false, false, false, false, false, false, false, false, false] (by kernel_rfl) rfl rfl ⟨(blk_cell BK101.out 0).trans rfl, (blk_cell BK101.out 1).trans rfl, (blk_cell BK102.out 0).trans rfl, (blk_cell BK102.out 1).trans rfl⟩ (fun hHeld => ?_); refine with_tabW comfitref02_wise.tab10 comfitref02_wise.bits10 (fun HT_ HW_ => ?_)
      generalize wr.drew = w52 at HO_20 HO_21 BK101 BK102 BK103 HB hHeld ⊢
      refine pure_ (i := 0) (N := some 103) (v := ?_) (a' := ?_) #[true, false, false, false, false, false, false, false, false, false, false, false, false, false] rfl rfl (any_of HT_.out (by kernel_rfl)) (fun _ _ _ h => h) (Or.inl ⟨by rfl, ?_⟩) ?_ ?_
      rotate_left
      ·intro w'
       go_simp
       with_reducible rfl
      rotate_left
      ·simp only [Act.put, List.setIfInBounds_toArray, List.set_cons_zero, List.set_cons_succ, i64_w, i32_w]
       rfl
      refine pure_ (i := 2) (N := some 105) (v := ?_) (a' := ?_) #[true, false, true, false, false, false, false, false, false, false, false, false, false, false] rfl rfl (any_of HT_.out (by kernel_rfl)) (fun _ _ _ h => h) (Or.inl ⟨by rfl, ?_⟩) ?_ ?_
      rotate_left
      ·intro w'
       go_simp
       with_reducible rfl
      rotate_left
      ·simp only [Act.put, List.setIfInBounds_toArray, List.set_cons_zero, List.set_cons_succ, i64_w, i32_w]
       rfl
      refine pure_ (i := 3) (N := some 106) (v := ?_) (a' := ?_) #[true, false, true, true, false, false, false, false, false, false, false, false, false, false] rfl rfl (any_of HT_.out (by kernel_rfl)) (fun _ _ _ h => h) (Or.inl ⟨by rfl, ?_⟩) ?_ ?_
      rotate_left
      ·intro w'
       go_simp
       with_reducible rfl
      rotate_left
      ·simp only [Act.put, List.setIfInBounds_toArray, List.set_cons_zero, List.set_cons_succ, i64_w, i32_w]
       rfl
      refine pure_ (i := 4) (N := some 107) (v := ?_) (a' := ?_) #[true, false, true, true, true, false, false, false, false, false, false, false, false, false] rfl rfl (any_of HT_.out (by kernel_rfl)) (fun _ _ _ h => h) (Or.inl ⟨by rfl, ?_⟩) ?_ ?_
      rotate_left
      ·intro w'
       go_simp
       with_reducible rfl
      rotate_left
      ·simp only [Act.put, List.setIfInBounds_toArray, List.set_cons_zero, List.set_cons_succ, i64_w, i32_w]
       rfl
      refine pure_ (i := 6) (N := some 109) (v := ?_) (a' := ?_) #[true, false, true, true, true, false, true, false, false, false, false, false, false, false] rfl rfl (any_of HT_.out (by kernel_rfl)) (fun _ _ _ h => h) (Or.inl ⟨by rfl, ?_⟩) ?_ ?_
      rotate_left
      ·intro w'
       go_simp
       with_reducible rfl
      rotate_left
      ·simp only [Act.put, List.setIfInBounds_toArray, List.set_cons_zero, List.set_cons_succ, i64_w, i32_w]
       rfl
      refine pure_ (i := 8) (N := some 111) (v := ?_) (a' := ?_) #[true, false, true, true, true, false, true, false, true, false, false, false, false, false] rfl rfl (any_of HT_.out (by kernel_rfl)) (fun _ _ _ h => h) (Or.inl ⟨by rfl, ?_⟩) ?_ ?_
      rotate_left
      ·intro w'
       go_simp
       with_reducible rfl
      rotate_left
      ·simp only [Act.put, List.setIfInBounds_toArray, List.set_cons_zero, List.set_cons_succ, i64_w, i32_w]
       rfl
      refine pure_ (i := 9) (N := some 112) (v := ?_) (a' := ?_) #[true, false, true, true, true, false, true, false, true, true, false, false, false, false] rfl rfl (any_of HT_.out (by kernel_rfl)) (fun _ _ _ h => h) (Or.inl ⟨by rfl, ?_⟩) ?_ ?_
      rotate_left
      ·intro w'
       go_simp
       with_reducible rfl
      rotate_left
      ·simp only [Act.put, List.setIfInBounds_toArray, List.set_cons_zero, List.set_cons_succ, i64_w, i32_w]
       rfl
      refine pure_ (i := 10) (N := some 113) (v := ?_) (a' := ?_) #[true, false, true, true, true, false, true, false, true, true, true, false, false, false] rfl rfl (any_of HT_.out (by kernel_rfl)) (fun _ _ _ h => h) (Or.inl ⟨by rfl, ?_⟩) ?_ ?_
      rotate_left
      ·intro w'
       go_simp
       with_reducible rfl
      rotate_left
      ·simp only [Act.put, List.setIfInBounds_toArray, List.set_cons_zero, List.set_cons_succ, i64_w, i32_w]
       rfl
      refine take_ (i := 1) (N := some 104) (v := ?_) (a' := ?_) #[true, true, true, true, true, false, true, false, true, true, true, false, false, false] rfl rfl (take_ofW HT_.out HW_.out (by kernel_rfl)) (fun _ _ _ h => h) (Or.inl ⟨by rfl, ?_⟩) hHeld ?_ ?_
      rotate_left
      ·rintro w' ⟨s0, s1, s2, s3⟩
       go_simp
       with_reducible rfl
      rotate_left
      ·simp only [Act.put, List.setIfInBounds_toArray, List.set_cons_zero, List.set_cons_succ, i64_w, i32_w]
       rfl
      refine take_ (i := 7) (N := some 110) (v := ?_) (a' := ?_) #[true, true, true, true, true, false, true, true, true, true, true, false, false, false] rfl rfl (take_ofW HT_.out HW_.out (by kernel_rfl)) (fun _ _ _ h => h) (Or.inl ⟨by rfl, ?_⟩) hHeld ?_ ?_
      rotate_left
      ·rintro w' ⟨s0, s1, s2, s3⟩
       go_simp
       with_reducible rfl
      rotate_left
      ·simp only [Act.put, List.setIfInBounds_toArray, List.set_cons_zero, List.set_cons_succ, i64_w, i32_w]
       rfl
      refine one_ (i := 5) (N := some 108) #[true, true, true, true, true, true, true, true, true, true, true, false, false, false] rfl rfl (one_of HT_.out (by kernel_rfl)) (by decide) (fun K hK => ?_)
      refine goes_ Try.func61 (by kernel_rfl) rfl #[.int .i64 a2_1, .int .i64 (wrap64 (a0 - a1))] (by rfl) rfl rfl al_ ?_
      with_reducible refine (comfitref02_power.calls k1 a2_1 (wrap64 (a0 - a1)) t122 _ A50.out).mono ?_
      rintro e w' ⟨rfl, ⟨nd, rfl⟩⟩
      refine ⟨_, rfl, ?_⟩
      refine hK.out _ _ ⟨(blk_cell BK101.out 0).trans rfl, (blk_cell BK101.out 1).trans rfl, (blk_cell BK102.out 0).trans rfl, (blk_cell BK102.out 1).trans rfl⟩ (fun hHeld => ?_)
      clear hK K
      refine norm_ (a' := ?_) ?_ ?_
      rotate_left
      ·show Act.put _ (some 108) _ = _
       simp only [Act.put, List.setIfInBounds_toArray, List.set_cons_zero, List.set_cons_succ, i64_w, i32_w]
       rfl
      refine one_ (i := 11) (N := some 114) #[true, true, true, true, true, true, true, true, true, true, true, true, false, false] rfl rfl (one_of HT_.out (by kernel_rfl)) (by decide) (fun K hK => ?_)
      refine goes_ Try.func61 (by kernel_rfl) rfl #[.int .i64 a3_1, .int .i64 (wrap64 (a0 - a1))] (by rfl) rfl rfl al_ ?_
      with_reducible refine (comfitref02_power.calls k1 a3_1 (wrap64 (a0 - a1)) t123 _ A51.out).mono ?_
      rintro e w' ⟨rfl, ⟨nd, rfl⟩⟩
      refine ⟨_, rfl, ?_⟩
      refine hK.out _ _ ⟨(blk_cell BK101.out 0).trans rfl, (blk_cell BK101.out 1).trans rfl, (blk_cell BK102.out 0).trans rfl, (blk_cell BK102.out 1).trans rfl⟩ (fun hHeld => ?_)
      clear hK K
      refine norm_ (a' := ?_) ?_ ?_
      rotate_left
      ·show Act.put _ (some 114) _ = _
       simp only [Act.put, List.setIfInBounds_toArray, List.set_cons_zero, List.set_cons_succ, i64_w, i32_w]
       rfl
      refine pure_ (i := 12) (N := some 23) (v := ?_) (a' := ?_) #[true, true, true, true, true, true, true, true, true, true, true, true, true, false] rfl rfl (any_of HT_.out (by kernel_rfl)) (fun _ _ _ h => h) (Or.inl ⟨by rfl, ?_⟩) ?_ ?_
      rotate_left
      ·intro w'
       go_simp
       with_reducible rfl
      rotate_left
      ·simp only [Act.put, List.setIfInBounds_toArray, List.set_cons_zero, List.set_cons_succ, i64_w, i32_w]
       rfl
      refine pure_ (i := 13) (N := some 24) (v := ?_) (a' := ?_) #[true, true, true, true, true, true, true, true, true, true, true, true, true, true] rfl rfl (any_of HT_.out (by kernel_rfl)) (fun _ _ _ h => h) (Or.inl ⟨by rfl, ?_⟩) ?_ ?_
      rotate_left
      ·intro w'
       go_simp
       with_reducible rfl
      rotate_left
      ·simp only [Act.put, List.setIfInBounds_toArray, List.set_cons_zero, List.set_cons_succ, i64_w, i32_w]
       rfl
      refine done_ (done_of HT_.out (by kernel_rfl)) ?_
      try go_wp2
      go_loopg [6, 116] k1 (fun kq v6 v116 w' => ∃ (x6_2 : Int) (x116_2 : Int), v6 = .int .i64 x6_2 ∧ v116 = .int .i64 x116_2 ∧ Aside0 (comfitref02_wise.l1 kq a0 a1 l4 l5 x6_2 a7 a8 x20_1 x21_1 t122 t123 a1 x116_2 a2_0 a2_1 a3_0 a3_1 a9_0 a9_1 = some r) ∧ Aside0 (kq ≤ k1) ∧ Aside0 (Kd.R (Kd.int .i64) 3 w' w.heap.size (fun k_ => some k_ ≠ (v108 : Value).ownBlock) v105 x20_1) ∧ Aside0 (Kd.R (Kd.int .i64) 3 w' w.heap.size (fun k_ => some k_ ≠ (v105 : Value).ownBlock) v108 x21_1) ∧ Aside0 (w'.heap[gb101]? = some (.cells #[.int .i64 a2_0, .int .i64 a2_1] 26 (0, 0))) ∧ Aside0 (w'.heap[gb102]? = some (.cells #[.int .i64 a3_0, .int .i64 a3_1] 26 (0, 0))) ∧ Aside0 (w'.heap[gb103]? = some (.cells #[.int .i64 a9_0] 3 (0, 0))) ∧ Aside0 (GB gb103 w w'))
      case atStart => exact ⟨(a6), (0), (by first | rfl | (simp; done) | (simp [*]; done)), (by first | rfl | (simp; done) | (simp [*]; done)), H', ⟨Nat.le_refl _⟩, ⟨by (with_reducible repeat (first | apply Kd.R_alloc | apply Kd.R_drewN | apply Kd.R_drew)); exact HO_20.out⟩, ⟨by (with_reducible repeat (first | apply Kd.R_alloc | apply Kd.R_drewN | apply Kd.R_drew)); exact HO_21.out⟩, ⟨by (with_reducible repeat (first | refine blk_drewN ?_ _ | refine blk_drew ?_ | refine blk_alloc ?_ _)); exact BK101.out⟩, ⟨by (with_reducible repeat (first | refine blk_drewN ?_ _ | refine blk_drew ?_ | refine blk_alloc ?_ _)); exact BK102.out⟩, ⟨by (with_reducible repeat (first | refine blk_drewN ?_ _ | refine blk_drew ?_ | refine blk_alloc ?_ _)); exact BK103.out⟩, ⟨by repeat (first | (with_reducible first | exact HB.out | apply gb_alloc | apply gb_drewN | apply gb_drew1 | refine gb_set ?_ GE101.out | refine gb_set ?_ GE102.out | refine gb_put ?_) | exact HB.out)⟩⟩
      case round => as_aux_lemma =>
       clear H'
       try clear p1
       try clear q1
       try clear hx1
       try clear c2
       try clear p2
       try clear c3
       try clear p3
       try clear q3
       try clear hx3
       try clear c6
       try clear p6
       try clear p11
       try clear q11
       try clear hx11
       try clear p12
       try clear q12
       try clear hx12
       try clear c23
       try clear c23b0
       try clear c24
       try clear c25
       try clear c26
       try clear c29
       try clear c30
       try clear c32
       try clear c33
       try clear p34
       try clear q34
       try clear hx34
       try clear hf34
       try clear c35
       try clear p36
       try clear q36
       try clear hx36
       try clear hf36
       try clear hx116_0
       try clear hx117_0
       try clear hx119_0
       try clear hx120_0
       try clear hx34_0
       try clear hx36_0
       try clear p116
       try clear p117
       try clear p119
       try clear p120
       try clear p34
       try clear p36
       try clear q116
       try clear q117
       try clear q119
       try clear q120
       try clear q34
       try clear q36
       obtain ⟨x6_2, x116_2, rfl, rfl, HA, HK2, HO_20, HO_21, BK101, BK102, BK103, HB⟩ := hrel
       cases gk with
       | zero => exact absurd HA.out (by simp [comfitref02_wise.l1])
       | succ k2 =>
        have H := HA.out
        clear HA
        simp only [comfitref02_wise.l1] at H
        by_cases c53 : x116_2 < a1
        ·rw [if_pos c53] at H
         have c53b0 : decide (x116_2 < a1) = true := decide_eq_true c53
         clear c53
         by_cases c54 : 0 ≤ x116_2
         ·rw [if_pos c54] at H
          have c54b0 : decide (0 ≤ x116_2) = true := decide_eq_true c54
          clear c54
          by_cases c55 : x116_2 < (l4.length : Int)
          ·rw [if_pos c55] at H
           have c55b0 : decide (x116_2 < (l4.length : Int)) = true := decide_eq_true c55
           clear c55
           by_cases c56 : x116_2 < (l5.length : Int)
           ·rw [if_pos c56] at H
            have c56b0 : decide (x116_2 < (l5.length : Int)) = true := decide_eq_true c56
            clear c56
            have H' := Aside0.mk H
            clear H
            try go_wp2
            have n0_ := Aside0.mk (Kd.R_drew HO_20.out)
            have n1_ := Aside0.mk (Kd.R_drew HO_21.out)
            have n2_ := Aside0.mk (blk_drew BK101.out)
            have n3_ := Aside0.mk (blk_drew BK102.out)
            have n4_ := Aside0.mk (blk_drew BK103.out)
            have n5_ := Aside0.mk (gb_drew1 HB.out)
            clear HO_20
            clear HO_21
            clear BK101
            clear BK102
            clear BK103
            clear HB
            have HO_20 := n0_
            have HO_21 := n1_
            have BK101 := n2_
            have BK102 := n3_
            have BK103 := n4_
            have HB := n5_
            clear n0_ n1_ n2_ n3_ n4_ n5_
            have p124 : 0 ≤ (x116_2 : Int) := of_decide_eq_true (by first | (with_reducible assumption) | assumption)
            have q124 : x116_2 < (l4.length : Int) := of_decide_eq_true (by first | (with_reducible assumption) | assumption)
            obtain ⟨ad124, e124, hx124_0⟩ := Kd.at_int HR4.out x116_2 p124 q124
            have hw124_0 := hx124_0
            cases e124
            replace hx124_0 := gb_cell HB.out hx124_0 (NX4.out _ (by first | rfl | assumption))
            replace p124 := eq_true p124
            replace q124 := eq_true q124
            have p125 : 0 ≤ (x116_2 : Int) := of_decide_eq_true (by first | (with_reducible assumption) | assumption)
            have q125 : x116_2 < (l5.length : Int) := of_decide_eq_true (by first | (with_reducible assumption) | assumption)
            obtain ⟨ad125, e125, hx125_0⟩ := Kd.at_int HR5.out x116_2 p125 q125
            have hw125_0 := hx125_0
            cases e125
            replace hx125_0 := gb_cell HB.out hx125_0 (NX5.out _ (by first | rfl | assumption))
            replace p125 := eq_true p125
            replace q125 := eq_true q125
            refine start_ (n := 22) (S := fun w' => w'.cell? ⟨gb101, 0, none⟩ = some (.int .i64 a2_0) ∧ w'.cell? ⟨gb101, 1, none⟩ = some (.int .i64 a2_1) ∧ w'.cell? ⟨gb102, 0, none⟩ = some (.int .i64 a3_0) ∧ w'.cell? ⟨gb102, 1, none⟩ = some (.int .i64 a3_1) ∧ w'.cell? (ad124.add (x116_2).toNat) = some (.int .i64 (rd l4 x116_2)) ∧ w'.cell? (ad125.add (x116_2).toNat) = some (.int .i64 (rd l5 x116_2))) (ds := []) #[false, false, false, false, false, false, false, false, false, false, false, false, false, false, false, false, false, false, false, false, false, false] (by kernel_rfl) rfl rfl ⟨(blk_cell BK101.out 0).trans rfl, (blk_cell BK101.out 1).trans rfl, (blk_cell BK102.out 0).trans rfl, (blk_cell BK102.out 1).trans rfl, (gb_cell HB.out hw124_0 (NX4.out _ (by first | rfl | assumption))), (gb_cell HB.out hw125_0 (NX5.out _ (by first | rfl | assumption)))⟩ (fun hHeld => ?_); refine with_tabW comfitref02_wise.tab14 comfitref02_wise.bits14 (fun HT_ HW_ => ?_)
            generalize wr.drew = w57 at HO_20 HO_21 BK101 BK102 BK103 HB hx124_0 hx125_0 hHeld ⊢
            refine pure_ (i := 0) (N := some 119) (v := ?_) (a' := ?_) #[true, false, false, false, false, false, false, false, false, false, false, false, false, false, false, false, false, false, false, false, false, false] rfl rfl (any_of HT_.out (by kernel_rfl)) (fun _ _ _ h => h) (Or.inl ⟨by rfl, ?_⟩) ?_ ?_
            rotate_left
            ·intro w'
             go_simp
             with_reducible rfl
            rotate_left
            ·simp only [Act.put, List.setIfInBounds_toArray, List.set_cons_zero, List.set_cons_succ, i64_w, i32_w]
             rfl
            refine pure_ (i := 1) (N := some 120) (v := ?_) (a' := ?_) #[true, true, false, false, false, false, false, false, false, false, false, false, false, false, false, false, false, false, false, false, false, false] rfl rfl (any_of HT_.out (by kernel_rfl)) (fun _ _ _ h => h) (Or.inl ⟨by rfl, ?_⟩) ?_ ?_
            rotate_left
            ·intro w'
             go_simp
             with_reducible rfl
            rotate_left
            ·simp only [Act.put, List.setIfInBounds_toArray, List.set_cons_zero, List.set_cons_succ, i64_w, i32_w]
             rfl
            refine pure_ (i := 2) (N := some 121) (v := ?_) (a' := ?_) #[true, true, true, false, false, false, false, false, false, false, false, false, false, false, false, false, false, false, false, false, false, false] rfl rfl (any_of HT_.out (by kernel_rfl)) (fun _ _ _ h => h) (Or.inl ⟨by rfl, ?_⟩) ?_ ?_
            rotate_left
            ·intro w'
             go_simp
             with_reducible rfl
            rotate_left
            ·simp only [Act.put, List.setIfInBounds_toArray, List.set_cons_zero, List.set_cons_succ, i64_w, i32_w]
             rfl
            refine pure_ (i := 3) (N := some 122) (v := ?_) (a' := ?_) #[true, true, true, true, false, false, false, false, false, false, false, false, false, false, false, false, false, false, false, false, false, false] rfl rfl (any_of HT_.out (by kernel_rfl)) (fun _ _ _ h => h) (Or.inl ⟨by rfl, ?_⟩) ?_ ?_
            rotate_left
            ·intro w'
             go_simp
             with_reducible rfl
            rotate_left
            ·simp only [Act.put, List.setIfInBounds_toArray, List.set_cons_zero, List.set_cons_succ, i64_w, i32_w]
             rfl
            refine pure_ (i := 5) (N := some 124) (v := ?_) (a' := ?_) #[true, true, true, true, false, true, false, false, false, false, false, false, false, false, false, false, false, false, false, false, false, false] rfl rfl (any_of HT_.out (by kernel_rfl)) (fun _ _ _ h => h) (Or.inl ⟨by rfl, ?_⟩) ?_ ?_
            rotate_left
            ·intro w'
             go_simp
             with_reducible rfl
            rotate_left
            ·simp only [Act.put, List.setIfInBounds_toArray, List.set_cons_zero, List.set_cons_succ, i64_w, i32_w]
             rfl
            refine pure_ (i := 8) (N := some 127) (v := ?_) (a' := ?_) #[true, true, true, true, false, true, false, false, true, false, false, false, false, false, false, false, false, false, false, false, false, false] rfl rfl (any_of HT_.out (by kernel_rfl)) (fun _ _ _ h => h) (Or.inl ⟨by rfl, ?_⟩) ?_ ?_
            rotate_left
            ·intro w'
             go_simp
             with_reducible rfl
            rotate_left
            ·simp only [Act.put, List.setIfInBounds_toArray, List.set_cons_zero, List.set_cons_succ, i64_w, i32_w]
             rfl
            refine pure_ (i := 10) (N := some 129) (v := ?_) (a' := ?_) #[true, true, true, true, false, true, false, false, true, false, true, false, false, false, false, false, false, false, false, false, false, false] rfl rfl (any_of HT_.out (by kernel_rfl)) (fun _ _ _ h => h) (Or.inl ⟨by rfl, ?_⟩) ?_ ?_
            rotate_left
            ·intro w'
             go_simp
             with_reducible rfl
            rotate_left
            ·simp only [Act.put, List.setIfInBounds_toArray, List.set_cons_zero, List.set_cons_succ, i64_w, i32_w]
             rfl
            refine pure_ (i := 11) (N := some 130) (v := ?_) (a' := ?_) #[true, true, true, true, false, true, false, false, true, false, true, true, false, false, false, false, false, false, false, false, false, false] rfl rfl (any_of HT_.out (by kernel_rfl)) (fun _ _ _ h => h) (Or.inl ⟨by rfl, ?_⟩) ?_ ?_
            rotate_left
            ·intro w'
             go_simp
             with_reducible rfl
            rotate_left
            ·simp only [Act.put, List.setIfInBounds_toArray, List.set_cons_zero, List.set_cons_succ, i64_w, i32_w]
             rfl
            refine pure_ (i := 12) (N := some 131) (v := ?_) (a' := ?_) #[true, true, true, true, false, true, false, false, true, false, true, true, true, false, false, false, false, false, false, false, false, false] rfl rfl (any_of HT_.out (by kernel_rfl)) (fun _ _ _ h => h) (Or.inl ⟨by rfl, ?_⟩) ?_ ?_
            rotate_left
            ·intro w'
             go_simp
             with_reducible rfl
            rotate_left
            ·simp only [Act.put, List.setIfInBounds_toArray, List.set_cons_zero, List.set_cons_succ, i64_w, i32_w]
             rfl
            refine pure_ (i := 14) (N := some 133) (v := ?_) (a' := ?_) #[true, true, true, true, false, true, false, false, true, false, true, true, true, false, true, false, false, false, false, false, false, false] rfl rfl (any_of HT_.out (by kernel_rfl)) (fun _ _ _ h => h) (Or.inl ⟨by rfl, ?_⟩) ?_ ?_
            rotate_left
            ·intro w'
             go_simp
             with_reducible rfl
            rotate_left
            ·simp only [Act.put, List.setIfInBounds_toArray, List.set_cons_zero, List.set_cons_succ, i64_w, i32_w]
             rfl
            refine pure_ (i := 17) (N := some 136) (v := ?_) (a' := ?_) #[true, true, true, true, false, true, false, false, true, false, true, true, true, false, true, false, false, true, false, false, false, false] rfl rfl (any_of HT_.out (by kernel_rfl)) (fun _ _ _ h => h) (Or.inl ⟨by rfl, ?_⟩) ?_ ?_
            rotate_left
            ·intro w'
             go_simp
             with_reducible rfl
            rotate_left
            ·simp only [Act.put, List.setIfInBounds_toArray, List.set_cons_zero, List.set_cons_succ, i64_w, i32_w]
             rfl
            refine take_ (i := 4) (N := some 123) (v := ?_) (a' := ?_) #[true, true, true, true, true, true, false, false, true, false, true, true, true, false, true, false, false, true, false, false, false, false] rfl rfl (take_ofW HT_.out HW_.out (by kernel_rfl)) (fun _ _ _ h => h) (Or.inl ⟨by rfl, ?_⟩) hHeld ?_ ?_
            rotate_left
            ·rintro w' ⟨s0, s1, s2, s3, s4, s5⟩
             go_simp
             with_reducible rfl
            rotate_left
            ·simp only [Act.put, List.setIfInBounds_toArray, List.set_cons_zero, List.set_cons_succ, i64_w, i32_w]
             rfl
            refine take_ (i := 6) (N := some 125) (v := ?_) (a' := ?_) #[true, true, true, true, true, true, true, false, true, false, true, true, true, false, true, false, false, true, false, false, false, false] rfl rfl (take_ofW HT_.out HW_.out (by kernel_rfl)) (fun _ _ _ h => h) (Or.inl ⟨by rfl, ?_⟩) hHeld ?_ ?_
            rotate_left
            ·rintro w' ⟨s0, s1, s2, s3, s4, s5⟩
             go_simp
             with_reducible rfl
            rotate_left
            ·simp only [Act.put, List.setIfInBounds_toArray, List.set_cons_zero, List.set_cons_succ, i64_w, i32_w]
             rfl
            refine pure_ (i := 7) (N := some 126) (v := ?_) (a' := ?_) #[true, true, true, true, true, true, true, true, true, false, true, true, true, false, true, false, false, true, false, false, false, false] rfl rfl (any_of HT_.out (by kernel_rfl)) (fun _ _ _ h => h) (Or.inl ⟨by rfl, ?_⟩) ?_ ?_
            rotate_left
            ·intro w'
             go_simp
             with_reducible rfl
            rotate_left
            ·simp only [Act.put, List.setIfInBounds_toArray, List.set_cons_zero, List.set_cons_succ, i64_w, i32_w]
             rfl
            refine pure_ (i := 9) (N := some 128) (v := ?_) (a' := ?_) #[true, true, true, true, true, true, true, true, true, true, true, true, true, false, true, false, false, true, false, false, false, false] rfl rfl (any_of HT_.out (by kernel_rfl)) (fun _ _ _ h => h) (Or.inl ⟨by rfl, ?_⟩) ?_ ?_
            rotate_left
            ·intro w'
             go_simp
             with_reducible rfl
            rotate_left
            ·simp only [Act.put, List.setIfInBounds_toArray, List.set_cons_zero, List.set_cons_succ, i64_w, i32_w]
             rfl
            refine take_ (i := 13) (N := some 132) (v := ?_) (a' := ?_) #[true, true, true, true, true, true, true, true, true, true, true, true, true, true, true, false, false, true, false, false, false, false] rfl rfl (take_ofW HT_.out HW_.out (by kernel_rfl)) (fun _ _ _ h => h) (Or.inl ⟨by rfl, ?_⟩) hHeld ?_ ?_
            rotate_left
            ·rintro w' ⟨s0, s1, s2, s3, s4, s5⟩
             go_simp
             with_reducible rfl
            rotate_left
            ·simp only [Act.put, List.setIfInBounds_toArray, List.set_cons_zero, List.set_cons_succ, i64_w, i32_w]
             rfl
            refine take_ (i := 15) (N := some 134) (v := ?_) (a' := ?_) #[true, true, true, true, true, true, true, true, true, true, true, true, true, true, true, true, false, true, false, false, false, false] rfl rfl (take_ofW HT_.out HW_.out (by kernel_rfl)) (fun _ _ _ h => h) (Or.inl ⟨by rfl, ?_⟩) hHeld ?_ ?_
            rotate_left
            ·rintro w' ⟨s0, s1, s2, s3, s4, s5⟩
             go_simp
             with_reducible rfl
            rotate_left
            ·simp only [Act.put, List.setIfInBounds_toArray, List.set_cons_zero, List.set_cons_succ, i64_w, i32_w]
             rfl
            refine pure_ (i := 16) (N := some 135) (v := ?_) (a' := ?_) #[true, true, true, true, true, true, true, true, true, true, true, true, true, true, true, true, true, true, false, false, false, false] rfl rfl (any_of HT_.out (by kernel_rfl)) (fun _ _ _ h => h) (Or.inl ⟨by rfl, ?_⟩) ?_ ?_
            rotate_left
            ·intro w'
             go_simp
             with_reducible rfl
            rotate_left
            ·simp only [Act.put, List.setIfInBounds_toArray, List.set_cons_zero, List.set_cons_succ, i64_w, i32_w]
             rfl
            refine pure_ (i := 18) (N := some 137) (v := ?_) (a' := ?_) #[true, true, true, true, true, true, true, true, true, true, true, true, true, true, true, true, true, true, true, false, false, false] rfl rfl (any_of HT_.out (by kernel_rfl)) (fun _ _ _ h => h) (Or.inl ⟨by rfl, ?_⟩) ?_ ?_
            rotate_left
            ·intro w'
             go_simp
             with_reducible rfl
            rotate_left
            ·simp only [Act.put, List.setIfInBounds_toArray, List.set_cons_zero, List.set_cons_succ, i64_w, i32_w]
             rfl
            refine pure_ (i := 19) (N := some 138) (v := ?_) (a' := ?_) #[true, true, true, true, true, true, true, true, true, true, true, true, true, true, true, true, true, true, true, true, false, false] rfl rfl (any_of HT_.out (by kernel_rfl)) (fun _ _ _ h => h) (Or.inl ⟨by rfl, ?_⟩) ?_ ?_
            rotate_left
            ·intro w'
             go_simp
             with_reducible rfl
            rotate_left
            ·simp only [Act.put, List.setIfInBounds_toArray, List.set_cons_zero, List.set_cons_succ, i64_w, i32_w]
             rfl
            refine pure_ (i := 20) (N := some 139) (v := ?_) (a' := ?_) #[true, true, true, true, true, true, true, true, true, true, true, true, true, true, true, true, true, true, true, true, true, false] rfl rfl (any_of HT_.out (by kernel_rfl)) (fun _ _ _ h => h) (Or.inl ⟨by rfl, ?_⟩) ?_ ?_
            rotate_left
            ·intro w'
             go_simp
             with_reducible rfl
            rotate_left
            ·simp only [Act.put, List.setIfInBounds_toArray, List.set_cons_zero, List.set_cons_succ, i64_w, i32_w]
             rfl
            refine pure_ (i := 21) (N := some 6) (v := ?_) (a' := ?_) #[true, true, true, true, true, true, true, true, true, true, true, true, true, true, true, true, true, true, true, true, true, true] rfl rfl (any_of HT_.out (by kernel_rfl)) (fun _ _ _ h => h) (Or.inl ⟨by rfl, ?_⟩) ?_ ?_
            rotate_left
            ·intro w'
             go_simp
             with_reducible rfl
            rotate_left
            ·simp only [Act.put, List.setIfInBounds_toArray, List.set_cons_zero, List.set_cons_succ, i64_w, i32_w]
             rfl
            refine done_ (done_of HT_.out (by kernel_rfl)) ?_
            try go_wp2
            go_roundg k2
            case measure => have := HK1.out; have := HK2.out; omega
            case rel => exact ⟨(wrap64 (x6_2 + (wrap64 ((wrap64 ((wrap64 ((rd l4 x116_2) * a2_1)) * t122)) + (wrap64 ((wrap64 ((rd l5 x116_2) * a3_1)) * t123)))))), (wrap64 (x116_2 + 1)), (by first | rfl | (simp; done) | (simp [*]; done)), (by first | rfl | (simp; done) | (simp [*]; done)), H', ⟨by have := HK1.out; have := HK2.out; omega⟩, ⟨by (with_reducible repeat (first | apply Kd.R_alloc | apply Kd.R_drewN | apply Kd.R_drew)); exact HO_20.out⟩, ⟨by (with_reducible repeat (first | apply Kd.R_alloc | apply Kd.R_drewN | apply Kd.R_drew)); exact HO_21.out⟩, ⟨by (with_reducible repeat (first | refine blk_drewN ?_ _ | refine blk_drew ?_ | refine blk_alloc ?_ _)); exact BK101.out⟩, ⟨by (with_reducible repeat (first | refine blk_drewN ?_ _ | refine blk_drew ?_ | refine blk_alloc ?_ _)); exact BK102.out⟩, ⟨by (with_reducible repeat (first | refine blk_drewN ?_ _ | refine blk_drew ?_ | refine blk_alloc ?_ _)); exact BK103.out⟩, ⟨by repeat (first | (with_reducible first | exact HB.out | apply gb_alloc | apply gb_drewN | apply gb_drew1 | refine gb_set ?_ GE101.out | refine gb_set ?_ GE102.out | refine gb_put ?_) | exact HB.out)⟩⟩
           ·rw [if_neg c56] at H
            exact absurd H (by simp)
          ·rw [if_neg c55] at H
           exact absurd H (by simp)
         ·rw [if_neg c54] at H
          exact absurd H (by simp)
        ·rw [if_neg c53] at H
         have c53b0 : decide (x116_2 < a1) = false := decide_eq_false c53
         clear c53
         have HC58 := Aside0.mk H
         clear H
         go_upto_region 16 with (fail)
         go_cut [151] (fun v151 wc => ∃ (kq : Nat) (x151_57 : Bool), v151 = .bool x151_57 ∧ Aside0 (comfitref02_wise.j2 kq a0 a1 x6_2 a7 a8 x20_1 x21_1 t122 t123 x151_57 a2_0 a2_1 a3_0 a3_1 a9_0 a9_1 = some r) ∧ Aside0 (kq ≤ k2) ∧ Aside0 (Kd.R (Kd.int .i64) 3 wc w.heap.size (fun k_ => some k_ ≠ (v108 : Value).ownBlock) v105 x20_1) ∧ Aside0 (Kd.R (Kd.int .i64) 3 wc w.heap.size (fun k_ => some k_ ≠ (v105 : Value).ownBlock) v108 x21_1) ∧ Aside0 (wc.heap[gb101]? = some (.cells #[.int .i64 a2_0, .int .i64 a2_1] 26 (0, 0))) ∧ Aside0 (wc.heap[gb102]? = some (.cells #[.int .i64 a3_0, .int .i64 a3_1] 26 (0, 0))) ∧ Aside0 (wc.heap[gb103]? = some (.cells #[.int .i64 a9_0] 3 (0, 0))) ∧ Aside0 (GB gb103 w wc))
         case first => as_aux_lemma =>
          have H := HC58.out
          clear HC58
          by_cases c59 : a9_0 ≥ 0
          ·rw [if_pos c59] at H
           have c59b0 : decide (0 ≤ a9_0) = true := decide_eq_true c59
           clear c59
           (first | rw [c59b0] | (simp only [i64_w, i32_w]; rw [c59b0]) | skip)
           have H' := Aside0.mk H
           clear H
           have hnb60 := NB103_101.out
           have hnc60 := NB101_103.out
           have hnb61 := NB103_102.out
           have hnc61 := NB102_103.out
           have hcz62_0 : wr.cell? ⟨gb103, 0, none⟩ = some (.int .i64 a9_0) := (blk_cell BK103.out 0).trans rfl
           have hfz62_0 := blk_frozen BK103.out 0
           go_wp2
           go_meet
           case rel => exact ⟨_, (decide (x6_2 ≥ a9_0)), (by first | rfl | (simp; done) | (simp [*]; done)), H', ⟨by have := HK1.out; have := HK2.out; first | omega | exact Nat.le_refl _⟩, ⟨by (with_reducible repeat (first | apply Kd.R_alloc | apply Kd.R_drewN | apply Kd.R_drew)); exact HO_20.out⟩, ⟨by (with_reducible repeat (first | apply Kd.R_alloc | apply Kd.R_drewN | apply Kd.R_drew)); exact HO_21.out⟩, ⟨by (with_reducible repeat (first | refine blk_drewN ?_ _ | refine blk_drew ?_ | refine blk_alloc ?_ _)); exact BK101.out⟩, ⟨by (with_reducible repeat (first | refine blk_drewN ?_ _ | refine blk_drew ?_ | refine blk_alloc ?_ _)); exact BK102.out⟩, ⟨by (with_reducible repeat (first | refine blk_drewN ?_ _ | refine blk_drew ?_ | refine blk_alloc ?_ _)); exact BK103.out⟩, ⟨by repeat (first | (with_reducible first | exact HB.out | apply gb_alloc | apply gb_drewN | apply gb_drew1 | refine gb_set ?_ GE101.out | refine gb_set ?_ GE102.out | refine gb_put ?_) | exact HB.out)⟩⟩
          ·rw [if_neg c59] at H
           have c59b0 : decide (0 ≤ a9_0) = false := decide_eq_false c59
           clear c59
           (first | rw [c59b0] | (simp only [i64_w, i32_w]; rw [c59b0]) | skip)
           have H' := Aside0.mk H
           clear H
           have hnb63 := NB103_101.out
           have hnc63 := NB101_103.out
           have hnb64 := NB103_102.out
           have hnc64 := NB102_103.out
           have hcz65_0 : wr.cell? ⟨gb103, 0, none⟩ = some (.int .i64 a9_0) := (blk_cell BK103.out 0).trans rfl
           have hfz65_0 := blk_frozen BK103.out 0
           go_wp2
           go_meet
           case rel => exact ⟨_, (false), (by first | rfl | (simp; done) | (simp [*]; done)), H', ⟨by have := HK1.out; have := HK2.out; first | omega | exact Nat.le_refl _⟩, ⟨by (with_reducible repeat (first | apply Kd.R_alloc | apply Kd.R_drewN | apply Kd.R_drew)); exact HO_20.out⟩, ⟨by (with_reducible repeat (first | apply Kd.R_alloc | apply Kd.R_drewN | apply Kd.R_drew)); exact HO_21.out⟩, ⟨by (with_reducible repeat (first | refine blk_drewN ?_ _ | refine blk_drew ?_ | refine blk_alloc ?_ _)); exact BK101.out⟩, ⟨by (with_reducible repeat (first | refine blk_drewN ?_ _ | refine blk_drew ?_ | refine blk_alloc ?_ _)); exact BK102.out⟩, ⟨by (with_reducible repeat (first | refine blk_drewN ?_ _ | refine blk_drew ?_ | refine blk_alloc ?_ _)); exact BK103.out⟩, ⟨by repeat (first | (with_reducible first | exact HB.out | apply gb_alloc | apply gb_drewN | apply gb_drew1 | refine gb_set ?_ GE101.out | refine gb_set ?_ GE102.out | refine gb_put ?_) | exact HB.out)⟩⟩
         case rest => as_aux_lemma =>
          clear HC58
          try clear p1
          try clear q1
          try clear hx1
          try clear c2
          try clear p2
          try clear c3
          try clear p3
          try clear q3
          try clear hx3
          try clear c5
          try clear c6
          try clear p6
          try clear p11
          try clear q11
          try clear hx11
          try clear p12
          try clear q12
          try clear hx12
          try clear c23
          try clear c23b0
          try clear c24
          try clear c25
          try clear c26
          try clear c29
          try clear c30
          try clear c32
          try clear c33
          try clear p34
          try clear q34
          try clear hx34
          try clear hf34
          try clear c35
          try clear p36
          try clear q36
          try clear hx36
          try clear hf36
          try clear c53
          try clear c53b0
          try clear c54
          try clear c54b0
          try clear c55
          try clear c55b0
          try clear c56
          try clear c56b0
          try clear c59
          try clear c59b0
          try clear c60
          try clear c61
          try clear c63
          try clear c64
          try clear p64
          try clear hcz62_0
          try clear hcz62_1
          try clear hcz65_0
          try clear hcz65_1
          try clear hfz62_0
          try clear hfz62_1
          try clear hfz65_0
          try clear hfz65_1
          try clear hx116_0
          try clear hx117_0
          try clear hx119_0
          try clear hx120_0
          try clear hx124_0
          try clear hx125_0
          try clear hx34_0
          try clear hx36_0
          try clear p1
          try clear p11
          try clear p116
          try clear p117
          try clear p119
          try clear p12
          try clear p120
          try clear p124
          try clear p125
          try clear p2
          try clear p3
          try clear p34
          try clear p36
          try clear p6
          try clear q1
          try clear q11
          try clear q116
          try clear q117
          try clear q119
          try clear q12
          try clear q120
          try clear q124
          try clear q125
          try clear q3
          try clear q34
          try clear q36
          obtain ⟨kq, x151_57, rfl, HA, HJ57, HO_20, HO_21, BK101, BK102, BK103, HB⟩ := hcut
          cases kq with
          | zero => exact absurd HA.out (by simp [comfitref02_wise.j2])
          | succ kj57 =>
           have H := HA.out
           clear HA
           simp only [comfitref02_wise.j2] at H
           by_cases c66 : x151_57 = true
           ·subst c66
            have H1 : (some a9_0) = some r := by rw [if_pos rfl] at H; exact H
            clear H
            have H := H1
            clear H1
            obtain rfl := Option.some.inj H
            have hnb67 := NB103_101.out
            have hnc67 := NB101_103.out
            have hnb68 := NB103_102.out
            have hnc68 := NB102_103.out
            have hcz69_0 : wc.cell? ⟨gb103, 0, none⟩ = some (.int .i64 a9_0) := (blk_cell BK103.out 0).trans rfl
            have hfz69_0 := blk_frozen BK103.out 0
            go_wp2
            first | go_end0 | ((try simp only [Exit.inBlock, Exit.then]); refine bodyPost_ret (results_none rfl _ _ _) rfl ?_)
            exact ⟨⟨_, rfl⟩, by (with_reducible repeat (first | refine blk_drewN ?_ _ | refine blk_drew ?_ | refine blk_alloc ?_ _)); exact BK103.out, by repeat (first | (with_reducible first | exact HB.out | apply gb_alloc | apply gb_drewN | apply gb_drew1 | refine gb_set ?_ GE101.out | refine gb_set ?_ GE102.out | refine gb_put ?_) | exact HB.out)⟩
           ·replace c66 := Bool.eq_false_iff.mpr c66
            subst c66
            have H1 : (comfitref02_wise.l2 kj57 a0 a1 x6_2 a7 a8 x20_1 x21_1 t122 t123 (-1) a2_0 a2_1 a3_0 a3_1 a9_0 a9_1) = some r := by rw [if_neg (show ¬ (false = true) by decide)] at H; exact H
            clear H
            have H := H1
            clear H1
            have H' := Aside0.mk H
            clear H
            go_wp2
            go_loopg [26] kj57 (fun kq v26 w' => ∃ (x20_4 : List Int) (x21_4 : List Int) (x26_4 : Int) (x104000_4 : Int), v26 = .int .i64 x26_4 ∧ Aside0 (comfitref02_wise.l2 kq a0 a1 x6_2 a7 a8 x20_4 x21_4 t122 t123 x26_4 a2_0 a2_1 a3_0 a3_1 x104000_4 a9_1 = some r) ∧ Aside0 (kq ≤ kj57) ∧ Aside0 (Kd.R (Kd.int .i64) 3 w' w.heap.size (fun k_ => some k_ ≠ (v108 : Value).ownBlock) v105 x20_4) ∧ Aside0 (Kd.R (Kd.int .i64) 3 w' w.heap.size (fun k_ => some k_ ≠ (v105 : Value).ownBlock) v108 x21_4) ∧ Aside0 (w'.heap[gb101]? = some (.cells #[.int .i64 a2_0, .int .i64 a2_1] 26 (0, 0))) ∧ Aside0 (w'.heap[gb102]? = some (.cells #[.int .i64 a3_0, .int .i64 a3_1] 26 (0, 0))) ∧ Aside0 (w'.heap[gb103]? = some (.cells #[.int .i64 x104000_4] 3 (0, 0))) ∧ Aside0 (GB gb103 w w'))
            case atStart => exact ⟨(x20_1), (x21_1), ((-1)), (a9_0), (by first | rfl | (simp; done) | (simp [*]; done)), H', ⟨Nat.le_refl _⟩, ⟨by (with_reducible repeat (first | apply Kd.R_alloc | apply Kd.R_drewN | apply Kd.R_drew)); exact HO_20.out⟩, ⟨by (with_reducible repeat (first | apply Kd.R_alloc | apply Kd.R_drewN | apply Kd.R_drew)); exact HO_21.out⟩, ⟨by (with_reducible repeat (first | refine blk_drewN ?_ _ | refine blk_drew ?_ | refine blk_alloc ?_ _)); exact BK101.out⟩, ⟨by (with_reducible repeat (first | refine blk_drewN ?_ _ | refine blk_drew ?_ | refine blk_alloc ?_ _)); exact BK102.out⟩, ⟨by (with_reducible repeat (first | refine blk_drewN ?_ _ | refine blk_drew ?_ | refine blk_alloc ?_ _)); exact BK103.out⟩, ⟨by repeat (first | (with_reducible first | exact HB.out | apply gb_alloc | apply gb_drewN | apply gb_drew1 | refine gb_set ?_ GE101.out | refine gb_set ?_ GE102.out | refine gb_put ?_) | exact HB.out)⟩⟩
            case round => as_aux_lemma =>
             clear H'
             try clear p1
             try clear q1
             try clear hx1
             try clear c2
             try clear p2
             try clear c3
             try clear p3
             try clear q3
             try clear hx3
             try clear c5
             try clear c6
             try clear p6
             try clear p11
             try clear q11
             try clear hx11
             try clear p12
             try clear q12
             try clear hx12
             try clear c23
             try clear c23b0
             try clear c24
             try clear c25
             try clear c26
             try clear c29
             try clear c30
             try clear c32
             try clear c33
             try clear p34
             try clear q34
             try clear hx34
             try clear hf34
             try clear c35
             try clear p36
             try clear q36
             try clear hx36
             try clear hf36
             try clear c53
             try clear c53b0
             try clear c54
             try clear c54b0
             try clear c55
             try clear c55b0
             try clear c56
             try clear c56b0
             try clear c59
             try clear c59b0
             try clear c60
             try clear c61
             try clear c63
             try clear c64
             try clear p64
             try clear c66
             try clear c67
             try clear c68
             try clear hcz62_0
             try clear hcz62_1
             try clear hcz65_0
             try clear hcz65_1
             try clear hcz69_0
             try clear hcz69_1
             try clear hfz62_0
             try clear hfz62_1
             try clear hfz65_0
             try clear hfz65_1
             try clear hfz69_0
             try clear hfz69_1
             try clear hx116_0
             try clear hx117_0
             try clear hx119_0
             try clear hx120_0
             try clear hx124_0
             try clear hx125_0
             try clear hx34_0
             try clear hx36_0
             try clear p1
             try clear p11
             try clear p116
             try clear p117
             try clear p119
             try clear p12
             try clear p120
             try clear p124
             try clear p125
             try clear p2
             try clear p3
             try clear p34
             try clear p36
             try clear p6
             try clear p64
             try clear q1
             try clear q11
             try clear q116
             try clear q117
             try clear q119
             try clear q12
             try clear q120
             try clear q124
             try clear q125
             try clear q3
             try clear q34
             try clear q36
             obtain ⟨x20_4, x21_4, x26_4, x104000_4, rfl, HA, HK4, HO_20, HO_21, BK101, BK102, BK103, HB⟩ := hrel
             cases gk with
             | zero => exact absurd HA.out (by simp [comfitref02_wise.l2])
             | succ k4 =>
              have H := HA.out
              clear HA
              simp only [comfitref02_wise.l2] at H
              by_cases c70 : x26_4 ≤ a1
              ·rw [if_pos c70] at H
               have c70b0 : decide (x26_4 ≤ a1) = true := decide_eq_true c70
               clear c70
               have H' := Aside0.mk H
               clear H
               go_wp2
               go_loopg [27] k4 (fun kq v27 w' => ∃ (x20_5 : List Int) (x21_5 : List Int) (x27_5 : Int) (x104000_5 : Int), v27 = .int .i64 x27_5 ∧ Aside0 (comfitref02_wise.l3 kq a0 a1 x6_2 a7 a8 x20_5 x21_5 t122 t123 x26_4 x27_5 a2_0 a2_1 a3_0 a3_1 x104000_5 a9_1 = some r) ∧ Aside0 (kq ≤ k4) ∧ Aside0 (Kd.R (Kd.int .i64) 3 w' w.heap.size (fun k_ => some k_ ≠ (v108 : Value).ownBlock) v105 x20_5) ∧ Aside0 (Kd.R (Kd.int .i64) 3 w' w.heap.size (fun k_ => some k_ ≠ (v105 : Value).ownBlock) v108 x21_5) ∧ Aside0 (w'.heap[gb101]? = some (.cells #[.int .i64 a2_0, .int .i64 a2_1] 26 (0, 0))) ∧ Aside0 (w'.heap[gb102]? = some (.cells #[.int .i64 a3_0, .int .i64 a3_1] 26 (0, 0))) ∧ Aside0 (w'.heap[gb103]? = some (.cells #[.int .i64 x104000_5] 3 (0, 0))) ∧ Aside0 (GB gb103 w w'))
               case atStart => exact ⟨(x20_4), (x21_4), (wrap64 (x26_4 + 1)), (x104000_4), (by first | rfl | (simp; done) | (simp [*]; done)), H', ⟨Nat.le_refl _⟩, ⟨by (with_reducible repeat (first | apply Kd.R_alloc | apply Kd.R_drewN | apply Kd.R_drew)); exact HO_20.out⟩, ⟨by (with_reducible repeat (first | apply Kd.R_alloc | apply Kd.R_drewN | apply Kd.R_drew)); exact HO_21.out⟩, ⟨by (with_reducible repeat (first | refine blk_drewN ?_ _ | refine blk_drew ?_ | refine blk_alloc ?_ _)); exact BK101.out⟩, ⟨by (with_reducible repeat (first | refine blk_drewN ?_ _ | refine blk_drew ?_ | refine blk_alloc ?_ _)); exact BK102.out⟩, ⟨by (with_reducible repeat (first | refine blk_drewN ?_ _ | refine blk_drew ?_ | refine blk_alloc ?_ _)); exact BK103.out⟩, ⟨by repeat (first | (with_reducible first | exact HB.out | apply gb_alloc | apply gb_drewN | apply gb_drew1 | refine gb_set ?_ GE101.out | refine gb_set ?_ GE102.out | refine gb_put ?_) | exact HB.out)⟩⟩
               case round => as_aux_lemma =>
                clear H'
                try clear p1
                try clear q1
                try clear hx1
                try clear c2
                try clear p2
                try clear c3
                try clear p3
                try clear q3
                try clear hx3
                try clear c5
                try clear c6
                try clear p6
                try clear c7
                try clear p11
                try clear q11
                try clear hx11
                try clear p12
                try clear q12
                try clear hx12
                try clear c23
                try clear c23b0
                try clear c24
                try clear c25
                try clear c26
                try clear c29
                try clear c30
                try clear c32
                try clear c33
                try clear p34
                try clear q34
                try clear hx34
                try clear hf34
                try clear c35
                try clear p36
                try clear q36
                try clear hx36
                try clear hf36
                try clear c53
                try clear c53b0
                try clear c54
                try clear c54b0
                try clear c55
                try clear c55b0
                try clear c56
                try clear c56b0
                try clear c59
                try clear c59b0
                try clear c60
                try clear c61
                try clear c63
                try clear c64
                try clear p64
                try clear c66
                try clear c67
                try clear c68
                try clear c70
                try clear c70b0
                try clear hcz62_0
                try clear hcz62_1
                try clear hcz65_0
                try clear hcz65_1
                try clear hcz69_0
                try clear hcz69_1
                try clear hfz62_0
                try clear hfz62_1
                try clear hfz65_0
                try clear hfz65_1
                try clear hfz69_0
                try clear hfz69_1
                try clear hx116_0
                try clear hx117_0
                try clear hx119_0
                try clear hx120_0
                try clear hx124_0
                try clear hx125_0
                try clear hx34_0
                try clear hx36_0
                try clear p1
                try clear p11
                try clear p116
                try clear p117
                try clear p119
                try clear p12
                try clear p120
                try clear p124
                try clear p125
                try clear p2
                try clear p3
                try clear p34
                try clear p36
                try clear p6
                try clear p64
                try clear q1
                try clear q11
                try clear q116
                try clear q117
                try clear q119
                try clear q12
                try clear q120
                try clear q124
                try clear q125
                try clear q3
                try clear q34
                try clear q36
                obtain ⟨x20_5, x21_5, x27_5, x104000_5, rfl, HA, HK5, HO_20, HO_21, BK101, BK102, BK103, HB⟩ := hrel
                cases gk with
                | zero => exact absurd HA.out (by simp [comfitref02_wise.l3])
                | succ k5 =>
                 have H := HA.out
                 clear HA
                 simp only [comfitref02_wise.l3] at H
                 by_cases c71 : x27_5 ≤ (wrap64 (a1 + 1))
                 ·rw [if_pos c71] at H
                  have c71b0 : decide (x27_5 ≤ (wrap64 (a1 + 1))) = true := decide_eq_true c71
                  (try rw [hji11] at c71b0)
                  clear c71
                  have HC72 := Aside0.mk H
                  clear H
                  go_upto_region 23 with (fail)
                  go_cut [173] (fun v173 wc => ∃ (kq : Nat) (x173_71 : Bool), v173 = .bool x173_71 ∧ Aside0 (comfitref02_wise.j5 kq a0 a1 x6_2 a7 a8 x20_5 x21_5 t122 t123 x26_4 x27_5 x173_71 a2_0 a2_1 a3_0 a3_1 x104000_5 a9_1 = some r) ∧ Aside0 (kq ≤ k5) ∧ Aside0 (Kd.R (Kd.int .i64) 3 wc w.heap.size (fun k_ => some k_ ≠ (v108 : Value).ownBlock) v105 x20_5) ∧ Aside0 (Kd.R (Kd.int .i64) 3 wc w.heap.size (fun k_ => some k_ ≠ (v105 : Value).ownBlock) v108 x21_5) ∧ Aside0 (wc.heap[gb101]? = some (.cells #[.int .i64 a2_0, .int .i64 a2_1] 26 (0, 0))) ∧ Aside0 (wc.heap[gb102]? = some (.cells #[.int .i64 a3_0, .int .i64 a3_1] 26 (0, 0))) ∧ Aside0 (wc.heap[gb103]? = some (.cells #[.int .i64 x104000_5] 3 (0, 0))) ∧ Aside0 (GB gb103 w wc))
                  case first => as_aux_lemma =>
                   have H := HC72.out
                   clear HC72
                   by_cases c73 : a1 = a0
                   ·rw [if_pos c73] at H
                    have c73b0 : (a1 == a0) = true := beq_iff_eq.mpr c73
                    have c73b1 : (a1 != a0) = false := bne_eq_false_iff_eq.mpr c73
                    clear c73
                    (first | rw [c73b0] | (simp only [i64_w, i32_w]; rw [c73b0]) | skip)
                    have H' := Aside0.mk H
                    clear H
                    go_wp2
                    go_meet
                    case rel => exact ⟨_, ((x27_5 != (wrap64 (x26_4 + 1)))), (by first | rfl | (simp; done) | (simp [*]; done)), H', ⟨by have := HK1.out; have := HK2.out; have := HJ57.out; have := HK4.out; have := HK5.out; first | omega | exact Nat.le_refl _⟩, ⟨by (with_reducible repeat (first | apply Kd.R_alloc | apply Kd.R_drewN | apply Kd.R_drew)); exact HO_20.out⟩, ⟨by (with_reducible repeat (first | apply Kd.R_alloc | apply Kd.R_drewN | apply Kd.R_drew)); exact HO_21.out⟩, ⟨by (with_reducible repeat (first | refine blk_drewN ?_ _ | refine blk_drew ?_ | refine blk_alloc ?_ _)); exact BK101.out⟩, ⟨by (with_reducible repeat (first | refine blk_drewN ?_ _ | refine blk_drew ?_ | refine blk_alloc ?_ _)); exact BK102.out⟩, ⟨by (with_reducible repeat (first | refine blk_drewN ?_ _ | refine blk_drew ?_ | refine blk_alloc ?_ _)); exact BK103.out⟩, ⟨by repeat (first | (with_reducible first | exact HB.out | apply gb_alloc | apply gb_drewN | apply gb_drew1 | refine gb_set ?_ GE101.out | refine gb_set ?_ GE102.out | refine gb_put ?_) | exact HB.out)⟩⟩
                   ·rw [if_neg c73] at H
                    have c73b0 : (a1 == a0) = false := beq_eq_false_iff_ne.mpr c73
                    have c73b1 : (a1 != a0) = true := bne_iff_ne.mpr c73
                    (first | rw [c73b0] | (simp only [i64_w, i32_w]; rw [c73b0]) | skip)
                    have H' := Aside0.mk H
                    clear H
                    go_wp2
                    go_meet
                    case rel => exact ⟨_, (false), (by first | rfl | (simp; done) | (simp [*]; done)), H', ⟨by have := HK1.out; have := HK2.out; have := HJ57.out; have := HK4.out; have := HK5.out; first | omega | exact Nat.le_refl _⟩, ⟨by (with_reducible repeat (first | apply Kd.R_alloc | apply Kd.R_drewN | apply Kd.R_drew)); exact HO_20.out⟩, ⟨by (with_reducible repeat (first | apply Kd.R_alloc | apply Kd.R_drewN | apply Kd.R_drew)); exact HO_21.out⟩, ⟨by (with_reducible repeat (first | refine blk_drewN ?_ _ | refine blk_drew ?_ | refine blk_alloc ?_ _)); exact BK101.out⟩, ⟨by (with_reducible repeat (first | refine blk_drewN ?_ _ | refine blk_drew ?_ | refine blk_alloc ?_ _)); exact BK102.out⟩, ⟨by (with_reducible repeat (first | refine blk_drewN ?_ _ | refine blk_drew ?_ | refine blk_alloc ?_ _)); exact BK103.out⟩, ⟨by repeat (first | (with_reducible first | exact HB.out | apply gb_alloc | apply gb_drewN | apply gb_drew1 | refine gb_set ?_ GE101.out | refine gb_set ?_ GE102.out | refine gb_put ?_) | exact HB.out)⟩⟩
                  case rest => as_aux_lemma =>
                   clear HC72
                   try clear p1
                   try clear q1
                   try clear hx1
                   try clear c2
                   try clear p2
                   try clear c3
                   try clear p3
                   try clear q3
                   try clear hx3
                   try clear c5
                   try clear c6
                   try clear p6
                   try clear c7
                   try clear p11
                   try clear q11
                   try clear hx11
                   try clear p12
                   try clear q12
                   try clear hx12
                   try clear c23
                   try clear c23b0
                   try clear c24
                   try clear c25
                   try clear c26
                   try clear c29
                   try clear c30
                   try clear c32
                   try clear c33
                   try clear p34
                   try clear q34
                   try clear hx34
                   try clear hf34
                   try clear c35
                   try clear p36
                   try clear q36
                   try clear hx36
                   try clear hf36
                   try clear c53
                   try clear c53b0
                   try clear c54
                   try clear c54b0
                   try clear c55
                   try clear c55b0
                   try clear c56
                   try clear c56b0
                   try clear c59
                   try clear c59b0
                   try clear c60
                   try clear c61
                   try clear c63
                   try clear c64
                   try clear p64
                   try clear c66
                   try clear c67
                   try clear c68
                   try clear c70
                   try clear c70b0
                   try clear c71
                   try clear c71b0
                   try clear c73
                   try clear c73b0
                   try clear c73b1
                   try clear hcz62_0
                   try clear hcz62_1
                   try clear hcz65_0
                   try clear hcz65_1
                   try clear hcz69_0
                   try clear hcz69_1
                   try clear hfz62_0
                   try clear hfz62_1
                   try clear hfz65_0
                   try clear hfz65_1
                   try clear hfz69_0
                   try clear hfz69_1
                   try clear hx116_0
                   try clear hx117_0
                   try clear hx119_0
                   try clear hx120_0
                   try clear hx124_0
                   try clear hx125_0
                   try clear hx34_0
                   try clear hx36_0
                   try clear p1
                   try clear p11
                   try clear p116
                   try clear p117
                   try clear p119
                   try clear p12
                   try clear p120
                   try clear p124
                   try clear p125
                   try clear p2
                   try clear p3
                   try clear p34
                   try clear p36
                   try clear p6
                   try clear p64
                   try clear q1
                   try clear q11
                   try clear q116
                   try clear q117
                   try clear q119
                   try clear q12
                   try clear q120
                   try clear q124
                   try clear q125
                   try clear q3
                   try clear q34
                   try clear q36
                   obtain ⟨kq, x173_71, rfl, HA, HJ71, HO_20, HO_21, BK101, BK102, BK103, HB⟩ := hcut
                   cases kq with
                   | zero => exact absurd HA.out (by simp [comfitref02_wise.j5])
                   | succ kj71 =>
                    have H := HA.out
                    clear HA
                    simp only [comfitref02_wise.j5] at H
                    by_cases c74 : x173_71 = true
                    ·subst c74
                     have H1 : (comfitref02_wise.l3 kj71 a0 a1 x6_2 a7 a8 x20_5 x21_5 t122 t123 x26_4 (wrap64 (x27_5 + 1)) a2_0 a2_1 a3_0 a3_1 x104000_5 a9_1) = some r := by rw [if_pos rfl] at H; exact H
                     clear H
                     have H := H1
                     clear H1
                     have H' := Aside0.mk H
                     clear H
                     go_wp2
                     go_roundg kj71
                     case measure => have := HK1.out; have := HK2.out; have := HJ57.out; have := HK4.out; have := HK5.out; have := HJ71.out; omega
                     case rel => exact ⟨(x20_5), (x21_5), (wrap64 (x27_5 + 1)), (x104000_5), (by first | rfl | (simp; done) | (simp [*]; done)), H', ⟨by have := HK1.out; have := HK2.out; have := HJ57.out; have := HK4.out; have := HK5.out; have := HJ71.out; omega⟩, ⟨by (with_reducible repeat (first | apply Kd.R_alloc | apply Kd.R_drewN | apply Kd.R_drew)); exact HO_20.out⟩, ⟨by (with_reducible repeat (first | apply Kd.R_alloc | apply Kd.R_drewN | apply Kd.R_drew)); exact HO_21.out⟩, ⟨by (with_reducible repeat (first | refine blk_drewN ?_ _ | refine blk_drew ?_ | refine blk_alloc ?_ _)); exact BK101.out⟩, ⟨by (with_reducible repeat (first | refine blk_drewN ?_ _ | refine blk_drew ?_ | refine blk_alloc ?_ _)); exact BK102.out⟩, ⟨by (with_reducible repeat (first | refine blk_drewN ?_ _ | refine blk_drew ?_ | refine blk_alloc ?_ _)); exact BK103.out⟩, ⟨by repeat (first | (with_reducible first | exact HB.out | apply gb_alloc | apply gb_drewN | apply gb_drew1 | refine gb_set ?_ GE101.out | refine gb_set ?_ GE102.out | refine gb_put ?_) | exact HB.out)⟩⟩
                    ·replace c74 := Bool.eq_false_iff.mpr c74
                     subst c74
                     have H1 : (if 0 ≤ (wrap64 (a1 + 1)) then (if (wrap64 (a1 + 1) : Int).toNat ≤ 35184372088832 then (comfitref02_wise.l4 kj71 a0 a1 x6_2 a7 a8 x20_5 x21_5 t122 t123 x26_4 x27_5 x6_2 (List.replicate (wrap64 (a1 + 1) : Int).toNat 0) (List.replicate (wrap64 (a1 + 1) : Int).toNat 0) (wrap64 (a1 + 1)) 0 a2_0 a2_1 a3_0 a3_1 x104000_5 a9_1) else (none)) else (none)) = some r := by rw [if_neg (show ¬ (false = true) by decide)] at H; exact H
                     clear H
                     have H := H1
                     clear H1
                     obtain ⟨ji75, hji75⟩ : ∃ j_ : Int, (wrap64 (a1 + 1)) = j_ := ⟨_, rfl⟩
                     replace H : (if 0 ≤ (ji75) then (if (ji75 : Int).toNat ≤ 35184372088832 then (comfitref02_wise.l4 kj71 a0 a1 x6_2 a7 a8 x20_5 x21_5 t122 t123 x26_4 x27_5 x6_2 (List.replicate (ji75 : Int).toNat 0) (List.replicate (ji75 : Int).toNat 0) ji75 0 a2_0 a2_1 a3_0 a3_1 x104000_5 a9_1) else (none)) else (none)) = some r := by first | (rw [hji75] at H; exact H) | (simp only [hji75] at H ⊢; exact H)
                     (try rw [hji75] at c71b0)
                     have hji75w : (IntKind.i64.wrap (a1 + 1)) = ji75 := (i64_w _).trans hji75
                     (try clear hji11w hji11)
                     by_cases c76 : 0 ≤ (ji75)
                     ·rw [if_pos c76] at H
                      have c76b0 := eq_true c76
                      have c76b1 : decide (0 ≤ (ji75)) = true := decide_eq_true c76
                      clear c76
                      by_cases c77 : (ji75 : Int).toNat ≤ 35184372088832
                      ·rw [if_pos c77] at H
                       have c77b0 := eq_true c77
                       have c77b1 : decide ((ji75 : Int).toNat ≤ 35184372088832) = true := decide_eq_true c77
                       clear c77
                       obtain ⟨y126, hy126⟩ : ∃ y_ : List Int, y_ = (List.replicate (ji75 : Int).toNat 0) := ⟨_, rfl⟩
                       replace H : (comfitref02_wise.l4 kj71 a0 a1 x6_2 a7 a8 x20_5 x21_5 t122 t123 x26_4 x27_5 x6_2 y126 (List.replicate (ji75 : Int).toNat 0) ji75 0 a2_0 a2_1 a3_0 a3_1 x104000_5 a9_1) = some r := by first | (rw [hy126]; with_reducible exact H) | (have H2_ := (Option.bind_some _ _).symm.trans H; rw [hy126]; with_reducible exact H2_) | (have H2_ := (Option.bind_some _ _).symm.trans H; with_reducible exact H2_) | with_reducible exact H | (rw [hy126]; exact H) | exact H
                       have Ny126 := Aside0.mk hy126
                       clear hy126
                       obtain ⟨y129, hy129⟩ : ∃ y_ : List Int, y_ = (List.replicate (ji75 : Int).toNat 0) := ⟨_, rfl⟩
                       replace H : (comfitref02_wise.l4 kj71 a0 a1 x6_2 a7 a8 x20_5 x21_5 t122 t123 x26_4 x27_5 x6_2 y126 y129 ji75 0 a2_0 a2_1 a3_0 a3_1 x104000_5 a9_1) = some r := by first | (rw [hy129]; with_reducible exact H) | (have H2_ := (Option.bind_some _ _).symm.trans H; rw [hy129]; with_reducible exact H2_) | (have H2_ := (Option.bind_some _ _).symm.trans H; with_reducible exact H2_) | with_reducible exact H | (rw [hy129]; exact H) | exact H
                       have Ny129 := Aside0.mk hy129
                       clear hy129
                       have H' := Aside0.mk H
                       clear H
                       try go_wp2
                       have n0_ := Aside0.mk (Kd.R_drew HO_20.out)
                       have n1_ := Aside0.mk (Kd.R_drew HO_21.out)
                       have n2_ := Aside0.mk (blk_drew BK101.out)
                       have n3_ := Aside0.mk (blk_drew BK102.out)
                       have n4_ := Aside0.mk (blk_drew BK103.out)
                       have n5_ := Aside0.mk (gb_drew1 HB.out)
                       clear HO_20
                       clear HO_21
                       clear BK101
                       clear BK102
                       clear BK103
                       clear HB
                       have HO_20 := n0_
                       have HO_21 := n1_
                       have BK101 := n2_
                       have BK102 := n3_
                       have BK103 := n4_
                       have HB := n5_
                       clear n0_ n1_ n2_ n3_ n4_ n5_
                       refine start_ (n := 8) (S := fun w' => True) (ds := []) #[false, false, false, false, false, false, false, false] (by kernel_rfl) rfl rfl trivial (fun hHeld => ?_); refine with_tabW comfitref02_wise.tab25 comfitref02_wise.bits25 (fun HT_ HW_ => ?_)
                       generalize wc.drew = w78 at HO_20 HO_21 BK101 BK102 BK103 HB hHeld ⊢
                       refine pure_ (i := 0) (N := some 175) (v := ?_) (a' := ?_) #[true, false, false, false, false, false, false, false] rfl rfl (any_of HT_.out (by kernel_rfl)) (fun _ _ _ h => h) (Or.inl ⟨by rfl, ?_⟩) ?_ ?_
                       rotate_left
                       ·intro w'
                        go_simp
                        with_reducible rfl
                       rotate_left
                       ·simp only [Act.put, List.setIfInBounds_toArray, List.set_cons_zero, List.set_cons_succ, i64_w, i32_w]
                        rfl
                       refine pure_ (i := 1) (N := some 176) (v := ?_) (a' := ?_) #[true, true, false, false, false, false, false, false] rfl rfl (any_of HT_.out (by kernel_rfl)) (fun _ _ _ h => h) (Or.inl ⟨by rfl, ?_⟩) ?_ ?_
                       rotate_left
                       ·intro w'
                        go_simp
                        with_reducible rfl
                       rotate_left
                       ·simp only [Act.put, List.setIfInBounds_toArray, List.set_cons_zero, List.set_cons_succ, i64_w, i32_w]
                        rfl
                       refine pure_ (i := 3) (N := some 178) (v := ?_) (a' := ?_) #[true, true, false, true, false, false, false, false] rfl rfl (any_of HT_.out (by kernel_rfl)) (fun _ _ _ h => h) (Or.inl ⟨by rfl, ?_⟩) ?_ ?_
                       rotate_left
                       ·intro w'
                        go_simp
                        with_reducible rfl
                       rotate_left
                       ·simp only [Act.put, List.setIfInBounds_toArray, List.set_cons_zero, List.set_cons_succ, i64_w, i32_w]
                        rfl
                       refine pure_ (i := 4) (N := some 179) (v := ?_) (a' := ?_) #[true, true, false, true, true, false, false, false] rfl rfl (any_of HT_.out (by kernel_rfl)) (fun _ _ _ h => h) (Or.inl ⟨by rfl, ?_⟩) ?_ ?_
                       rotate_left
                       ·intro w'
                        go_simp
                        with_reducible rfl
                       rotate_left
                       ·simp only [Act.put, List.setIfInBounds_toArray, List.set_cons_zero, List.set_cons_succ, i64_w, i32_w]
                        rfl
                       refine join_ (σ := Value × Value) 1 #[true, true, true, true, true, true, true, false] (fun s_ => [(177, s_.1), (180, s_.2), (29, s_.1)]) (fun s_ w' => (Kd.R (Kd.int .i64) 3 w' w.heap.size (fun k_ => some k_ ≠ (s_.2 : Value).ownBlock ∧ some k_ ≠ (v105 : Value).ownBlock ∧ some k_ ≠ (v108 : Value).ownBlock) s_.1 y126) ∧ (Kd.R (Kd.int .i64) 3 w' w.heap.size (fun k_ => some k_ ≠ (s_.1 : Value).ownBlock ∧ some k_ ≠ (v105 : Value).ownBlock ∧ some k_ ≠ (v108 : Value).ownBlock) s_.2 y129) ∧ (Kd.R (Kd.int .i64) 3 w' w.heap.size (fun k_ => some k_ ≠ (s_.1 : Value).ownBlock ∧ some k_ ≠ (s_.2 : Value).ownBlock ∧ some k_ ≠ (v108 : Value).ownBlock) v105 x20_5) ∧ (Kd.R (Kd.int .i64) 3 w' w.heap.size (fun k_ => some k_ ≠ (s_.1 : Value).ownBlock ∧ some k_ ≠ (s_.2 : Value).ownBlock ∧ some k_ ≠ (v105 : Value).ownBlock) v108 x21_5) ∧ (w'.heap[gb101]? = some (.cells #[.int .i64 a2_0, .int .i64 a2_1] 26 (0, 0))) ∧ (w'.heap[gb102]? = some (.cells #[.int .i64 a3_0, .int .i64 a3_1] 26 (0, 0))) ∧ (w'.heap[gb103]? = some (.cells #[.int .i64 x104000_5] 3 (0, 0))) ∧ (GB gb103 w w')) ?_ ?_
                       rotate_left
                       ·intro hCont
                        refine two_ (i := 2) (j := 5) (Ni := some 177) (Nj := some 180) #[true, true, true, true, true, false, false, false] #[true, true, false, true, true, true, false, false] rfl rfl rfl rfl (two_of HT_.out (by kernel_rfl)) (by decide) (by decide) (fun K hK => ?_) (fun K hK => ?_)
                        ·skip
                         refine Kd.R_make_step (Kd.int .i64) _ 3 (by rfl) (N := 177) rfl 22 _ _ rfl ji75 rfl rfl Try.underlying22 (.int .i64 0) 8 info3 rfl (by decide) (by omega) 0 (ok := fun _ => True) (okp := fun _ => True) rfl (fun _ hk => hk) trivial (of_decide_eq_true (by first | (with_reducible assumption) | assumption)) (Nat.le_trans (Nat.mul_le_mul_right _ (of_decide_eq_true (by first | (with_reducible assumption) | assumption) : ji75.toNat ≤ 35184372088832)) (by omega)) (Below.refl _ _) (Nat.le_refl _) ?_
                         intro v127 w79 ho80 hb hg_ hnew_
                         clear hg_ hnew_
                         (first | rw [← Ny126.out] at ho80 | (simp only [Int.reduceToNat] at ho80; rw [← Ny126.out] at ho80))
                         have n0_ := Aside0.mk (Kd.R_elder' (kr_ (HO_20.out)) (Kd.R_base ho80) hb)
                         have n1_ := Aside0.mk (Kd.R_elder' (kr_ (HO_21.out)) (Kd.R_base ho80) hb)
                         have n2_ := Aside0.mk (Kd.R_lower (Kd.R_new' (Kd.R_new' ho80 (Kd.R_lt (kr_ (HO_20.out)))) (Kd.R_lt (kr_ (HO_21.out)))) (gb_size (gbp_ HB.out)))
                         have n3_ := Aside0.mk (bkb_ BK101.out hb)
                         have n4_ := Aside0.mk (bkb_ BK102.out hb)
                         have n5_ := Aside0.mk (bkb_ BK103.out hb)
                         have n6_ := Aside0.mk (gb_step (gbp_ HB.out) hb)
                         clear HO_20
                         clear HO_21
                         clear BK101
                         clear BK102
                         clear BK103
                         clear HB
                         have HO_20 := n0_
                         have HO_21 := n1_
                         have HO128 := n2_
                         have BK101 := n3_
                         have BK102 := n4_
                         have BK103 := n5_
                         have HB := n6_
                         clear n0_ n1_ n2_ n3_ n4_ n5_ n6_
                         clear hb ho80
                         refine hK.out _ _ trivial (fun hHeld => ?_)
                         clear hK K
                         refine norm_ (a' := ?_) ?_ ?_
                         rotate_left
                         ·show Act.put _ (some 177) _ = _
                          simp only [Act.put, List.setIfInBounds_toArray, List.set_cons_zero, List.set_cons_succ, i64_w, i32_w]
                          rfl
                         refine pure_ (i := 6) (N := some 29) (v := ?_) (a' := ?_) #[true, true, true, true, true, false, true, false] rfl rfl (any_of HT_.out (by kernel_rfl)) (fun _ _ _ h => h) (Or.inl ⟨by rfl, ?_⟩) ?_ ?_
                         rotate_left
                         ·intro w'
                          go_simp
                          with_reducible rfl
                         rotate_left
                         ·simp only [Act.put, List.setIfInBounds_toArray, List.set_cons_zero, List.set_cons_succ, i64_w, i32_w]
                          rfl
                         refine one_ (i := 5) (N := some 180) #[true, true, true, true, true, true, true, false] rfl rfl (one_of HT_.out (by kernel_rfl)) (by decide) (fun K hK => ?_)
                         refine Kd.R_make_step (Kd.int .i64) _ 3 (by rfl) (N := 180) rfl 22 _ _ rfl ji75 rfl rfl Try.underlying22 (.int .i64 0) 8 info3 rfl (by decide) (by omega) 0 (ok := fun _ => True) (okp := fun _ => True) rfl (fun _ hk => hk) trivial (of_decide_eq_true (by first | (with_reducible assumption) | assumption)) (Nat.le_trans (Nat.mul_le_mul_right _ (of_decide_eq_true (by first | (with_reducible assumption) | assumption) : ji75.toNat ≤ 35184372088832)) (by omega)) (Below.refl _ _) (Nat.le_refl _) ?_
                         intro v130 w81 ho82 hb hg_ hnew_
                         clear hg_ hnew_
                         (first | rw [← Ny129.out] at ho82 | (simp only [Int.reduceToNat] at ho82; rw [← Ny129.out] at ho82))
                         have n0_ := Aside0.mk (Kd.R_elder' (kr_ (HO_20.out)) (Kd.R_base ho82) hb)
                         have n1_ := Aside0.mk (Kd.R_elder' (kr_ (HO_21.out)) (Kd.R_base ho82) hb)
                         have n2_ := Aside0.mk (Kd.R_elder' (kr_ (HO128.out)) (Kd.R_base ho82) hb)
                         have n3_ := Aside0.mk (Kd.R_lower (Kd.R_new' (Kd.R_new' (Kd.R_new' ho82 (Kd.R_lt (kr_ (HO_20.out)))) (Kd.R_lt (kr_ (HO_21.out)))) (Kd.R_lt (kr_ (HO128.out)))) (gb_size (gbp_ HB.out)))
                         have n4_ := Aside0.mk (bkb_ BK101.out hb)
                         have n5_ := Aside0.mk (bkb_ BK102.out hb)
                         have n6_ := Aside0.mk (bkb_ BK103.out hb)
                         have n7_ := Aside0.mk (gb_step (gbp_ HB.out) hb)
                         clear HO_20
                         clear HO_21
                         clear HO128
                         clear BK101
                         clear BK102
                         clear BK103
                         clear HB
                         have HO_20 := n0_
                         have HO_21 := n1_
                         have HO128 := n2_
                         have HO131 := n3_
                         have BK101 := n4_
                         have BK102 := n5_
                         have BK103 := n6_
                         have HB := n7_
                         clear n0_ n1_ n2_ n3_ n4_ n5_ n6_ n7_
                         clear hb ho82
                         refine hK.out _ _ trivial (fun hHeld => ?_)
                         clear hK K
                         refine norm_ (a' := ?_) ?_ ?_
                         rotate_left
                         ·show Act.put _ (some 180) _ = _
                          simp only [Act.put, List.setIfInBounds_toArray, List.set_cons_zero, List.set_cons_succ, i64_w, i32_w]
                          rfl
                         exact norm_ (by simp only [putAll, Act.put, List.setIfInBounds_toArray, List.set_cons_zero, List.set_cons_succ]) (hCont (v127, v130) _ ⟨(by (with_reducible repeat (first | apply Kd.R_alloc | apply Kd.R_drewN | apply Kd.R_drew)); exact Kd.R_mono HO128.out (fun _ hk => ⟨hk.2, ⟨hk.1.1.2, hk.1.2⟩⟩)), (by (with_reducible repeat (first | apply Kd.R_alloc | apply Kd.R_drewN | apply Kd.R_drew)); exact Kd.R_mono HO131.out (fun _ hk => ⟨hk.2, ⟨hk.1.1.2, hk.1.2⟩⟩)), (by (with_reducible repeat (first | apply Kd.R_alloc | apply Kd.R_drewN | apply Kd.R_drew)); exact Kd.R_mono HO_20.out (fun _ hk => ⟨hk.1.2, ⟨hk.2, hk.1.1⟩⟩)), (by (with_reducible repeat (first | apply Kd.R_alloc | apply Kd.R_drewN | apply Kd.R_drew)); exact Kd.R_mono HO_21.out (fun _ hk => ⟨hk.1.2, ⟨hk.2, hk.1.1⟩⟩)), (bk_ BK101.out), (bk_ BK102.out), (bk_ BK103.out), (gbp_ HB.out)⟩)
                        ·skip
                         refine Kd.R_make_step (Kd.int .i64) _ 3 (by rfl) (N := 180) rfl 22 _ _ rfl ji75 rfl rfl Try.underlying22 (.int .i64 0) 8 info3 rfl (by decide) (by omega) 0 (ok := fun _ => True) (okp := fun _ => True) rfl (fun _ hk => hk) trivial (of_decide_eq_true (by first | (with_reducible assumption) | assumption)) (Nat.le_trans (Nat.mul_le_mul_right _ (of_decide_eq_true (by first | (with_reducible assumption) | assumption) : ji75.toNat ≤ 35184372088832)) (by omega)) (Below.refl _ _) (Nat.le_refl _) ?_
                         intro v130 w79 ho80 hb hg_ hnew_
                         clear hg_ hnew_
                         (first | rw [← Ny129.out] at ho80 | (simp only [Int.reduceToNat] at ho80; rw [← Ny129.out] at ho80))
                         have n0_ := Aside0.mk (Kd.R_elder' (kr_ (HO_20.out)) (Kd.R_base ho80) hb)
                         have n1_ := Aside0.mk (Kd.R_elder' (kr_ (HO_21.out)) (Kd.R_base ho80) hb)
                         have n2_ := Aside0.mk (Kd.R_lower (Kd.R_new' (Kd.R_new' ho80 (Kd.R_lt (kr_ (HO_20.out)))) (Kd.R_lt (kr_ (HO_21.out)))) (gb_size (gbp_ HB.out)))
                         have n3_ := Aside0.mk (bkb_ BK101.out hb)
                         have n4_ := Aside0.mk (bkb_ BK102.out hb)
                         have n5_ := Aside0.mk (bkb_ BK103.out hb)
                         have n6_ := Aside0.mk (gb_step (gbp_ HB.out) hb)
                         clear HO_20
                         clear HO_21
                         clear BK101
                         clear BK102
                         clear BK103
                         clear HB
                         have HO_20 := n0_
                         have HO_21 := n1_
                         have HO131 := n2_
                         have BK101 := n3_
                         have BK102 := n4_
                         have BK103 := n5_
                         have HB := n6_
                         clear n0_ n1_ n2_ n3_ n4_ n5_ n6_
                         clear hb ho80
                         refine hK.out _ _ trivial (fun hHeld => ?_)
                         clear hK K
                         refine norm_ (a' := ?_) ?_ ?_
                         rotate_left
                         ·show Act.put _ (some 180) _ = _
                          simp only [Act.put, List.setIfInBounds_toArray, List.set_cons_zero, List.set_cons_succ, i64_w, i32_w]
                          rfl
                         refine one_ (i := 2) (N := some 177) #[true, true, true, true, true, true, false, false] rfl rfl (one_of HT_.out (by kernel_rfl)) (by decide) (fun K hK => ?_)
                         refine Kd.R_make_step (Kd.int .i64) _ 3 (by rfl) (N := 177) rfl 22 _ _ rfl ji75 rfl rfl Try.underlying22 (.int .i64 0) 8 info3 rfl (by decide) (by omega) 0 (ok := fun _ => True) (okp := fun _ => True) rfl (fun _ hk => hk) trivial (of_decide_eq_true (by first | (with_reducible assumption) | assumption)) (Nat.le_trans (Nat.mul_le_mul_right _ (of_decide_eq_true (by first | (with_reducible assumption) | assumption) : ji75.toNat ≤ 35184372088832)) (by omega)) (Below.refl _ _) (Nat.le_refl _) ?_
                         intro v127 w81 ho82 hb hg_ hnew_
                         clear hg_ hnew_
                         (first | rw [← Ny126.out] at ho82 | (simp only [Int.reduceToNat] at ho82; rw [← Ny126.out] at ho82))
                         have n0_ := Aside0.mk (Kd.R_elder' (kr_ (HO_20.out)) (Kd.R_base ho82) hb)
                         have n1_ := Aside0.mk (Kd.R_elder' (kr_ (HO_21.out)) (Kd.R_base ho82) hb)
                         have n2_ := Aside0.mk (Kd.R_elder' (kr_ (HO131.out)) (Kd.R_base ho82) hb)
                         have n3_ := Aside0.mk (Kd.R_lower (Kd.R_new' (Kd.R_new' (Kd.R_new' ho82 (Kd.R_lt (kr_ (HO_20.out)))) (Kd.R_lt (kr_ (HO_21.out)))) (Kd.R_lt (kr_ (HO131.out)))) (gb_size (gbp_ HB.out)))
                         have n4_ := Aside0.mk (bkb_ BK101.out hb)
                         have n5_ := Aside0.mk (bkb_ BK102.out hb)
                         have n6_ := Aside0.mk (bkb_ BK103.out hb)
                         have n7_ := Aside0.mk (gb_step (gbp_ HB.out) hb)
                         clear HO_20
                         clear HO_21
                         clear HO131
                         clear BK101
                         clear BK102
                         clear BK103
                         clear HB
                         have HO_20 := n0_
                         have HO_21 := n1_
                         have HO131 := n2_
                         have HO128 := n3_
                         have BK101 := n4_
                         have BK102 := n5_
                         have BK103 := n6_
                         have HB := n7_
                         clear n0_ n1_ n2_ n3_ n4_ n5_ n6_ n7_
                         clear hb ho82
                         refine hK.out _ _ trivial (fun hHeld => ?_)
                         clear hK K
                         refine norm_ (a' := ?_) ?_ ?_
                         rotate_left
                         ·show Act.put _ (some 177) _ = _
                          simp only [Act.put, List.setIfInBounds_toArray, List.set_cons_zero, List.set_cons_succ, i64_w, i32_w]
                          rfl
                         refine pure_ (i := 6) (N := some 29) (v := ?_) (a' := ?_) #[true, true, true, true, true, true, true, false] rfl rfl (any_of HT_.out (by kernel_rfl)) (fun _ _ _ h => h) (Or.inl ⟨by rfl, ?_⟩) ?_ ?_
                         rotate_left
                         ·intro w'
                          go_simp
                          with_reducible rfl
                         rotate_left
                         ·simp only [Act.put, List.setIfInBounds_toArray, List.set_cons_zero, List.set_cons_succ, i64_w, i32_w]
                          rfl
                         exact norm_ (by simp only [putAll, Act.put, List.setIfInBounds_toArray, List.set_cons_zero, List.set_cons_succ]) (hCont (v127, v130) _ ⟨(by (with_reducible repeat (first | apply Kd.R_alloc | apply Kd.R_drewN | apply Kd.R_drew)); exact Kd.R_mono HO128.out (fun _ hk => ⟨hk.2, ⟨hk.1.1.2, hk.1.2⟩⟩)), (by (with_reducible repeat (first | apply Kd.R_alloc | apply Kd.R_drewN | apply Kd.R_drew)); exact Kd.R_mono HO131.out (fun _ hk => ⟨hk.2, ⟨hk.1.1.2, hk.1.2⟩⟩)), (by (with_reducible repeat (first | apply Kd.R_alloc | apply Kd.R_drewN | apply Kd.R_drew)); exact Kd.R_mono HO_20.out (fun _ hk => ⟨hk.2, ⟨hk.1.2, hk.1.1⟩⟩)), (by (with_reducible repeat (first | apply Kd.R_alloc | apply Kd.R_drewN | apply Kd.R_drew)); exact Kd.R_mono HO_21.out (fun _ hk => ⟨hk.2, ⟨hk.1.2, hk.1.1⟩⟩)), (bk_ BK101.out), (bk_ BK102.out), (bk_ BK103.out), (gbp_ HB.out)⟩)
                       rintro ⟨v127, v130⟩ w83 ⟨h0_, h1_, h2_, h3_, h4_, h5_, h6_, h7_⟩
                       have n0_ : Aside0 (Kd.R (Kd.int .i64) 3 w83 w.heap.size (fun k_ => some k_ ≠ (v130 : Value).ownBlock ∧ some k_ ≠ (v105 : Value).ownBlock ∧ some k_ ≠ (v108 : Value).ownBlock) v127 y126) := ⟨h0_⟩
                       have n1_ : Aside0 (Kd.R (Kd.int .i64) 3 w83 w.heap.size (fun k_ => some k_ ≠ (v127 : Value).ownBlock ∧ some k_ ≠ (v105 : Value).ownBlock ∧ some k_ ≠ (v108 : Value).ownBlock) v130 y129) := ⟨h1_⟩
                       have n2_ : Aside0 (Kd.R (Kd.int .i64) 3 w83 w.heap.size (fun k_ => some k_ ≠ (v127 : Value).ownBlock ∧ some k_ ≠ (v130 : Value).ownBlock ∧ some k_ ≠ (v108 : Value).ownBlock) v105 x20_5) := ⟨h2_⟩
                       have n3_ : Aside0 (Kd.R (Kd.int .i64) 3 w83 w.heap.size (fun k_ => some k_ ≠ (v127 : Value).ownBlock ∧ some k_ ≠ (v130 : Value).ownBlock ∧ some k_ ≠ (v105 : Value).ownBlock) v108 x21_5) := ⟨h3_⟩
                       have n4_ : Aside0 (w83.heap[gb101]? = some (.cells #[.int .i64 a2_0, .int .i64 a2_1] 26 (0, 0))) := ⟨h4_⟩
                       have n5_ : Aside0 (w83.heap[gb102]? = some (.cells #[.int .i64 a3_0, .int .i64 a3_1] 26 (0, 0))) := ⟨h5_⟩
                       have n6_ : Aside0 (w83.heap[gb103]? = some (.cells #[.int .i64 x104000_5] 3 (0, 0))) := ⟨h6_⟩
                       have n7_ : Aside0 (GB gb103 w w83) := ⟨h7_⟩
                       clear HO_20
                       clear HO_21
                       clear BK101
                       clear BK102
                       clear BK103
                       clear HB
                       clear h0_ h1_ h2_ h3_ h4_ h5_ h6_ h7_
                       have HO128 := n0_
                       have HO131 := n1_
                       have HO_20 := n2_
                       have HO_21 := n3_
                       have BK101 := n4_
                       have BK102 := n5_
                       have BK103 := n6_
                       have HB := n7_
                       clear n0_ n1_ n2_ n3_ n4_ n5_ n6_ n7_
                       have hHeld := trivial
                       refine norm_ (a' := ?_) ?_ ?_
                       rotate_left
                       ·simp only [putAll, Act.put, List.setIfInBounds_toArray, List.set_cons_zero, List.set_cons_succ]
                        rfl
                       refine pure_ (i := 7) (N := some 30) (v := ?_) (a' := ?_) #[true, true, true, true, true, true, true, true] rfl rfl (any_of HT_.out (by kernel_rfl)) (fun _ _ _ h => h) (Or.inl ⟨by rfl, ?_⟩) ?_ ?_
                       rotate_left
                       ·intro w'
                        go_simp
                        with_reducible rfl
                       rotate_left
                       ·simp only [Act.put, List.setIfInBounds_toArray, List.set_cons_zero, List.set_cons_succ, i64_w, i32_w]
                        rfl
                       refine done_ (done_of HT_.out (by kernel_rfl)) ?_
                       try go_wp2
                       go_loopg [28, 183] kj71 (fun kq v28 v183 w' => ∃ (x28_7 : Int) (x29_7 : List Int) (x30_7 : List Int) (x183_7 : Int), v28 = .int .i64 x28_7 ∧ v183 = .int .i64 x183_7 ∧ Aside0 (comfitref02_wise.l4 kq a0 a1 x6_2 a7 a8 x20_5 x21_5 t122 t123 x26_4 x27_5 x28_7 x29_7 x30_7 ji75 x183_7 a2_0 a2_1 a3_0 a3_1 x104000_5 a9_1 = some r) ∧ Aside0 (kq ≤ kj71) ∧ Aside0 (Kd.R (Kd.int .i64) 3 w' w.heap.size (fun k_ => some k_ ≠ (v108 : Value).ownBlock ∧ some k_ ≠ (v127 : Value).ownBlock ∧ some k_ ≠ (v130 : Value).ownBlock) v105 x20_5) ∧ Aside0 (Kd.R (Kd.int .i64) 3 w' w.heap.size (fun k_ => some k_ ≠ (v105 : Value).ownBlock ∧ some k_ ≠ (v127 : Value).ownBlock ∧ some k_ ≠ (v130 : Value).ownBlock) v108 x21_5) ∧ Aside0 (Kd.R (Kd.int .i64) 3 w' w.heap.size (fun k_ => some k_ ≠ (v105 : Value).ownBlock ∧ some k_ ≠ (v108 : Value).ownBlock ∧ some k_ ≠ (v130 : Value).ownBlock) v127 x29_7) ∧ Aside0 (Kd.R (Kd.int .i64) 3 w' w.heap.size (fun k_ => some k_ ≠ (v105 : Value).ownBlock ∧ some k_ ≠ (v108 : Value).ownBlock ∧ some k_ ≠ (v127 : Value).ownBlock) v130 x30_7) ∧ Aside0 (w'.heap[gb101]? = some (.cells #[.int .i64 a2_0, .int .i64 a2_1] 26 (0, 0))) ∧ Aside0 (w'.heap[gb102]? = some (.cells #[.int .i64 a3_0, .int .i64 a3_1] 26 (0, 0))) ∧ Aside0 (w'.heap[gb103]? = some (.cells #[.int .i64 x104000_5] 3 (0, 0))) ∧ Aside0 (GB gb103 w w'))
                       case atStart => exact ⟨(x6_2), (y126), (y129), (0), (by first | rfl | (simp; done) | (simp [*]; done)), (by first | rfl | (simp; done) | (simp [*]; done)), H', ⟨Nat.le_refl _⟩, ⟨by (with_reducible repeat (first | apply Kd.R_alloc | apply Kd.R_drewN | apply Kd.R_drew)); exact Kd.R_mono HO_20.out (fun _ hk => ⟨hk.2.2, ⟨hk.1, hk.2.1⟩⟩)⟩, ⟨by (with_reducible repeat (first | apply Kd.R_alloc | apply Kd.R_drewN | apply Kd.R_drew)); exact Kd.R_mono HO_21.out (fun _ hk => ⟨hk.2.2, ⟨hk.1, hk.2.1⟩⟩)⟩, ⟨by (with_reducible repeat (first | apply Kd.R_alloc | apply Kd.R_drewN | apply Kd.R_drew)); exact Kd.R_mono HO128.out (fun _ hk => ⟨hk.2.1, ⟨hk.2.2, hk.1⟩⟩)⟩, ⟨by (with_reducible repeat (first | apply Kd.R_alloc | apply Kd.R_drewN | apply Kd.R_drew)); exact Kd.R_mono HO131.out (fun _ hk => ⟨hk.2.1, ⟨hk.2.2, hk.1⟩⟩)⟩, ⟨by (with_reducible repeat (first | refine blk_drewN ?_ _ | refine blk_drew ?_ | refine blk_alloc ?_ _)); exact BK101.out⟩, ⟨by (with_reducible repeat (first | refine blk_drewN ?_ _ | refine blk_drew ?_ | refine blk_alloc ?_ _)); exact BK102.out⟩, ⟨by (with_reducible repeat (first | refine blk_drewN ?_ _ | refine blk_drew ?_ | refine blk_alloc ?_ _)); exact BK103.out⟩, ⟨by repeat (first | (with_reducible first | exact HB.out | apply gb_alloc | apply gb_drewN | apply gb_drew1 | refine gb_set ?_ GE101.out | refine gb_set ?_ GE102.out | refine gb_put ?_) | exact HB.out)⟩⟩
                       case round => as_aux_lemma =>
                        clear H'
                        try clear p1
                        try clear q1
                        try clear hx1
                        try clear c2
                        try clear p2
                        try clear c3
                        try clear p3
                        try clear q3
                        try clear hx3
                        try clear c5
                        try clear c6
                        try clear p6
                        try clear c7
                        try clear p11
                        try clear q11
                        try clear hx11
                        try clear p12
                        try clear q12
                        try clear hx12
                        try clear c23
                        try clear c23b0
                        try clear c24
                        try clear c25
                        try clear c26
                        try clear c29
                        try clear c30
                        try clear c32
                        try clear c33
                        try clear p34
                        try clear q34
                        try clear hx34
                        try clear hf34
                        try clear c35
                        try clear p36
                        try clear q36
                        try clear hx36
                        try clear hf36
                        try clear c53
                        try clear c53b0
                        try clear c54
                        try clear c54b0
                        try clear c55
                        try clear c55b0
                        try clear c56
                        try clear c56b0
                        try clear c59
                        try clear c59b0
                        try clear c60
                        try clear c61
                        try clear c63
                        try clear c64
                        try clear p64
                        try clear c66
                        try clear c67
                        try clear c68
                        try clear c70
                        try clear c70b0
                        try clear c71
                        try clear c71b0
                        try clear c73
                        try clear c73b0
                        try clear c73b1
                        try clear c74
                        try clear c76
                        try clear c76b0
                        try clear c76b1
                        try clear c77
                        try clear c77b0
                        try clear c77b1
                        try clear hcz62_0
                        try clear hcz62_1
                        try clear hcz65_0
                        try clear hcz65_1
                        try clear hcz69_0
                        try clear hcz69_1
                        try clear hfz62_0
                        try clear hfz62_1
                        try clear hfz65_0
                        try clear hfz65_1
                        try clear hfz69_0
                        try clear hfz69_1
                        try clear hx116_0
                        try clear hx117_0
                        try clear hx119_0
                        try clear hx120_0
                        try clear hx124_0
                        try clear hx125_0
                        try clear hx34_0
                        try clear hx36_0
                        try clear p1
                        try clear p11
                        try clear p116
                        try clear p117
                        try clear p119
                        try clear p12
                        try clear p120
                        try clear p124
                        try clear p125
                        try clear p2
                        try clear p3
                        try clear p34
                        try clear p36
                        try clear p6
                        try clear p64
                        try clear q1
                        try clear q11
                        try clear q116
                        try clear q117
                        try clear q119
                        try clear q12
                        try clear q120
                        try clear q124
                        try clear q125
                        try clear q3
                        try clear q34
                        try clear q36
                        obtain ⟨x28_7, x29_7, x30_7, x183_7, rfl, rfl, HA, HK7, HO_20, HO_21, HO_29, HO_30, BK101, BK102, BK103, HB⟩ := hrel
                        cases gk with
                        | zero => exact absurd HA.out (by simp [comfitref02_wise.l4])
                        | succ k7 =>
                         have H := HA.out
                         clear HA
                         simp only [comfitref02_wise.l4] at H
                         by_cases c84 : x183_7 < ji75
                         ·rw [if_pos c84] at H
                          have c84b0 : decide (x183_7 < ji75) = true := decide_eq_true c84
                          clear c84
                          by_cases c85 : x183_7 ≤ x26_4
                          ·rw [if_pos c85] at H
                           have c85b0 : decide (x183_7 ≤ x26_4) = true := decide_eq_true c85
                           clear c85
                           by_cases c86 : 0 ≤ x183_7
                           ·rw [if_pos c86] at H
                            have c86b0 : decide (0 ≤ x183_7) = true := decide_eq_true c86
                            clear c86
                            by_cases c87 : x183_7 < (x21_5.length : Int)
                            ·rw [if_pos c87] at H
                             have c87b0 : decide (x183_7 < (x21_5.length : Int)) = true := decide_eq_true c87
                             clear c87
                             have H' := Aside0.mk H
                             clear H
                             obtain ⟨Ao88, co88, eo88⟩ := Kd.R_slice HO_21.out
                             subst eo88
                             have p132 : 0 ≤ (x183_7 : Int) := of_decide_eq_true (by first | (with_reducible assumption) | assumption)
                             have q132 : x183_7 < (x21_5.length : Int) := of_decide_eq_true (by first | (with_reducible assumption) | assumption)
                             obtain ⟨ad132, e132, hx132_0⟩ := Kd.at_int (Kd.R_reads' HO_21.out).2.2 x183_7 p132 q132
                             cases e132
                             replace p132 := eq_true p132
                             replace q132 := eq_true q132
                             go_wp2
                             go_roundg k7
                             case measure => have := HK1.out; have := HK2.out; have := HJ57.out; have := HK4.out; have := HK5.out; have := HJ71.out; have := HK7.out; omega
                             case rel => exact ⟨(wrap64 (x28_7 + (wrap64 ((wrap64 (a7 * (rd x21_5 x183_7))) * t123)))), (x29_7), (x30_7), (wrap64 (x183_7 + 1)), (by first | rfl | (simp; done) | (simp [*]; done)), (by first | rfl | (simp; done) | (simp [*]; done)), H', ⟨by have := HK1.out; have := HK2.out; have := HJ57.out; have := HK4.out; have := HK5.out; have := HJ71.out; have := HK7.out; omega⟩, ⟨by (with_reducible repeat (first | apply Kd.R_alloc | apply Kd.R_drewN | apply Kd.R_drew)); exact HO_20.out⟩, ⟨by (with_reducible repeat (first | apply Kd.R_alloc | apply Kd.R_drewN | apply Kd.R_drew)); exact HO_21.out⟩, ⟨by (with_reducible repeat (first | apply Kd.R_alloc | apply Kd.R_drewN | apply Kd.R_drew)); exact HO_29.out⟩, ⟨by (with_reducible repeat (first | apply Kd.R_alloc | apply Kd.R_drewN | apply Kd.R_drew)); exact HO_30.out⟩, ⟨by (with_reducible repeat (first | refine blk_drewN ?_ _ | refine blk_drew ?_ | refine blk_alloc ?_ _)); exact BK101.out⟩, ⟨by (with_reducible repeat (first | refine blk_drewN ?_ _ | refine blk_drew ?_ | refine blk_alloc ?_ _)); exact BK102.out⟩, ⟨by (with_reducible repeat (first | refine blk_drewN ?_ _ | refine blk_drew ?_ | refine blk_alloc ?_ _)); exact BK103.out⟩, ⟨by repeat (first | (with_reducible first | exact HB.out | apply gb_alloc | apply gb_drewN | apply gb_drew1 | refine gb_set ?_ GE101.out | refine gb_set ?_ GE102.out | refine gb_put ?_) | exact HB.out)⟩⟩
                            ·rw [if_neg c87] at H
                             exact absurd H (by simp)
                           ·rw [if_neg c86] at H
                            exact absurd H (by simp)
                          ·rw [if_neg c85] at H
                           have c85b0 : decide (x183_7 ≤ x26_4) = false := decide_eq_false c85
                           clear c85
                           by_cases c89 : x183_7 ≥ x27_5
                           ·rw [if_pos c89] at H
                            have c89b0 : decide (x27_5 ≤ x183_7) = true := decide_eq_true c89
                            clear c89
                            by_cases c90 : 0 ≤ x183_7
                            ·rw [if_pos c90] at H
                             have c90b0 : decide (0 ≤ x183_7) = true := decide_eq_true c90
                             clear c90
                             by_cases c91 : x183_7 < (x20_5.length : Int)
                             ·rw [if_pos c91] at H
                              have c91b0 : decide (x183_7 < (x20_5.length : Int)) = true := decide_eq_true c91
                              clear c91
                              have H' := Aside0.mk H
                              clear H
                              obtain ⟨Ao92, co92, eo92⟩ := Kd.R_slice HO_20.out
                              subst eo92
                              have p133 : 0 ≤ (x183_7 : Int) := of_decide_eq_true (by first | (with_reducible assumption) | assumption)
                              have q133 : x183_7 < (x20_5.length : Int) := of_decide_eq_true (by first | (with_reducible assumption) | assumption)
                              obtain ⟨ad133, e133, hx133_0⟩ := Kd.at_int (Kd.R_reads' HO_20.out).2.2 x183_7 p133 q133
                              cases e133
                              replace p133 := eq_true p133
                              replace q133 := eq_true q133
                              go_wp2
                              go_roundg k7
                              case measure => have := HK1.out; have := HK2.out; have := HJ57.out; have := HK4.out; have := HK5.out; have := HJ71.out; have := HK7.out; omega
                              case rel => exact ⟨(wrap64 (x28_7 + (wrap64 ((wrap64 (a8 * (rd x20_5 x183_7))) * t122)))), (x29_7), (x30_7), (wrap64 (x183_7 + 1)), (by first | rfl | (simp; done) | (simp [*]; done)), (by first | rfl | (simp; done) | (simp [*]; done)), H', ⟨by have := HK1.out; have := HK2.out; have := HJ57.out; have := HK4.out; have := HK5.out; have := HJ71.out; have := HK7.out; omega⟩, ⟨by (with_reducible repeat (first | apply Kd.R_alloc | apply Kd.R_drewN | apply Kd.R_drew)); exact HO_20.out⟩, ⟨by (with_reducible repeat (first | apply Kd.R_alloc | apply Kd.R_drewN | apply Kd.R_drew)); exact HO_21.out⟩, ⟨by (with_reducible repeat (first | apply Kd.R_alloc | apply Kd.R_drewN | apply Kd.R_drew)); exact HO_29.out⟩, ⟨by (with_reducible repeat (first | apply Kd.R_alloc | apply Kd.R_drewN | apply Kd.R_drew)); exact HO_30.out⟩, ⟨by (with_reducible repeat (first | refine blk_drewN ?_ _ | refine blk_drew ?_ | refine blk_alloc ?_ _)); exact BK101.out⟩, ⟨by (with_reducible repeat (first | refine blk_drewN ?_ _ | refine blk_drew ?_ | refine blk_alloc ?_ _)); exact BK102.out⟩, ⟨by (with_reducible repeat (first | refine blk_drewN ?_ _ | refine blk_drew ?_ | refine blk_alloc ?_ _)); exact BK103.out⟩, ⟨by repeat (first | (with_reducible first | exact HB.out | apply gb_alloc | apply gb_drewN | apply gb_drew1 | refine gb_set ?_ GE101.out | refine gb_set ?_ GE102.out | refine gb_put ?_) | exact HB.out)⟩⟩
                             ·rw [if_neg c91] at H
                              exact absurd H (by simp)
                            ·rw [if_neg c90] at H
                             exact absurd H (by simp)
                           ·rw [if_neg c89] at H
                            have c89b0 : decide (x27_5 ≤ x183_7) = false := decide_eq_false c89
                            clear c89
                            by_cases c93 : 0 ≤ x183_7
                            ·rw [if_pos c93] at H
                             have c93b0 : decide (0 ≤ x183_7) = true := decide_eq_true c93
                             clear c93
                             by_cases c94 : x183_7 < (x20_5.length : Int)
                             ·rw [if_pos c94] at H
                              have c94b0 : decide (x183_7 < (x20_5.length : Int)) = true := decide_eq_true c94
                              clear c94
                              by_cases c95 : x183_7 < (x21_5.length : Int)
                              ·rw [if_pos c95] at H
                               have c95b0 : decide (x183_7 < (x21_5.length : Int)) = true := decide_eq_true c95
                               clear c95
                               by_cases c96 : x183_7 < (x29_7.length : Int)
                               ·rw [if_pos c96] at H
                                have c96b0 : decide (x183_7 < (x29_7.length : Int)) = true := decide_eq_true c96
                                clear c96
                                obtain ⟨y136, hy136⟩ : ∃ y_ : List Int, y_ = (x29_7.set (x183_7 : Int).toNat (rd x20_5 x183_7)) := ⟨_, rfl⟩
                                replace H : (if x183_7 < (x30_7.length : Int) then (comfitref02_wise.l4 k7 a0 a1 x6_2 a7 a8 x20_5 x21_5 t122 t123 x26_4 x27_5 x28_7 y136 (x30_7.set (x183_7 : Int).toNat (rd x21_5 x183_7)) ji75 (wrap64 (x183_7 + 1)) a2_0 a2_1 a3_0 a3_1 x104000_5 a9_1) else (none)) = some r := by first | (rw [hy136]; with_reducible exact H) | (have H2_ := (Option.bind_some _ _).symm.trans H; rw [hy136]; with_reducible exact H2_) | (have H2_ := (Option.bind_some _ _).symm.trans H; with_reducible exact H2_) | with_reducible exact H | (rw [hy136]; exact H) | exact H
                                have Ny136 := Aside0.mk hy136
                                clear hy136
                                by_cases c98 : x183_7 < (x30_7.length : Int)
                                ·rw [if_pos c98] at H
                                 have c98b0 : decide (x183_7 < (x30_7.length : Int)) = true := decide_eq_true c98
                                 clear c98
                                 obtain ⟨y137, hy137⟩ : ∃ y_ : List Int, y_ = (x30_7.set (x183_7 : Int).toNat (rd x21_5 x183_7)) := ⟨_, rfl⟩
                                 replace H : (comfitref02_wise.l4 k7 a0 a1 x6_2 a7 a8 x20_5 x21_5 t122 t123 x26_4 x27_5 x28_7 y136 y137 ji75 (wrap64 (x183_7 + 1)) a2_0 a2_1 a3_0 a3_1 x104000_5 a9_1) = some r := by first | (rw [hy137]; with_reducible exact H) | (have H2_ := (Option.bind_some _ _).symm.trans H; rw [hy137]; with_reducible exact H2_) | (have H2_ := (Option.bind_some _ _).symm.trans H; with_reducible exact H2_) | with_reducible exact H | (rw [hy137]; exact H) | exact H
                                 have Ny137 := Aside0.mk hy137
                                 clear hy137
                                 have H' := Aside0.mk H
                                 clear H
                                 try go_wp2
                                 have n0_ := Aside0.mk (Kd.R_drew HO_20.out)
                                 have n1_ := Aside0.mk (Kd.R_drew HO_21.out)
                                 have n2_ := Aside0.mk (Kd.R_drew HO_29.out)
                                 have n3_ := Aside0.mk (Kd.R_drew HO_30.out)
                                 have n4_ := Aside0.mk (blk_drew BK101.out)
                                 have n5_ := Aside0.mk (blk_drew BK102.out)
                                 have n6_ := Aside0.mk (blk_drew BK103.out)
                                 have n7_ := Aside0.mk (gb_drew1 HB.out)
                                 clear HO_20
                                 clear HO_21
                                 clear HO_29
                                 clear HO_30
                                 clear BK101
                                 clear BK102
                                 clear BK103
                                 clear HB
                                 have HO_20 := n0_
                                 have HO_21 := n1_
                                 have HO_29 := n2_
                                 have HO_30 := n3_
                                 have BK101 := n4_
                                 have BK102 := n5_
                                 have BK103 := n6_
                                 have HB := n7_
                                 clear n0_ n1_ n2_ n3_ n4_ n5_ n6_ n7_
                                 obtain ⟨Ao101, co101, eo101⟩ := Kd.R_slice HO_20.out
                                 (first | subst eo101 | (injection eo101 with f1_ f2_ f3_; have f4_ := f1_.symm; have f5_ := f3_.symm; clear f1_ f2_ f3_; subst f4_; subst f5_))
                                 have p134 : 0 ≤ (x183_7 : Int) := of_decide_eq_true (by first | (with_reducible assumption) | assumption)
                                 have q134 : x183_7 < (x20_5.length : Int) := of_decide_eq_true (by first | (with_reducible assumption) | assumption)
                                 obtain ⟨ad134, e134, hx134_0⟩ := Kd.at_int (Kd.R_reads' HO_20.out).2.2 x183_7 p134 q134
                                 cases e134
                                 replace p134 := eq_true p134
                                 replace q134 := eq_true q134
                                 obtain ⟨Ao102, co102, eo102⟩ := Kd.R_slice HO_21.out
                                 (first | subst eo102 | (injection eo102 with f1_ f2_ f3_; have f4_ := f1_.symm; have f5_ := f3_.symm; clear f1_ f2_ f3_; subst f4_; subst f5_))
                                 have p135 : 0 ≤ (x183_7 : Int) := of_decide_eq_true (by first | (with_reducible assumption) | assumption)
                                 have q135 : x183_7 < (x21_5.length : Int) := of_decide_eq_true (by first | (with_reducible assumption) | assumption)
                                 obtain ⟨ad135, e135, hx135_0⟩ := Kd.at_int (Kd.R_reads' HO_21.out).2.2 x183_7 p135 q135
                                 cases e135
                                 replace p135 := eq_true p135
                                 replace q135 := eq_true q135
                                 have p97 : 0 ≤ (x183_7 : Int) := of_decide_eq_true (by first | (with_reducible assumption) | assumption)
                                 have q97 : (x183_7 : Int) < ((x29_7.length : Int) : Int) := of_decide_eq_true (by first | (with_reducible assumption) | assumption)
                                 obtain ⟨go97, co97, eo97, gb97, gl97, cl97, HG97⟩ := Kd.R_form HO_29.out (by omega)
                                 (first | cases eo97 | (injection eo97 with ea_ en_ ec_; (first | subst ea_ | (injection ea_ with ea_; subst ea_)); subst ec_; clear en_))
                                 have GB97 := Aside0.mk gb97
                                 have GG97 := Aside0.mk HG97
                                 clear gb97 gl97 HG97
                                 obtain ⟨hx97_0, hf97_0⟩ := Kd.R_celln 0 HO_29.out (x183_7 : Int) p97 q97
                                 replace p97 := eq_true p97
                                 replace q97 := eq_true q97
                                 have HP103 := Kd.R_putn HO_29.out (x183_7 : Int) (rd x20_5 x183_7)
                                 rw [← Ny136.out] at HP103
                                 have HQ103 := Aside0.mk HP103
                                 clear HP103
                                 have p99 : 0 ≤ (x183_7 : Int) := of_decide_eq_true (by first | (with_reducible assumption) | assumption)
                                 have q99 : (x183_7 : Int) < ((x30_7.length : Int) : Int) := of_decide_eq_true (by first | (with_reducible assumption) | assumption)
                                 obtain ⟨go99, co99, eo99, gb99, gl99, cl99, HG99⟩ := Kd.R_form HO_30.out (by omega)
                                 (first | cases eo99 | (injection eo99 with ea_ en_ ec_; (first | subst ea_ | (injection ea_ with ea_; subst ea_)); subst ec_; clear en_))
                                 have GB99 := Aside0.mk gb99
                                 have GG99 := Aside0.mk HG99
                                 clear gb99 gl99 HG99
                                 obtain ⟨hx99_0, hf99_0⟩ := Kd.R_celln 0 (Kd.R_far (p := ⟨go97, (x183_7 : Int).toNat, none⟩) (Kd.R_mono HO_30.out (fun k_ hk => (⟨hk, fun e_ => hk.2.2 (by rw [e_]; rfl)⟩ : _ ∧ k_ ≠ go97))) (fun _ hk => hk.2) (.int .i64 (rd x20_5 x183_7))) (x183_7 : Int) p99 q99
                                 replace p99 := eq_true p99
                                 replace q99 := eq_true q99
                                 have HP104 := Kd.R_putn (Kd.R_far (p := ⟨go97, (x183_7 : Int).toNat, none⟩) (Kd.R_mono HO_30.out (fun k_ hk => (⟨hk, fun e_ => hk.2.2 (by rw [e_]; rfl)⟩ : _ ∧ k_ ≠ go97))) (fun _ hk => hk.2) (.int .i64 (rd x20_5 x183_7))) (x183_7 : Int) (rd x21_5 x183_7)
                                 rw [← Ny137.out] at HP104
                                 have HQ104 := Aside0.mk HP104
                                 clear HP104
                                 refine start_ (n := 16) (S := fun w' => w'.cell? (ad134.add (x183_7).toNat) = some (.int .i64 (rd x20_5 x183_7)) ∧ w'.cell? (ad135.add (x183_7).toNat) = some (.int .i64 (rd x21_5 x183_7))) (ds := [13, 15]) #[false, false, false, false, false, false, false, false, false, false, false, false, false, false, false, false] (by kernel_rfl) rfl rfl ⟨hx134_0, hx135_0⟩ (fun hHeld => ?_); refine with_tabW comfitref02_wise.tab29 comfitref02_wise.bits29 (fun HT_ HW_ => ?_)
                                 generalize wr.drew = w100 at HO_20 HO_21 HO_29 HO_30 BK101 BK102 BK103 HB GG97 GG99 HQ103 HQ104 hf97_0 hf99_0 hx134_0 hx135_0 hx97_0 hx99_0 hHeld ⊢
                                 refine pure_ (i := 0) (N := some 186) (v := ?_) (a' := ?_) #[true, false, false, false, false, false, false, false, false, false, false, false, false, false, false, false] rfl rfl (any_of HT_.out (by kernel_rfl)) (fun _ _ _ h => h) (Or.inl ⟨by rfl, ?_⟩) ?_ ?_
                                 rotate_left
                                 ·intro w'
                                  go_simp
                                  with_reducible rfl
                                 rotate_left
                                 ·simp only [Act.put, List.setIfInBounds_toArray, List.set_cons_zero, List.set_cons_succ, i64_w, i32_w]
                                  rfl
                                 refine pure_ (i := 1) (N := some 187) (v := ?_) (a' := ?_) #[true, true, false, false, false, false, false, false, false, false, false, false, false, false, false, false] rfl rfl (any_of HT_.out (by kernel_rfl)) (fun _ _ _ h => h) (Or.inl ⟨by rfl, ?_⟩) ?_ ?_
                                 rotate_left
                                 ·intro w'
                                  go_simp
                                  with_reducible rfl
                                 rotate_left
                                 ·simp only [Act.put, List.setIfInBounds_toArray, List.set_cons_zero, List.set_cons_succ, i64_w, i32_w]
                                  rfl
                                 refine pure_ (i := 2) (N := some 188) (v := ?_) (a' := ?_) #[true, true, true, false, false, false, false, false, false, false, false, false, false, false, false, false] rfl rfl (any_of HT_.out (by kernel_rfl)) (fun _ _ _ h => h) (Or.inl ⟨by rfl, ?_⟩) ?_ ?_
                                 rotate_left
                                 ·intro w'
                                  go_simp
                                  with_reducible rfl
                                 rotate_left
                                 ·simp only [Act.put, List.setIfInBounds_toArray, List.set_cons_zero, List.set_cons_succ, i64_w, i32_w]
                                  rfl
                                 refine pure_ (i := 3) (N := some 189) (v := ?_) (a' := ?_) #[true, true, true, true, false, false, false, false, false, false, false, false, false, false, false, false] rfl rfl (any_of HT_.out (by kernel_rfl)) (fun _ _ _ h => h) (Or.inl ⟨by rfl, ?_⟩) ?_ ?_
                                 rotate_left
                                 ·intro w'
                                  go_simp
                                  with_reducible rfl
                                 rotate_left
                                 ·simp only [Act.put, List.setIfInBounds_toArray, List.set_cons_zero, List.set_cons_succ, i64_w, i32_w]
                                  rfl
                                 refine pure_ (i := 4) (N := some 190) (v := ?_) (a' := ?_) #[true, true, true, true, true, false, false, false, false, false, false, false, false, false, false, false] rfl rfl (any_of HT_.out (by kernel_rfl)) (fun _ _ _ h => h) (Or.inl ⟨by rfl, ?_⟩) ?_ ?_
                                 rotate_left
                                 ·intro w'
                                  go_simp
                                  with_reducible rfl
                                 rotate_left
                                 ·simp only [Act.put, List.setIfInBounds_toArray, List.set_cons_zero, List.set_cons_succ, i64_w, i32_w]
                                  rfl
                                 refine pure_ (i := 5) (N := some 191) (v := ?_) (a' := ?_) #[true, true, true, true, true, true, false, false, false, false, false, false, false, false, false, false] rfl rfl (any_of HT_.out (by kernel_rfl)) (fun _ _ _ h => h) (Or.inl ⟨by rfl, ?_⟩) ?_ ?_
                                 rotate_left
                                 ·intro w'
                                  go_simp
                                  with_reducible rfl
                                 rotate_left
                                 ·simp only [Act.put, List.setIfInBounds_toArray, List.set_cons_zero, List.set_cons_succ, i64_w, i32_w]
                                  rfl
                                 refine pure_ (i := 6) (N := some 192) (v := ?_) (a' := ?_) #[true, true, true, true, true, true, true, false, false, false, false, false, false, false, false, false] rfl rfl (any_of HT_.out (by kernel_rfl)) (fun _ _ _ h => h) (Or.inl ⟨by rfl, ?_⟩) ?_ ?_
                                 rotate_left
                                 ·intro w'
                                  go_simp
                                  with_reducible rfl
                                 rotate_left
                                 ·simp only [Act.put, List.setIfInBounds_toArray, List.set_cons_zero, List.set_cons_succ, i64_w, i32_w]
                                  rfl
                                 refine pure_ (i := 8) (N := some 194) (v := ?_) (a' := ?_) #[true, true, true, true, true, true, true, false, true, false, false, false, false, false, false, false] rfl rfl (any_of HT_.out (by kernel_rfl)) (fun _ _ _ h => h) (Or.inl ⟨by rfl, ?_⟩) ?_ ?_
                                 rotate_left
                                 ·intro w'
                                  go_simp
                                  with_reducible rfl
                                 rotate_left
                                 ·simp only [Act.put, List.setIfInBounds_toArray, List.set_cons_zero, List.set_cons_succ, i64_w, i32_w]
                                  rfl
                                 refine pure_ (i := 9) (N := some 195) (v := ?_) (a' := ?_) #[true, true, true, true, true, true, true, false, true, true, false, false, false, false, false, false] rfl rfl (any_of HT_.out (by kernel_rfl)) (fun _ _ _ h => h) (Or.inl ⟨by rfl, ?_⟩) ?_ ?_
                                 rotate_left
                                 ·intro w'
                                  go_simp
                                  with_reducible rfl
                                 rotate_left
                                 ·simp only [Act.put, List.setIfInBounds_toArray, List.set_cons_zero, List.set_cons_succ, i64_w, i32_w]
                                  rfl
                                 refine pure_ (i := 10) (N := some 196) (v := ?_) (a' := ?_) #[true, true, true, true, true, true, true, false, true, true, true, false, false, false, false, false] rfl rfl (any_of HT_.out (by kernel_rfl)) (fun _ _ _ h => h) (Or.inl ⟨by rfl, ?_⟩) ?_ ?_
                                 rotate_left
                                 ·intro w'
                                  go_simp
                                  with_reducible rfl
                                 rotate_left
                                 ·simp only [Act.put, List.setIfInBounds_toArray, List.set_cons_zero, List.set_cons_succ, i64_w, i32_w]
                                  rfl
                                 refine take_ (i := 7) (N := some 193) (v := ?_) (a' := ?_) #[true, true, true, true, true, true, true, true, true, true, true, false, false, false, false, false] rfl rfl (take_ofW HT_.out HW_.out (by kernel_rfl)) (fun _ _ _ h => h) (Or.inl ⟨by rfl, ?_⟩) hHeld ?_ ?_
                                 rotate_left
                                 ·rintro w' ⟨s0, s1⟩
                                  go_simp
                                  with_reducible rfl
                                 rotate_left
                                 ·simp only [Act.put, List.setIfInBounds_toArray, List.set_cons_zero, List.set_cons_succ, i64_w, i32_w]
                                  rfl
                                 refine take_ (i := 11) (N := some 197) (v := ?_) (a' := ?_) #[true, true, true, true, true, true, true, true, true, true, true, true, false, false, false, false] rfl rfl (take_ofW HT_.out HW_.out (by kernel_rfl)) (fun _ _ _ h => h) (Or.inl ⟨by rfl, ?_⟩) hHeld ?_ ?_
                                 rotate_left
                                 ·rintro w' ⟨s0, s1⟩
                                  go_simp
                                  with_reducible rfl
                                 rotate_left
                                 ·simp only [Act.put, List.setIfInBounds_toArray, List.set_cons_zero, List.set_cons_succ, i64_w, i32_w]
                                  rfl
                                 refine pure_ (i := 12) (N := some 198) (v := ?_) (a' := ?_) #[true, true, true, true, true, true, true, true, true, true, true, true, true, false, false, false] rfl rfl (any_of HT_.out (by kernel_rfl)) (fun _ _ _ h => h) (Or.inl ⟨by rfl, ?_⟩) ?_ ?_
                                 rotate_left
                                 ·intro w'
                                  go_simp
                                  with_reducible rfl
                                 rotate_left
                                 ·simp only [Act.put, List.setIfInBounds_toArray, List.set_cons_zero, List.set_cons_succ, i64_w, i32_w]
                                  rfl
                                 refine last_ (i := 13) (N := none) #[true, true, true, true, true, true, true, true, true, true, true, true, true, true, false, false] rfl rfl (one_of HT_.out (by kernel_rfl)) (by decide) (fun K hK => ?_)
                                 refine skip_ (w1 := ?_) (by rfl) rfl ?_ ?_
                                 rotate_left
                                 ·go_simp
                                  rfl
                                 refine hK.out _ _ ?_
                                 clear hK K
                                 refine pure_ (i := 14) (N := some 199) (v := ?_) (a' := ?_) #[true, true, true, true, true, true, true, true, true, true, true, true, true, true, true, false] rfl rfl (any_of HT_.out (by kernel_rfl)) (fun _ _ _ h => h) (Or.inl ⟨by rfl, ?_⟩) ?_ ?_
                                 rotate_left
                                 ·intro w'
                                  go_simp
                                  with_reducible rfl
                                 rotate_left
                                 ·simp only [Act.put, List.setIfInBounds_toArray, List.set_cons_zero, List.set_cons_succ, i64_w, i32_w]
                                  rfl
                                 refine last_ (i := 15) (N := none) #[true, true, true, true, true, true, true, true, true, true, true, true, true, true, true, true] rfl rfl (one_of HT_.out (by kernel_rfl)) (by decide) (fun K hK => ?_)
                                 refine skip_ (w1 := ?_) (by rfl) rfl ?_ ?_
                                 rotate_left
                                 ·go_simp
                                  rfl
                                 refine hK.out _ _ ?_
                                 clear hK K
                                 refine done_ (done_of HT_.out (by kernel_rfl)) ?_
                                 try go_wp2
                                 go_roundg k7
                                 case measure => have := HK1.out; have := HK2.out; have := HJ57.out; have := HK4.out; have := HK5.out; have := HJ71.out; have := HK7.out; omega
                                 case rel => exact ⟨(x28_7), (y136), (y137), (wrap64 (x183_7 + 1)), (by first | rfl | (simp; done) | (simp [*]; done)), (by first | rfl | (simp; done) | (simp [*]; done)), H', ⟨by have := HK1.out; have := HK2.out; have := HJ57.out; have := HK4.out; have := HK5.out; have := HJ71.out; have := HK7.out; omega⟩, ⟨by (with_reducible repeat (first | apply Kd.R_alloc | apply Kd.R_drewN | apply Kd.R_drew)); exact Kd.R_mono (Kd.R_far (p := ⟨go99, (x183_7 : Int).toNat, none⟩) (Kd.R_far (p := ⟨go97, (x183_7 : Int).toNat, none⟩) (Kd.R_mono (Kd.R_mono HO_20.out (fun k_ hk => (⟨hk, fun e_ => hk.2.1 (by rw [e_]; rfl)⟩ : _ ∧ k_ ≠ go97))) (fun k_ hk => (⟨hk, fun e_ => hk.1.2.2 (by rw [e_]; rfl)⟩ : _ ∧ k_ ≠ go99))) (fun _ hk => hk.1.2) (.int .i64 (rd x20_5 x183_7))) (fun _ hk => hk.2) (.int .i64 (rd x21_5 x183_7))) (fun _ hk => ⟨hk.1.1.1, ⟨hk.1.1.2.1, hk.1.1.2.2⟩⟩)⟩, ⟨by (with_reducible repeat (first | apply Kd.R_alloc | apply Kd.R_drewN | apply Kd.R_drew)); exact Kd.R_mono (Kd.R_far (p := ⟨go99, (x183_7 : Int).toNat, none⟩) (Kd.R_far (p := ⟨go97, (x183_7 : Int).toNat, none⟩) (Kd.R_mono (Kd.R_mono HO_21.out (fun k_ hk => (⟨hk, fun e_ => hk.2.1 (by rw [e_]; rfl)⟩ : _ ∧ k_ ≠ go97))) (fun k_ hk => (⟨hk, fun e_ => hk.1.2.2 (by rw [e_]; rfl)⟩ : _ ∧ k_ ≠ go99))) (fun _ hk => hk.1.2) (.int .i64 (rd x20_5 x183_7))) (fun _ hk => hk.2) (.int .i64 (rd x21_5 x183_7))) (fun _ hk => ⟨hk.1.1.1, ⟨hk.1.1.2.1, hk.1.1.2.2⟩⟩)⟩, ⟨by (with_reducible repeat (first | apply Kd.R_alloc | apply Kd.R_drewN | apply Kd.R_drew)); exact Kd.R_mono (Kd.R_far (p := ⟨go99, (x183_7 : Int).toNat, none⟩) (Kd.R_mono HQ103.out (fun k_ hk => (⟨hk, fun e_ => hk.2.2 (by rw [e_]; rfl)⟩ : _ ∧ k_ ≠ go99))) (fun _ hk => hk.2) (.int .i64 (rd x21_5 x183_7))) (fun _ hk => ⟨hk.1.1, ⟨hk.1.2.1, hk.1.2.2⟩⟩)⟩, ⟨by (with_reducible repeat (first | apply Kd.R_alloc | apply Kd.R_drewN | apply Kd.R_drew)); exact Kd.R_mono HQ104.out (fun _ hk => ⟨hk.1.1, ⟨hk.1.2.1, hk.1.2.2⟩⟩)⟩, ⟨by (with_reducible repeat (first | refine blk_drewN ?_ _ | refine blk_drew ?_ | refine blk_alloc ?_ _)); refine blk_far ?_ (by have h_ := Kd.R_ne HO_30.out BK101.out (by decide); intro e_; exact h_ (by rw [e_]; rfl)) _; (with_reducible repeat (first | refine blk_drewN ?_ _ | refine blk_drew ?_ | refine blk_alloc ?_ _)); refine blk_far ?_ (by have h_ := Kd.R_ne HO_29.out BK101.out (by decide); intro e_; exact h_ (by rw [e_]; rfl)) _; (with_reducible repeat (first | refine blk_drewN ?_ _ | refine blk_drew ?_ | refine blk_alloc ?_ _)); exact BK101.out⟩, ⟨by (with_reducible repeat (first | refine blk_drewN ?_ _ | refine blk_drew ?_ | refine blk_alloc ?_ _)); refine blk_far ?_ (by have h_ := Kd.R_ne HO_30.out BK102.out (by decide); intro e_; exact h_ (by rw [e_]; rfl)) _; (with_reducible repeat (first | refine blk_drewN ?_ _ | refine blk_drew ?_ | refine blk_alloc ?_ _)); refine blk_far ?_ (by have h_ := Kd.R_ne HO_29.out BK102.out (by decide); intro e_; exact h_ (by rw [e_]; rfl)) _; (with_reducible repeat (first | refine blk_drewN ?_ _ | refine blk_drew ?_ | refine blk_alloc ?_ _)); exact BK102.out⟩, ⟨by (with_reducible repeat (first | refine blk_drewN ?_ _ | refine blk_drew ?_ | refine blk_alloc ?_ _)); refine blk_far ?_ (by have h_ := gb_ne HO_30.out L103.out; intro e_; exact h_ (by rw [e_]; rfl)) _; (with_reducible repeat (first | refine blk_drewN ?_ _ | refine blk_drew ?_ | refine blk_alloc ?_ _)); refine blk_far ?_ (by have h_ := gb_ne HO_29.out L103.out; intro e_; exact h_ (by rw [e_]; rfl)) _; (with_reducible repeat (first | refine blk_drewN ?_ _ | refine blk_drew ?_ | refine blk_alloc ?_ _)); exact BK103.out⟩, ⟨by repeat (first | (with_reducible first | exact HB.out | apply gb_alloc | apply gb_drewN | apply gb_drew1 | refine gb_set ?_ GB97.out | refine gb_set ?_ GB99.out | refine gb_set ?_ GE101.out | refine gb_set ?_ GE102.out | refine gb_put ?_) | exact HB.out)⟩⟩
                                ·rw [if_neg c98] at H
                                 exact absurd H (by simp)
                               ·rw [if_neg c96] at H
                                exact absurd H (by simp)
                              ·rw [if_neg c95] at H
                               exact absurd H (by simp)
                             ·rw [if_neg c94] at H
                              exact absurd H (by simp)
                            ·rw [if_neg c93] at H
                             exact absurd H (by simp)
                         ·rw [if_neg c84] at H
                          have c84b0 : decide (x183_7 < ji75) = false := decide_eq_false c84
                          clear c84
                          by_cases c105 : a1 < a0
                          ·rw [if_pos c105] at H
                           have c105b0 : decide (a1 < a0) = true := decide_eq_true c105
                           clear c105
                           replace H := Option.bind_eq_some_iff.mp H
                           obtain ⟨t138, A1060, H⟩ := H
                           replace H : (comfitref02_wise.l3 k7 a0 a1 x6_2 a7 a8 x20_5 x21_5 t122 t123 x26_4 (wrap64 (x27_5 + 1)) a2_0 a2_1 a3_0 a3_1 t138 a9_1) = some r := H
                           rw [hji75] at A1060
                           have A106 := Aside0.mk A1060
                           clear A1060
                           have H' := Aside0.mk H
                           clear H
                           have hnb107 := NB101_102.out
                           have hnc107 := NB102_101.out
                           have hnb108 := NB101_103.out
                           have hnc108 := NB103_101.out
                           have hcz109_0 : wr.cell? ⟨gb101, 0, none⟩ = some (.int .i64 a2_0) := (blk_cell BK101.out 0).trans rfl
                           have hcz109_1 : wr.cell? ⟨gb101, 1, none⟩ = some (.int .i64 a2_1) := (blk_cell BK101.out 1).trans rfl
                           have hfz109_0 := blk_frozen BK101.out 0
                           have hfz109_1 := blk_frozen BK101.out 1
                           have hnb110 := NB102_103.out
                           have hnc110 := NB103_102.out
                           have hcz111_0 : wr.cell? ⟨gb102, 0, none⟩ = some (.int .i64 a3_0) := (blk_cell BK102.out 0).trans rfl
                           have hcz111_1 : wr.cell? ⟨gb102, 1, none⟩ = some (.int .i64 a3_1) := (blk_cell BK102.out 1).trans rfl
                           have hfz111_0 := blk_frozen BK102.out 0
                           have hfz111_1 := blk_frozen BK102.out 1
                           have hcz112_0 : wr.cell? ⟨gb103, 0, none⟩ = some (.int .i64 x104000_5) := (blk_cell BK103.out 0).trans rfl
                           have hfz112_0 := blk_frozen BK103.out 0
                           obtain ⟨Ao113, co113, eo113⟩ := Kd.R_slice HO_29.out
                           subst eo113
                           obtain ⟨Ao114, co114, eo114⟩ := Kd.R_slice HO_30.out
                           subst eo114
                           go_wp2_with (first | ((with_reducible refine gate_callee (f := 71) rfl ?_); refine goesL_ (some 243) rfl rfl Try.func71 (by kernel_rfl) rfl #[.int .i64 a0, .int .i64 ji75, .agg #[.int .i64 a2_0, .int .i64 a2_1], .agg #[.int .i64 a3_0, .int .i64 a3_1], .slice Ao113 x29_7.length co113, .slice Ao114 x30_7.length co114, .int .i64 x28_7, .int .i64 a7, .int .i64 a8, .pointer (some ⟨gb103, 0, none⟩)] rfl al_ ?_; (with_reducible refine (ih k7 (by have := HK1.out; have := HK2.out; have := HJ57.out; have := HK4.out; have := HK5.out; have := HJ71.out; have := HK7.out; omega) a0 ji75 a2_0 a2_1 a3_0 a3_1 _ _ x29_7 _ _ x30_7 x28_7 a7 a8 x104000_5 a9_1 gb103 t138 _ (bk_ BK103.out) ?sx4 ?sx5 ?side1 ?side2 ?side3 ?side4 A106.out).mono ?_); (case sx4 => (intro a_ e_ h_; exact gb_ne HO_29.out L103.out (by rw [e_]; exact congrArg some h_.symm))); (case sx5 => (intro a_ e_ h_; exact gb_ne HO_30.out L103.out (by rw [e_]; exact congrArg some h_.symm))); (case side1 => exact kc_ (Kd.R_reads' HO_29.out).2.2); (case side2 => exact (Kd.R_reads' HO_29.out).2.1); (case side3 => exact kc_ (Kd.R_reads' HO_30.out).2.2); (case side4 => exact (Kd.R_reads' HO_30.out).2.1); rintro e w115 ⟨⟨vr_, rfl⟩, hbk, hb⟩; refine ⟨_, rfl, ?_⟩; have n0_ := Aside0.mk (gb_keep (kr_ (HO_20.out)) L103.out hb); have n1_ := Aside0.mk (gb_keep (kr_ (HO_21.out)) L103.out hb); have n2_ := Aside0.mk (gb_keep (kr_ (HO_29.out)) L103.out hb); have n3_ := Aside0.mk (gb_keep (kr_ (HO_30.out)) L103.out hb); have n4_ := Aside0.mk (gb_blk (bk_ BK101.out) hb NB101_103.out); have n5_ := Aside0.mk (gb_blk (bk_ BK102.out) hb NB102_103.out); have n6_ := Aside0.mk hbk; have n7_ := Aside0.mk (gb_trans (gbp_ HB.out) hb); clear HO_20; clear HO_21; clear HO_29; clear HO_30; clear BK101; clear BK102; clear BK103; clear HB; have HO_20 := n0_; have HO_21 := n1_; have HO_29 := n2_; have HO_30 := n3_; have BK101 := n4_; have BK102 := n5_; have BK103 := n6_; have HB := n7_; clear n0_ n1_ n2_ n3_ n4_ n5_ n6_ n7_; (try clear hbk); (try clear hb); (try clear hb2); (try clear hk); (try clear hi)))
                           go_roundg k7
                           case measure => have := HK1.out; have := HK2.out; have := HJ57.out; have := HK4.out; have := HK5.out; have := HJ71.out; have := HK7.out; omega
                           case rel => exact ⟨(x20_5), (x21_5), (wrap64 (x27_5 + 1)), (t138), (by first | rfl | (simp; done) | (simp [*]; done)), H', ⟨by have := HK1.out; have := HK2.out; have := HJ57.out; have := HK4.out; have := HK5.out; have := HJ71.out; have := HK7.out; omega⟩, ⟨by (with_reducible repeat (first | apply Kd.R_alloc | apply Kd.R_drewN | apply Kd.R_drew)); exact Kd.R_mono HO_20.out (fun _ hk => hk.1)⟩, ⟨by (with_reducible repeat (first | apply Kd.R_alloc | apply Kd.R_drewN | apply Kd.R_drew)); exact Kd.R_mono HO_21.out (fun _ hk => hk.1)⟩, ⟨by (with_reducible repeat (first | refine blk_drewN ?_ _ | refine blk_drew ?_ | refine blk_alloc ?_ _)); exact BK101.out⟩, ⟨by (with_reducible repeat (first | refine blk_drewN ?_ _ | refine blk_drew ?_ | refine blk_alloc ?_ _)); exact BK102.out⟩, ⟨by (with_reducible repeat (first | refine blk_drewN ?_ _ | refine blk_drew ?_ | refine blk_alloc ?_ _)); exact BK103.out⟩, ⟨by repeat (first | (with_reducible first | exact HB.out | apply gb_alloc | apply gb_drewN | apply gb_drew1 | refine gb_set ?_ GE101.out | refine gb_set ?_ GE102.out | refine gb_put ?_) | exact HB.out)⟩⟩
                          ·rw [if_neg c105] at H
                           have c105b0 : decide (a1 < a0) = false := decide_eq_false c105
                           clear c105
                           by_cases c117 : x104000_5 < 0
                           ·rw [if_pos c117] at H
                            have c117b0 : decide (x104000_5 < 0) = true := decide_eq_true c117
                            clear c117
                            have H' := Aside0.mk H
                            clear H
                            have hnb118 := NB103_101.out
                            have hnc118 := NB101_103.out
                            have hnb119 := NB103_102.out
                            have hnc119 := NB102_103.out
                            have hcz120_0 : wr.cell? ⟨gb103, 0, none⟩ = some (.int .i64 x104000_5) := (blk_cell BK103.out 0).trans rfl
                            have hfz120_0 := blk_frozen BK103.out 0
                            go_wp2
                            go_roundg k7
                            case measure => have := HK1.out; have := HK2.out; have := HJ57.out; have := HK4.out; have := HK5.out; have := HJ71.out; have := HK7.out; omega
                            case rel => exact ⟨(x20_5), (x21_5), (wrap64 (x27_5 + 1)), (x28_7), (by first | rfl | (simp; done) | (simp [*]; done)), H', ⟨by have := HK1.out; have := HK2.out; have := HJ57.out; have := HK4.out; have := HK5.out; have := HJ71.out; have := HK7.out; omega⟩, ⟨by (with_reducible repeat (first | apply Kd.R_alloc | apply Kd.R_drewN | apply Kd.R_drew)); exact Kd.R_mono (Kd.R_far (p := ⟨gb103, 0, none⟩) (gb_types HO_20.out L103.out) (fun _ hk => hk.2) (.int .i64 x28_7)) (fun _ hk => hk.1.1)⟩, ⟨by (with_reducible repeat (first | apply Kd.R_alloc | apply Kd.R_drewN | apply Kd.R_drew)); exact Kd.R_mono (Kd.R_far (p := ⟨gb103, 0, none⟩) (gb_types HO_21.out L103.out) (fun _ hk => hk.2) (.int .i64 x28_7)) (fun _ hk => hk.1.1)⟩, ⟨by (with_reducible repeat (first | refine blk_drewN ?_ _ | refine blk_drew ?_ | refine blk_alloc ?_ _)); refine blk_far ?_ NB101_103.out _; (with_reducible repeat (first | refine blk_drewN ?_ _ | refine blk_drew ?_ | refine blk_alloc ?_ _)); exact BK101.out⟩, ⟨by (with_reducible repeat (first | refine blk_drewN ?_ _ | refine blk_drew ?_ | refine blk_alloc ?_ _)); refine blk_far ?_ NB102_103.out _; (with_reducible repeat (first | refine blk_drewN ?_ _ | refine blk_drew ?_ | refine blk_alloc ?_ _)); exact BK102.out⟩, ⟨by (with_reducible repeat (first | refine blk_drewN ?_ _ | refine blk_drew ?_ | refine blk_alloc ?_ _)); refine blk_put (cs := #[.int .i64 x104000_5]) ?_ 0 _ rfl; (with_reducible repeat (first | refine blk_drewN ?_ _ | refine blk_drew ?_ | refine blk_alloc ?_ _)); exact BK103.out⟩, ⟨by repeat (first | (with_reducible first | exact HB.out | apply gb_alloc | apply gb_drewN | apply gb_drew1 | refine gb_set ?_ GE101.out | refine gb_set ?_ GE102.out | refine gb_put ?_) | exact HB.out)⟩⟩
                           ·rw [if_neg c117] at H
                            have c117b0 : decide (x104000_5 < 0) = false := decide_eq_false c117
                            clear c117
                            by_cases c121 : x28_7 < x104000_5
                            ·rw [if_pos c121] at H
                             have c121b0 : decide (x28_7 < x104000_5) = true := decide_eq_true c121
                             clear c121
                             have H' := Aside0.mk H
                             clear H
                             have hnb122 := NB103_101.out
                             have hnc122 := NB101_103.out
                             have hnb123 := NB103_102.out
                             have hnc123 := NB102_103.out
                             have hcz124_0 : wr.cell? ⟨gb103, 0, none⟩ = some (.int .i64 x104000_5) := (blk_cell BK103.out 0).trans rfl
                             have hfz124_0 := blk_frozen BK103.out 0
                             go_wp2
                             go_roundg k7
                             case measure => have := HK1.out; have := HK2.out; have := HJ57.out; have := HK4.out; have := HK5.out; have := HJ71.out; have := HK7.out; omega
                             case rel => exact ⟨(x20_5), (x21_5), (wrap64 (x27_5 + 1)), (x28_7), (by first | rfl | (simp; done) | (simp [*]; done)), H', ⟨by have := HK1.out; have := HK2.out; have := HJ57.out; have := HK4.out; have := HK5.out; have := HJ71.out; have := HK7.out; omega⟩, ⟨by (with_reducible repeat (first | apply Kd.R_alloc | apply Kd.R_drewN | apply Kd.R_drew)); exact Kd.R_mono (Kd.R_far (p := ⟨gb103, 0, none⟩) (gb_types HO_20.out L103.out) (fun _ hk => hk.2) (.int .i64 x28_7)) (fun _ hk => hk.1.1)⟩, ⟨by (with_reducible repeat (first | apply Kd.R_alloc | apply Kd.R_drewN | apply Kd.R_drew)); exact Kd.R_mono (Kd.R_far (p := ⟨gb103, 0, none⟩) (gb_types HO_21.out L103.out) (fun _ hk => hk.2) (.int .i64 x28_7)) (fun _ hk => hk.1.1)⟩, ⟨by (with_reducible repeat (first | refine blk_drewN ?_ _ | refine blk_drew ?_ | refine blk_alloc ?_ _)); refine blk_far ?_ NB101_103.out _; (with_reducible repeat (first | refine blk_drewN ?_ _ | refine blk_drew ?_ | refine blk_alloc ?_ _)); exact BK101.out⟩, ⟨by (with_reducible repeat (first | refine blk_drewN ?_ _ | refine blk_drew ?_ | refine blk_alloc ?_ _)); refine blk_far ?_ NB102_103.out _; (with_reducible repeat (first | refine blk_drewN ?_ _ | refine blk_drew ?_ | refine blk_alloc ?_ _)); exact BK102.out⟩, ⟨by (with_reducible repeat (first | refine blk_drewN ?_ _ | refine blk_drew ?_ | refine blk_alloc ?_ _)); refine blk_put (cs := #[.int .i64 x104000_5]) ?_ 0 _ rfl; (with_reducible repeat (first | refine blk_drewN ?_ _ | refine blk_drew ?_ | refine blk_alloc ?_ _)); exact BK103.out⟩, ⟨by repeat (first | (with_reducible first | exact HB.out | apply gb_alloc | apply gb_drewN | apply gb_drew1 | refine gb_set ?_ GE101.out | refine gb_set ?_ GE102.out | refine gb_put ?_) | exact HB.out)⟩⟩
                            ·rw [if_neg c121] at H
                             have c121b0 : decide (x28_7 < x104000_5) = false := decide_eq_false c121
                             clear c121
                             have H' := Aside0.mk H
                             clear H
                             have hnb125 := NB103_101.out
                             have hnc125 := NB101_103.out
                             have hnb126 := NB103_102.out
                             have hnc126 := NB102_103.out
                             have hcz127_0 : wr.cell? ⟨gb103, 0, none⟩ = some (.int .i64 x104000_5) := (blk_cell BK103.out 0).trans rfl
                             have hfz127_0 := blk_frozen BK103.out 0
                             go_wp2
                             go_roundg k7
                             case measure => have := HK1.out; have := HK2.out; have := HJ57.out; have := HK4.out; have := HK5.out; have := HJ71.out; have := HK7.out; omega
                             case rel => exact ⟨(x20_5), (x21_5), (wrap64 (x27_5 + 1)), (x104000_5), (by first | rfl | (simp; done) | (simp [*]; done)), H', ⟨by have := HK1.out; have := HK2.out; have := HJ57.out; have := HK4.out; have := HK5.out; have := HJ71.out; have := HK7.out; omega⟩, ⟨by (with_reducible repeat (first | apply Kd.R_alloc | apply Kd.R_drewN | apply Kd.R_drew)); exact Kd.R_mono HO_20.out (fun _ hk => hk.1)⟩, ⟨by (with_reducible repeat (first | apply Kd.R_alloc | apply Kd.R_drewN | apply Kd.R_drew)); exact Kd.R_mono HO_21.out (fun _ hk => hk.1)⟩, ⟨by (with_reducible repeat (first | refine blk_drewN ?_ _ | refine blk_drew ?_ | refine blk_alloc ?_ _)); exact BK101.out⟩, ⟨by (with_reducible repeat (first | refine blk_drewN ?_ _ | refine blk_drew ?_ | refine blk_alloc ?_ _)); exact BK102.out⟩, ⟨by (with_reducible repeat (first | refine blk_drewN ?_ _ | refine blk_drew ?_ | refine blk_alloc ?_ _)); exact BK103.out⟩, ⟨by repeat (first | (with_reducible first | exact HB.out | apply gb_alloc | apply gb_drewN | apply gb_drew1 | refine gb_set ?_ GE101.out | refine gb_set ?_ GE102.out | refine gb_put ?_) | exact HB.out)⟩⟩
                      ·rw [if_neg c77] at H
                       exact absurd H (by simp)
                     ·rw [if_neg c76] at H
                      exact absurd H (by simp)
                 ·rw [if_neg c71] at H
                  have c71b0 : decide (x27_5 ≤ (wrap64 (a1 + 1))) = false := decide_eq_false c71
                  (try rw [hji11] at c71b0)
                  clear c71
                  have H' := Aside0.mk H
                  clear H
                  go_wp2
                  go_roundg k5
                  case measure => have := HK1.out; have := HK2.out; have := HJ57.out; have := HK4.out; have := HK5.out; omega
                  case rel => exact ⟨(x20_5), (x21_5), (wrap64 (x26_4 + 1)), (x104000_5), (by first | rfl | (simp; done) | (simp [*]; done)), H', ⟨by have := HK1.out; have := HK2.out; have := HJ57.out; have := HK4.out; have := HK5.out; omega⟩, ⟨by (with_reducible repeat (first | apply Kd.R_alloc | apply Kd.R_drewN | apply Kd.R_drew)); exact HO_20.out⟩, ⟨by (with_reducible repeat (first | apply Kd.R_alloc | apply Kd.R_drewN | apply Kd.R_drew)); exact HO_21.out⟩, ⟨by (with_reducible repeat (first | refine blk_drewN ?_ _ | refine blk_drew ?_ | refine blk_alloc ?_ _)); exact BK101.out⟩, ⟨by (with_reducible repeat (first | refine blk_drewN ?_ _ | refine blk_drew ?_ | refine blk_alloc ?_ _)); exact BK102.out⟩, ⟨by (with_reducible repeat (first | refine blk_drewN ?_ _ | refine blk_drew ?_ | refine blk_alloc ?_ _)); exact BK103.out⟩, ⟨by repeat (first | (with_reducible first | exact HB.out | apply gb_alloc | apply gb_drewN | apply gb_drew1 | refine gb_set ?_ GE101.out | refine gb_set ?_ GE102.out | refine gb_put ?_) | exact HB.out)⟩⟩
              ·rw [if_neg c70] at H
               have c70b0 : decide (x26_4 ≤ a1) = false := decide_eq_false c70
               clear c70
               obtain rfl := Option.some.inj H
               have hnb128 := NB103_101.out
               have hnc128 := NB101_103.out
               have hnb129 := NB103_102.out
               have hnc129 := NB102_103.out
               have hcz130_0 : wr.cell? ⟨gb103, 0, none⟩ = some (.int .i64 x104000_4) := (blk_cell BK103.out 0).trans rfl
               have hfz130_0 := blk_frozen BK103.out 0
               go_wp2
               first | go_end0 | ((try simp only [Exit.inBlock, Exit.then]); refine bodyPost_ret (results_none rfl _ _ _) rfl ?_)
               exact ⟨⟨_, rfl⟩, by (with_reducible repeat (first | refine blk_drewN ?_ _ | refine blk_drew ?_ | refine blk_alloc ?_ _)); exact BK103.out, by repeat (first | (with_reducible first | exact HB.out | apply gb_alloc | apply gb_drewN | apply gb_drew1 | refine gb_set ?_ GE101.out | refine gb_set ?_ GE102.out | refine gb_put ?_) | exact HB.out)⟩
  ·rw [if_neg c13] at H
   exact absurd H (by simp)
 ·rw [if_neg c12] at H
  exact absurd H (by simp)

end Go.Proofs.Ytdppnmfljfdhaaa.X
