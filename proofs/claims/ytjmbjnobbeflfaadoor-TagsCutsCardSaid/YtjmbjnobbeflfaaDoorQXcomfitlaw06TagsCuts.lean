/- Written by a program of this session (wip/tools/xprint.py, which calls the kit's print): Go functions as Lean functions, and for each the proof that the machine's call does what it says; no conditions but those that each theorem names. -/
import Derived.Test.YtjmbjnobbeflfaaDoorQX0
import Derived.Test.YtjmbjnobbeflfaaDoorQXC
import Derived.Test.YtjmbjnobbeflfaaDoorQXE
import Derived.Test.YtjmbjnobbeflfaaDoorQXRC
import Derived.Test.YtjmbjnobbeflfaaDoorQXT
import Derived.Test.YtjmbjnobbeflfaaDoorQHCutter
import Derived.Test.YtjmbjnobbeflfaaDoorQHRun
namespace Go.Proofs.YtjmbjnobbeflfaaDoor.X
open Go.RowKit Go.Proofs.YtjmbjnobbeflfaaDoorW.PrintWords Go.Proofs.YtjmbjnobbeflfaaDoorW.PrintLast Go.Proofs.YtjmbjnobbeflfaaDoorW.PrintMore
attribute [local go_sem] max2_int min2_int max_two min_two max_three min_three max_four min_four   -- for this text's walks alone
set_option linter.unusedVariables false
set_option linter.unusedSimpArgs false

/-! ### comfitlaw06_TagsCuts: function 4 -/
def comfitlaw06_TagsCuts.j0 : Nat → Int → ByteArray → Int → ByteArray → Int → Int → Bool → ByteArray → ByteArray → ByteArray → ByteArray → Option (Bool)
 | 0, _, _, _, _, _, _, _, _, _, _, _ => none
 | k + 1, x0, x2, x3, x11, x12, x13, x81, x173000, x173001, x173002, x173003 => if x81 = true then (none) else (if x3 < 0 then (if x11.toList = ([] : List UInt8) then (if x12 = 0 then (some (x13 == 2)) else (none)) else (none)) else (if x3 > 1000 then (if x11.toList = ([] : List UInt8) then (if x12 = 0 then (some (x13 == 2)) else (none)) else (none)) else ((comfitref06_Run.f k x0 x173000 x173001 x173002 x173003 x2 x3).bind fun bt185 => (if x11.toList = bt185.1.toList then (if x12 = bt185.2.1 then (some (x13 == bt185.2.2)) else (none)) else (none)))))
def comfitlaw06_TagsCuts.f (k : Nat) (a0 : Int) (a1_0 : ByteArray) (a1_1 : ByteArray) (a1_2 : ByteArray) (a1_3 : ByteArray) (a2 : ByteArray) (a3 : Int) : Option (Bool) := (comfitlaw06_text.f a2).bind fun t173 => ((tags_Cut.f a0 a1_0 a1_1 a1_2 a1_3 t173).bind fun bt174 => ((comfitlaw06_text.f a2).bind fun t176 => ((tags_Run.f a0 a1_0 a1_1 a1_2 a1_3 t176 a3).bind fun bt177 => ((comfitref06_Cutter.f a0 a1_0 a1_1 a1_2 a1_3 a2).bind fun t180 => (if t180 = true then ((comfitref06_Cut.f a0 a1_0 a1_1 a1_2 a1_3 a2).bind fun bt182 => (if bt174.1.toList = bt182.1.toList then (if bt174.2 = bt182.2 then ((comfitlaw06_awake.f k).bind fun t184 => (comfitlaw06_TagsCuts.j0 k a0 a2 a3 bt177.1 bt177.2.1 bt177.2.2 (!t184) a1_0 a1_1 a1_2 a1_3)) else (comfitlaw06_TagsCuts.j0 k a0 a2 a3 bt177.1 bt177.2.1 bt177.2.2 true a1_0 a1_1 a1_2 a1_3)) else (comfitlaw06_TagsCuts.j0 k a0 a2 a3 bt177.1 bt177.2.1 bt177.2.2 true a1_0 a1_1 a1_2 a1_3))) else (if bt174.1.toList = ([] : List UInt8) then (if bt177.1.toList = ([] : List UInt8) then (if bt177.2.1 = 0 then (if bt174.2 = 2 then (if bt177.2.2 = 2 then ((comfitlaw06_awake.f k).bind fun t181 => (some t181)) else (none)) else (none)) else (none)) else (none)) else (none)))))))
def comfitlaw06_TagsCuts.T1 : Bool × List (List Nat × List Nat) := (true, [([], []), ([], []), ([], []), ([2], [2]), ([0, 1, 3, 3], [0, 1, 3]), ([4], [4]), ([5], [5]), ([5], [5]), ([6, 4, 0, 1, 2, 3, 4, 5, 6], [6]), ([7, 8, 0, 1, 2, 3, 4, 5, 6, 7, 8], [7])])
def comfitlaw06_TagsCuts.B1 : List Nat := [0, 0, 0, 4, 15, 31, 63, 63, 127, 511]
theorem comfitlaw06_TagsCuts.tab1 : rtab .any (opsOf Tryd.f4 1) = comfitlaw06_TagsCuts.T1 := by kernel_rfl
theorem comfitlaw06_TagsCuts.bits1 : waitsOk comfitlaw06_TagsCuts.T1.2 comfitlaw06_TagsCuts.B1 = true := by kernel_rfl
def comfitlaw06_TagsCuts.T2 : Bool × List (List Nat × List Nat) := (true, [([], []), ([], []), ([], []), ([2], [2]), ([], []), ([0, 1, 3, 4, 3], [0, 1, 3, 4]), ([5], [5]), ([6], [6]), ([6], [6]), ([6], [6]), ([7, 5, 0, 1, 2, 3, 4, 5, 6, 7], [7]), ([8, 10, 0, 1, 2, 3, 4, 5, 6, 7, 8, 10], [8]), ([9, 11, 0, 1, 2, 3, 4, 5, 6, 7, 8, 9, 10, 11], [9])])
def comfitlaw06_TagsCuts.B2 : List Nat := [0, 0, 0, 4, 0, 31, 63, 127, 127, 127, 255, 1535, 4095]
theorem comfitlaw06_TagsCuts.tab2 : rtab .any (opsOf Tryd.f4 2) = comfitlaw06_TagsCuts.T2 := by kernel_rfl
theorem comfitlaw06_TagsCuts.bits2 : waitsOk comfitlaw06_TagsCuts.T2.2 comfitlaw06_TagsCuts.B2 = true := by kernel_rfl
set_option maxHeartbeats 8000000 in
set_option maxRecDepth 100000 in
theorem comfitlaw06_TagsCuts.calls (k : Nat) (a0 : Int) (a1_0 : ByteArray) (a1_1 : ByteArray) (a1_2 : ByteArray) (a1_3 : ByteArray) (a2 : ByteArray) (a3 : Int) (r : Bool) (w : World) (h : comfitlaw06_TagsCuts.f k a0 a1_0 a1_1 a1_2 a1_3 a2 a3 = some r) :
  Calls Tryd.prog 4 #[.int .i64 a0, .agg #[.string a1_0, .string a1_1, .string a1_2, .string a1_3], .string a2, .int .i64 a3] w fun e w' => e = .returned (.bool r) ∧ Below w.heap.size w w' := by
 have hu22 := Tryd.underlying22
 have HB := Aside0.mk (Below.refl w.heap.size w)
 have H : ((comfitlaw06_text.f a2).bind fun t173 => ((tags_Cut.f a0 a1_0 a1_1 a1_2 a1_3 t173).bind fun bt174 => ((comfitlaw06_text.f a2).bind fun t176 => ((tags_Run.f a0 a1_0 a1_1 a1_2 a1_3 t176 a3).bind fun bt177 => ((comfitref06_Cutter.f a0 a1_0 a1_1 a1_2 a1_3 a2).bind fun t180 => (if t180 = true then ((comfitref06_Cut.f a0 a1_0 a1_1 a1_2 a1_3 a2).bind fun bt182 => (if bt174.1.toList = bt182.1.toList then (if bt174.2 = bt182.2 then ((comfitlaw06_awake.f k).bind fun t184 => (comfitlaw06_TagsCuts.j0 k a0 a2 a3 bt177.1 bt177.2.1 bt177.2.2 (!t184) a1_0 a1_1 a1_2 a1_3)) else (comfitlaw06_TagsCuts.j0 k a0 a2 a3 bt177.1 bt177.2.1 bt177.2.2 true a1_0 a1_1 a1_2 a1_3)) else (comfitlaw06_TagsCuts.j0 k a0 a2 a3 bt177.1 bt177.2.1 bt177.2.2 true a1_0 a1_1 a1_2 a1_3))) else (if bt174.1.toList = ([] : List UInt8) then (if bt177.1.toList = ([] : List UInt8) then (if bt177.2.1 = 0 then (if bt174.2 = 2 then (if bt177.2.2 = 2 then ((comfitlaw06_awake.f k).bind fun t181 => (some t181)) else (none)) else (none)) else (none)) else (none)) else (none)))))))) = some r := h
 clear h
 replace H := Option.bind_eq_some_iff.mp H
 obtain ⟨t173, A50, H⟩ := H
 replace H : ((tags_Cut.f a0 a1_0 a1_1 a1_2 a1_3 t173).bind fun bt174 => ((comfitlaw06_text.f a2).bind fun t176 => ((tags_Run.f a0 a1_0 a1_1 a1_2 a1_3 t176 a3).bind fun bt177 => ((comfitref06_Cutter.f a0 a1_0 a1_1 a1_2 a1_3 a2).bind fun t180 => (if t180 = true then ((comfitref06_Cut.f a0 a1_0 a1_1 a1_2 a1_3 a2).bind fun bt182 => (if bt174.1.toList = bt182.1.toList then (if bt174.2 = bt182.2 then ((comfitlaw06_awake.f k).bind fun t184 => (comfitlaw06_TagsCuts.j0 k a0 a2 a3 bt177.1 bt177.2.1 bt177.2.2 (!t184) a1_0 a1_1 a1_2 a1_3)) else (comfitlaw06_TagsCuts.j0 k a0 a2 a3 bt177.1 bt177.2.1 bt177.2.2 true a1_0 a1_1 a1_2 a1_3)) else (comfitlaw06_TagsCuts.j0 k a0 a2 a3 bt177.1 bt177.2.1 bt177.2.2 true a1_0 a1_1 a1_2 a1_3))) else (if bt174.1.toList = ([] : List UInt8) then (if bt177.1.toList = ([] : List UInt8) then (if bt177.2.1 = 0 then (if bt174.2 = 2 then (if bt177.2.2 = 2 then ((comfitlaw06_awake.f k).bind fun t181 => (some t181)) else (none)) else (none)) else (none)) else (none)) else (none))))))) = some r := H
 have A5 := Aside0.mk A50
 clear A50
 replace H := Option.bind_eq_some_iff.mp H
 obtain ⟨⟨t174, t175⟩, A60, H⟩ := H
 replace H : ((comfitlaw06_text.f a2).bind fun t176 => ((tags_Run.f a0 a1_0 a1_1 a1_2 a1_3 t176 a3).bind fun bt177 => ((comfitref06_Cutter.f a0 a1_0 a1_1 a1_2 a1_3 a2).bind fun t180 => (if t180 = true then ((comfitref06_Cut.f a0 a1_0 a1_1 a1_2 a1_3 a2).bind fun bt182 => (if t174.toList = bt182.1.toList then (if t175 = bt182.2 then ((comfitlaw06_awake.f k).bind fun t184 => (comfitlaw06_TagsCuts.j0 k a0 a2 a3 bt177.1 bt177.2.1 bt177.2.2 (!t184) a1_0 a1_1 a1_2 a1_3)) else (comfitlaw06_TagsCuts.j0 k a0 a2 a3 bt177.1 bt177.2.1 bt177.2.2 true a1_0 a1_1 a1_2 a1_3)) else (comfitlaw06_TagsCuts.j0 k a0 a2 a3 bt177.1 bt177.2.1 bt177.2.2 true a1_0 a1_1 a1_2 a1_3))) else (if t174.toList = ([] : List UInt8) then (if bt177.1.toList = ([] : List UInt8) then (if bt177.2.1 = 0 then (if t175 = 2 then (if bt177.2.2 = 2 then ((comfitlaw06_awake.f k).bind fun t181 => (some t181)) else (none)) else (none)) else (none)) else (none)) else (none)))))) = some r := H
 have A6 := Aside0.mk A60
 clear A60
 replace H := Option.bind_eq_some_iff.mp H
 obtain ⟨t176, A70, H⟩ := H
 replace H : ((tags_Run.f a0 a1_0 a1_1 a1_2 a1_3 t176 a3).bind fun bt177 => ((comfitref06_Cutter.f a0 a1_0 a1_1 a1_2 a1_3 a2).bind fun t180 => (if t180 = true then ((comfitref06_Cut.f a0 a1_0 a1_1 a1_2 a1_3 a2).bind fun bt182 => (if t174.toList = bt182.1.toList then (if t175 = bt182.2 then ((comfitlaw06_awake.f k).bind fun t184 => (comfitlaw06_TagsCuts.j0 k a0 a2 a3 bt177.1 bt177.2.1 bt177.2.2 (!t184) a1_0 a1_1 a1_2 a1_3)) else (comfitlaw06_TagsCuts.j0 k a0 a2 a3 bt177.1 bt177.2.1 bt177.2.2 true a1_0 a1_1 a1_2 a1_3)) else (comfitlaw06_TagsCuts.j0 k a0 a2 a3 bt177.1 bt177.2.1 bt177.2.2 true a1_0 a1_1 a1_2 a1_3))) else (if t174.toList = ([] : List UInt8) then (if bt177.1.toList = ([] : List UInt8) then (if bt177.2.1 = 0 then (if t175 = 2 then (if bt177.2.2 = 2 then ((comfitlaw06_awake.f k).bind fun t181 => (some t181)) else (none)) else (none)) else (none)) else (none)) else (none))))) = some r := H
 have A7 := Aside0.mk A70
 clear A70
 replace H := Option.bind_eq_some_iff.mp H
 obtain ⟨⟨t177, t178, t179⟩, A80, H⟩ := H
 replace H : ((comfitref06_Cutter.f a0 a1_0 a1_1 a1_2 a1_3 a2).bind fun t180 => (if t180 = true then ((comfitref06_Cut.f a0 a1_0 a1_1 a1_2 a1_3 a2).bind fun bt182 => (if t174.toList = bt182.1.toList then (if t175 = bt182.2 then ((comfitlaw06_awake.f k).bind fun t184 => (comfitlaw06_TagsCuts.j0 k a0 a2 a3 t177 t178 t179 (!t184) a1_0 a1_1 a1_2 a1_3)) else (comfitlaw06_TagsCuts.j0 k a0 a2 a3 t177 t178 t179 true a1_0 a1_1 a1_2 a1_3)) else (comfitlaw06_TagsCuts.j0 k a0 a2 a3 t177 t178 t179 true a1_0 a1_1 a1_2 a1_3))) else (if t174.toList = ([] : List UInt8) then (if t177.toList = ([] : List UInt8) then (if t178 = 0 then (if t175 = 2 then (if t179 = 2 then ((comfitlaw06_awake.f k).bind fun t181 => (some t181)) else (none)) else (none)) else (none)) else (none)) else (none)))) = some r := H
 have A8 := Aside0.mk A80
 clear A80
 replace H := Option.bind_eq_some_iff.mp H
 obtain ⟨t180, A90, H⟩ := H
 replace H : (if t180 = true then ((comfitref06_Cut.f a0 a1_0 a1_1 a1_2 a1_3 a2).bind fun bt182 => (if t174.toList = bt182.1.toList then (if t175 = bt182.2 then ((comfitlaw06_awake.f k).bind fun t184 => (comfitlaw06_TagsCuts.j0 k a0 a2 a3 t177 t178 t179 (!t184) a1_0 a1_1 a1_2 a1_3)) else (comfitlaw06_TagsCuts.j0 k a0 a2 a3 t177 t178 t179 true a1_0 a1_1 a1_2 a1_3)) else (comfitlaw06_TagsCuts.j0 k a0 a2 a3 t177 t178 t179 true a1_0 a1_1 a1_2 a1_3))) else (if t174.toList = ([] : List UInt8) then (if t177.toList = ([] : List UInt8) then (if t178 = 0 then (if t175 = 2 then (if t179 = 2 then ((comfitlaw06_awake.f k).bind fun t181 => (some t181)) else (none)) else (none)) else (none)) else (none)) else (none))) = some r := H
 have A9 := Aside0.mk A90
 clear A90
 by_cases c10 : t180 = true
 ·subst c10
  have H1 : ((comfitref06_Cut.f a0 a1_0 a1_1 a1_2 a1_3 a2).bind fun bt182 => (if t174.toList = bt182.1.toList then (if t175 = bt182.2 then ((comfitlaw06_awake.f k).bind fun t184 => (comfitlaw06_TagsCuts.j0 k a0 a2 a3 t177 t178 t179 (!t184) a1_0 a1_1 a1_2 a1_3)) else (comfitlaw06_TagsCuts.j0 k a0 a2 a3 t177 t178 t179 true a1_0 a1_1 a1_2 a1_3)) else (comfitlaw06_TagsCuts.j0 k a0 a2 a3 t177 t178 t179 true a1_0 a1_1 a1_2 a1_3))) = some r := by rw [if_pos rfl] at H; exact H
  clear H
  have H := H1
  clear H1
  replace H := Option.bind_eq_some_iff.mp H
  obtain ⟨⟨t182, t183⟩, A110, H⟩ := H
  replace H : (if t174.toList = t182.toList then (if t175 = t183 then ((comfitlaw06_awake.f k).bind fun t184 => (comfitlaw06_TagsCuts.j0 k a0 a2 a3 t177 t178 t179 (!t184) a1_0 a1_1 a1_2 a1_3)) else (comfitlaw06_TagsCuts.j0 k a0 a2 a3 t177 t178 t179 true a1_0 a1_1 a1_2 a1_3)) else (comfitlaw06_TagsCuts.j0 k a0 a2 a3 t177 t178 t179 true a1_0 a1_1 a1_2 a1_3)) = some r := H
  have A11 := Aside0.mk A110
  clear A110
  have HC12 := Aside0.mk H
  clear H
  go_enter Tryd.func4, Tryd.ntmps4
  try go_wp2_with (first | ((with_reducible refine gate_dst (N := 5) rfl ?_); refine box_event ?hg (N := 5) ?hd (cs := #[.string a1_0, .string a1_1, .string a1_2, .string a1_3]) (t := 22) ?hr ?_; (case hd => rfl); (case hg => rfl); (case hr => first | (go_simp; done) | (go_simp; rfl)); intro gb172 hg w13 hbox hb; have n0_ := Aside0.mk (below_step (hb_ HB.out) hb); have n1_ := Aside0.mk (hbox); have n2_ := Aside0.mk ((by rw [hg]; exact (below_size (hb_ HB.out)) : w.heap.size ≤ gb172)); have n3_ := Aside0.mk ((by rw [hg]; exact (below_size (hb_ HB.out)) : w.heap.size ≤ gb172)); clear HB; have HB := n0_; have BK172 := n1_; have GW172 := n2_; have GE172 := n3_; clear n0_ n1_ n2_ n3_; clear hb hbox hg))
  have n0_ := Aside0.mk (blk_drew BK172.out)
  have n1_ := Aside0.mk (below_drew1 HB.out)
  clear BK172
  clear HB
  have BK172 := n0_
  have HB := n1_
  clear n0_ n1_
  refine start_ (n := 10) (S := fun w' => w'.cell? ⟨gb172, 0, none⟩ = some (.string a1_0) ∧ w'.cell? ⟨gb172, 1, none⟩ = some (.string a1_1) ∧ w'.cell? ⟨gb172, 2, none⟩ = some (.string a1_2) ∧ w'.cell? ⟨gb172, 3, none⟩ = some (.string a1_3)) (ds := []) #[false, false, false, false, false, false, false, false, false, false] (by kernel_rfl) rfl rfl ⟨(blk_cell BK172.out 0).trans rfl, (blk_cell BK172.out 1).trans rfl, (blk_cell BK172.out 2).trans rfl, (blk_cell BK172.out 3).trans rfl⟩ (fun hHeld => ?_); refine with_tabW comfitlaw06_TagsCuts.tab1 comfitlaw06_TagsCuts.bits1 (fun HT_ HW_ => ?_)
  generalize w13.drew = w14 at BK172 HB hHeld ⊢
  refine pure_ (i := 0) (N := some 20) (v := ?_) (a' := ?_) #[true, false, false, false, false, false, false, false, false, false] rfl rfl (any_of HT_.out (by kernel_rfl)) (fun _ _ _ h => h) (Or.inl ⟨by rfl, ?_⟩) ?_ ?_
  rotate_left
  ·intro w'
   go_simp
   with_reducible rfl
  rotate_left
  ·simp only [Act.put, List.setIfInBounds_toArray, List.set_cons_zero, List.set_cons_succ, i64_w, i32_w]
   rfl
  refine pure_ (i := 2) (N := some 22) (v := ?_) (a' := ?_) #[true, false, true, false, false, false, false, false, false, false] rfl rfl (any_of HT_.out (by kernel_rfl)) (fun _ _ _ h => h) (Or.inl ⟨by rfl, ?_⟩) ?_ ?_
  rotate_left
  ·intro w'
   go_simp
   with_reducible rfl
  rotate_left
  ·simp only [Act.put, List.setIfInBounds_toArray, List.set_cons_zero, List.set_cons_succ, i64_w, i32_w]
   rfl
  refine take_ (i := 1) (N := some 21) (v := ?_) (a' := ?_) #[true, true, true, false, false, false, false, false, false, false] rfl rfl (take_ofW HT_.out HW_.out (by kernel_rfl)) (fun _ _ _ h => h) (Or.inl ⟨by rfl, ?_⟩) hHeld ?_ ?_
  rotate_left
  ·rintro w' ⟨s0, s1, s2, s3⟩
   go_simp
   with_reducible rfl
  rotate_left
  ·simp only [Act.put, List.setIfInBounds_toArray, List.set_cons_zero, List.set_cons_succ, i64_w, i32_w]
   rfl
  refine one_ (i := 3) (N := some 23) #[true, true, true, true, false, false, false, false, false, false] rfl rfl (one_of HT_.out (by kernel_rfl)) (by decide) (fun K hK => ?_)
  refine goes_ Tryd.func8 (by kernel_rfl) rfl #[.string a2] (by rfl) rfl rfl al_ ?_
  with_reducible refine (comfitlaw06_text.calls a2 t173 _ A5.out).mono ?_
  rintro e w15 ⟨rfl, hb⟩
  refine ⟨_, rfl, ?_⟩
  have n0_ := Aside0.mk (bkb_ BK172.out hb)
  have n1_ := Aside0.mk (below_step (hb_ HB.out) hb)
  clear BK172
  clear HB
  have BK172 := n0_
  have HB := n1_
  clear n0_ n1_
  (try clear hb)
  (try clear hb2)
  (try clear hk)
  (try clear hi)
  refine hK.out _ _ ⟨(blk_cell BK172.out 0).trans rfl, (blk_cell BK172.out 1).trans rfl, (blk_cell BK172.out 2).trans rfl, (blk_cell BK172.out 3).trans rfl⟩ (fun hHeld => ?_)
  clear hK K
  refine norm_ (a' := ?_) ?_ ?_
  rotate_left
  ·show Act.put _ (some 23) _ = _
   simp only [Act.put, List.setIfInBounds_toArray, List.set_cons_zero, List.set_cons_succ, i64_w, i32_w]
   rfl
  refine one_ (i := 4) (N := some 24) #[true, true, true, true, true, false, false, false, false, false] rfl rfl (one_of HT_.out (by kernel_rfl)) (by decide) (fun K hK => ?_)
  refine goes_ Tryd.func12 (by kernel_rfl) rfl #[.int .i64 a0, .agg #[.string a1_0, .string a1_1, .string a1_2, .string a1_3], .string t173] (by rfl) rfl rfl al_ ?_
  with_reducible refine (tags_Cut.calls a0 a1_0 a1_1 a1_2 a1_3 t173 t174 t175 _ A6.out).mono ?_
  rintro e w16 ⟨rfl, hb⟩
  refine ⟨_, rfl, ?_⟩
  have n0_ := Aside0.mk (bkb_ BK172.out hb)
  have n1_ := Aside0.mk (below_step (hb_ HB.out) hb)
  clear BK172
  clear HB
  have BK172 := n0_
  have HB := n1_
  clear n0_ n1_
  (try clear hb)
  (try clear hb2)
  (try clear hk)
  (try clear hi)
  refine hK.out _ _ ⟨(blk_cell BK172.out 0).trans rfl, (blk_cell BK172.out 1).trans rfl, (blk_cell BK172.out 2).trans rfl, (blk_cell BK172.out 3).trans rfl⟩ (fun hHeld => ?_)
  clear hK K
  refine norm_ (a' := ?_) ?_ ?_
  rotate_left
  ·show Act.put _ (some 24) _ = _
   simp only [Act.put, List.setIfInBounds_toArray, List.set_cons_zero, List.set_cons_succ, i64_w, i32_w]
   rfl
  refine pure_ (i := 5) (N := some 19) (v := ?_) (a' := ?_) #[true, true, true, true, true, true, false, false, false, false] rfl rfl (any_of HT_.out (by kernel_rfl)) (fun _ _ _ h => h) (Or.inl ⟨by rfl, ?_⟩) ?_ ?_
  rotate_left
  ·intro w'
   go_simp
   with_reducible rfl
  rotate_left
  ·simp only [Act.put, List.setIfInBounds_toArray, List.set_cons_zero, List.set_cons_succ, i64_w, i32_w]
   rfl
  refine pure_ (i := 6) (N := some 25) (v := ?_) (a' := ?_) #[true, true, true, true, true, true, true, false, false, false] rfl rfl (any_of HT_.out (by kernel_rfl)) (fun _ _ _ h => h) (Or.inl ⟨by rfl, ?_⟩) ?_ ?_
  rotate_left
  ·intro w'
   go_simp
   with_reducible rfl
  rotate_left
  ·simp only [Act.put, List.setIfInBounds_toArray, List.set_cons_zero, List.set_cons_succ, i64_w, i32_w]
   rfl
  refine pure_ (i := 7) (N := some 26) (v := ?_) (a' := ?_) #[true, true, true, true, true, true, true, true, false, false] rfl rfl (any_of HT_.out (by kernel_rfl)) (fun _ _ _ h => h) (Or.inl ⟨by rfl, ?_⟩) ?_ ?_
  rotate_left
  ·intro w'
   go_simp
   with_reducible rfl
  rotate_left
  ·simp only [Act.put, List.setIfInBounds_toArray, List.set_cons_zero, List.set_cons_succ, i64_w, i32_w]
   rfl
  refine pure_ (i := 8) (N := some 9) (v := ?_) (a' := ?_) #[true, true, true, true, true, true, true, true, true, false] rfl rfl (any_of HT_.out (by kernel_rfl)) (fun _ _ _ h => h) (Or.inl ⟨by rfl, ?_⟩) ?_ ?_
  rotate_left
  ·intro w'
   go_simp
   with_reducible rfl
  rotate_left
  ·simp only [Act.put, List.setIfInBounds_toArray, List.set_cons_zero, List.set_cons_succ, i64_w, i32_w]
   rfl
  refine pure_ (i := 9) (N := some 10) (v := ?_) (a' := ?_) #[true, true, true, true, true, true, true, true, true, true] rfl rfl (any_of HT_.out (by kernel_rfl)) (fun _ _ _ h => h) (Or.inl ⟨by rfl, ?_⟩) ?_ ?_
  rotate_left
  ·intro w'
   go_simp
   with_reducible rfl
  rotate_left
  ·simp only [Act.put, List.setIfInBounds_toArray, List.set_cons_zero, List.set_cons_succ, i64_w, i32_w]
   rfl
  refine done_ (done_of HT_.out (by kernel_rfl)) ?_
  try go_wp2
  have n0_ := Aside0.mk (blk_drew BK172.out)
  have n1_ := Aside0.mk (below_drew1 HB.out)
  clear BK172
  clear HB
  have BK172 := n0_
  have HB := n1_
  clear n0_ n1_
  refine start_ (n := 13) (S := fun w' => w'.cell? ⟨gb172, 0, none⟩ = some (.string a1_0) ∧ w'.cell? ⟨gb172, 1, none⟩ = some (.string a1_1) ∧ w'.cell? ⟨gb172, 2, none⟩ = some (.string a1_2) ∧ w'.cell? ⟨gb172, 3, none⟩ = some (.string a1_3)) (ds := []) #[false, false, false, false, false, false, false, false, false, false, false, false, false] (by kernel_rfl) rfl rfl ⟨(blk_cell BK172.out 0).trans rfl, (blk_cell BK172.out 1).trans rfl, (blk_cell BK172.out 2).trans rfl, (blk_cell BK172.out 3).trans rfl⟩ (fun hHeld => ?_); refine with_tabW comfitlaw06_TagsCuts.tab2 comfitlaw06_TagsCuts.bits2 (fun HT_ HW_ => ?_)
  generalize w16.drew = w17 at BK172 HB hHeld ⊢
  refine pure_ (i := 0) (N := some 28) (v := ?_) (a' := ?_) #[true, false, false, false, false, false, false, false, false, false, false, false, false] rfl rfl (any_of HT_.out (by kernel_rfl)) (fun _ _ _ h => h) (Or.inl ⟨by rfl, ?_⟩) ?_ ?_
  rotate_left
  ·intro w'
   go_simp
   with_reducible rfl
  rotate_left
  ·simp only [Act.put, List.setIfInBounds_toArray, List.set_cons_zero, List.set_cons_succ, i64_w, i32_w]
   rfl
  refine pure_ (i := 2) (N := some 30) (v := ?_) (a' := ?_) #[true, false, true, false, false, false, false, false, false, false, false, false, false] rfl rfl (any_of HT_.out (by kernel_rfl)) (fun _ _ _ h => h) (Or.inl ⟨by rfl, ?_⟩) ?_ ?_
  rotate_left
  ·intro w'
   go_simp
   with_reducible rfl
  rotate_left
  ·simp only [Act.put, List.setIfInBounds_toArray, List.set_cons_zero, List.set_cons_succ, i64_w, i32_w]
   rfl
  refine pure_ (i := 4) (N := some 32) (v := ?_) (a' := ?_) #[true, false, true, false, true, false, false, false, false, false, false, false, false] rfl rfl (any_of HT_.out (by kernel_rfl)) (fun _ _ _ h => h) (Or.inl ⟨by rfl, ?_⟩) ?_ ?_
  rotate_left
  ·intro w'
   go_simp
   with_reducible rfl
  rotate_left
  ·simp only [Act.put, List.setIfInBounds_toArray, List.set_cons_zero, List.set_cons_succ, i64_w, i32_w]
   rfl
  refine take_ (i := 1) (N := some 29) (v := ?_) (a' := ?_) #[true, true, true, false, true, false, false, false, false, false, false, false, false] rfl rfl (take_ofW HT_.out HW_.out (by kernel_rfl)) (fun _ _ _ h => h) (Or.inl ⟨by rfl, ?_⟩) hHeld ?_ ?_
  rotate_left
  ·rintro w' ⟨s0, s1, s2, s3⟩
   go_simp
   with_reducible rfl
  rotate_left
  ·simp only [Act.put, List.setIfInBounds_toArray, List.set_cons_zero, List.set_cons_succ, i64_w, i32_w]
   rfl
  refine one_ (i := 3) (N := some 31) #[true, true, true, true, true, false, false, false, false, false, false, false, false] rfl rfl (one_of HT_.out (by kernel_rfl)) (by decide) (fun K hK => ?_)
  refine goes_ Tryd.func8 (by kernel_rfl) rfl #[.string a2] (by rfl) rfl rfl al_ ?_
  with_reducible refine (comfitlaw06_text.calls a2 t176 _ A7.out).mono ?_
  rintro e w18 ⟨rfl, hb⟩
  refine ⟨_, rfl, ?_⟩
  have n0_ := Aside0.mk (bkb_ BK172.out hb)
  have n1_ := Aside0.mk (below_step (hb_ HB.out) hb)
  clear BK172
  clear HB
  have BK172 := n0_
  have HB := n1_
  clear n0_ n1_
  (try clear hb)
  (try clear hb2)
  (try clear hk)
  (try clear hi)
  refine hK.out _ _ ⟨(blk_cell BK172.out 0).trans rfl, (blk_cell BK172.out 1).trans rfl, (blk_cell BK172.out 2).trans rfl, (blk_cell BK172.out 3).trans rfl⟩ (fun hHeld => ?_)
  clear hK K
  refine norm_ (a' := ?_) ?_ ?_
  rotate_left
  ·show Act.put _ (some 31) _ = _
   simp only [Act.put, List.setIfInBounds_toArray, List.set_cons_zero, List.set_cons_succ, i64_w, i32_w]
   rfl
  refine one_ (i := 5) (N := some 33) #[true, true, true, true, true, true, false, false, false, false, false, false, false] rfl rfl (one_of HT_.out (by kernel_rfl)) (by decide) (fun K hK => ?_)
  refine goes_ Tryd.func13 (by kernel_rfl) rfl #[.int .i64 a0, .agg #[.string a1_0, .string a1_1, .string a1_2, .string a1_3], .string t176, .int .i64 a3] (by rfl) rfl rfl al_ ?_
  with_reducible refine (tags_Run.calls a0 a1_0 a1_1 a1_2 a1_3 t176 a3 t177 t178 t179 _ A8.out).mono ?_
  rintro e w19 ⟨rfl, hb⟩
  refine ⟨_, rfl, ?_⟩
  have n0_ := Aside0.mk (bkb_ BK172.out hb)
  have n1_ := Aside0.mk (below_step (hb_ HB.out) hb)
  clear BK172
  clear HB
  have BK172 := n0_
  have HB := n1_
  clear n0_ n1_
  (try clear hb)
  (try clear hb2)
  (try clear hk)
  (try clear hi)
  refine hK.out _ _ ⟨(blk_cell BK172.out 0).trans rfl, (blk_cell BK172.out 1).trans rfl, (blk_cell BK172.out 2).trans rfl, (blk_cell BK172.out 3).trans rfl⟩ (fun hHeld => ?_)
  clear hK K
  refine norm_ (a' := ?_) ?_ ?_
  rotate_left
  ·show Act.put _ (some 33) _ = _
   simp only [Act.put, List.setIfInBounds_toArray, List.set_cons_zero, List.set_cons_succ, i64_w, i32_w]
   rfl
  refine pure_ (i := 6) (N := some 27) (v := ?_) (a' := ?_) #[true, true, true, true, true, true, true, false, false, false, false, false, false] rfl rfl (any_of HT_.out (by kernel_rfl)) (fun _ _ _ h => h) (Or.inl ⟨by rfl, ?_⟩) ?_ ?_
  rotate_left
  ·intro w'
   go_simp
   with_reducible rfl
  rotate_left
  ·simp only [Act.put, List.setIfInBounds_toArray, List.set_cons_zero, List.set_cons_succ, i64_w, i32_w]
   rfl
  refine pure_ (i := 7) (N := some 34) (v := ?_) (a' := ?_) #[true, true, true, true, true, true, true, true, false, false, false, false, false] rfl rfl (any_of HT_.out (by kernel_rfl)) (fun _ _ _ h => h) (Or.inl ⟨by rfl, ?_⟩) ?_ ?_
  rotate_left
  ·intro w'
   go_simp
   with_reducible rfl
  rotate_left
  ·simp only [Act.put, List.setIfInBounds_toArray, List.set_cons_zero, List.set_cons_succ, i64_w, i32_w]
   rfl
  refine pure_ (i := 8) (N := some 35) (v := ?_) (a' := ?_) #[true, true, true, true, true, true, true, true, true, false, false, false, false] rfl rfl (any_of HT_.out (by kernel_rfl)) (fun _ _ _ h => h) (Or.inl ⟨by rfl, ?_⟩) ?_ ?_
  rotate_left
  ·intro w'
   go_simp
   with_reducible rfl
  rotate_left
  ·simp only [Act.put, List.setIfInBounds_toArray, List.set_cons_zero, List.set_cons_succ, i64_w, i32_w]
   rfl
  refine pure_ (i := 9) (N := some 36) (v := ?_) (a' := ?_) #[true, true, true, true, true, true, true, true, true, true, false, false, false] rfl rfl (any_of HT_.out (by kernel_rfl)) (fun _ _ _ h => h) (Or.inl ⟨by rfl, ?_⟩) ?_ ?_
  rotate_left
  ·intro w'
   go_simp
   with_reducible rfl
  rotate_left
  ·simp only [Act.put, List.setIfInBounds_toArray, List.set_cons_zero, List.set_cons_succ, i64_w, i32_w]
   rfl
  refine pure_ (i := 10) (N := some 11) (v := ?_) (a' := ?_) #[true, true, true, true, true, true, true, true, true, true, true, false, false] rfl rfl (any_of HT_.out (by kernel_rfl)) (fun _ _ _ h => h) (Or.inl ⟨by rfl, ?_⟩) ?_ ?_
  rotate_left
  ·intro w'
   go_simp
   with_reducible rfl
  rotate_left
  ·simp only [Act.put, List.setIfInBounds_toArray, List.set_cons_zero, List.set_cons_succ, i64_w, i32_w]
   rfl
  refine pure_ (i := 11) (N := some 12) (v := ?_) (a' := ?_) #[true, true, true, true, true, true, true, true, true, true, true, true, false] rfl rfl (any_of HT_.out (by kernel_rfl)) (fun _ _ _ h => h) (Or.inl ⟨by rfl, ?_⟩) ?_ ?_
  rotate_left
  ·intro w'
   go_simp
   with_reducible rfl
  rotate_left
  ·simp only [Act.put, List.setIfInBounds_toArray, List.set_cons_zero, List.set_cons_succ, i64_w, i32_w]
   rfl
  refine pure_ (i := 12) (N := some 13) (v := ?_) (a' := ?_) #[true, true, true, true, true, true, true, true, true, true, true, true, true] rfl rfl (any_of HT_.out (by kernel_rfl)) (fun _ _ _ h => h) (Or.inl ⟨by rfl, ?_⟩) ?_ ?_
  rotate_left
  ·intro w'
   go_simp
   with_reducible rfl
  rotate_left
  ·simp only [Act.put, List.setIfInBounds_toArray, List.set_cons_zero, List.set_cons_succ, i64_w, i32_w]
   rfl
  refine done_ (done_of HT_.out (by kernel_rfl)) ?_
  have hcz20_0 : w19.cell? ⟨gb172, 0, none⟩ = some (.string a1_0) := (blk_cell BK172.out 0).trans rfl
  have hcz20_1 : w19.cell? ⟨gb172, 1, none⟩ = some (.string a1_1) := (blk_cell BK172.out 1).trans rfl
  have hcz20_2 : w19.cell? ⟨gb172, 2, none⟩ = some (.string a1_2) := (blk_cell BK172.out 2).trans rfl
  have hcz20_3 : w19.cell? ⟨gb172, 3, none⟩ = some (.string a1_3) := (blk_cell BK172.out 3).trans rfl
  have hfz20_0 := blk_frozen BK172.out 0
  have hfz20_1 := blk_frozen BK172.out 1
  have hfz20_2 := blk_frozen BK172.out 2
  have hfz20_3 := blk_frozen BK172.out 3
  go_upto_region 6 with (first | ((with_reducible refine gate_callee (f := 9) rfl ?_); refine goesL_ (some 40) rfl rfl Tryd.func9 (by kernel_rfl) rfl #[.int .i64 a0, .agg #[.string a1_0, .string a1_1, .string a1_2, .string a1_3], .string a2] rfl al_ ?_; (with_reducible refine (comfitref06_Cutter.calls a0 a1_0 a1_1 a1_2 a1_3 a2 true _ A9.out).mono ?_); rintro e w21 ⟨rfl, hb⟩; refine ⟨_, rfl, ?_⟩; have n0_ := Aside0.mk (bkb_ BK172.out hb); have n1_ := Aside0.mk (below_step (hb_ HB.out) hb); clear BK172; clear HB; have BK172 := n0_; have HB := n1_; clear n0_ n1_; (try clear hb); (try clear hb2); (try clear hk); (try clear hi); have hcz22_0 : w21.cell? ⟨gb172, 0, none⟩ = some (.string a1_0) := (blk_cell BK172.out 0).trans rfl; have hcz22_1 : w21.cell? ⟨gb172, 1, none⟩ = some (.string a1_1) := (blk_cell BK172.out 1).trans rfl; have hcz22_2 : w21.cell? ⟨gb172, 2, none⟩ = some (.string a1_2) := (blk_cell BK172.out 2).trans rfl; have hcz22_3 : w21.cell? ⟨gb172, 3, none⟩ = some (.string a1_3) := (blk_cell BK172.out 3).trans rfl; have hfz22_0 := blk_frozen BK172.out 0; have hfz22_1 := blk_frozen BK172.out 1; have hfz22_2 := blk_frozen BK172.out 2; have hfz22_3 := blk_frozen BK172.out 3) | ((with_reducible refine gate_callee (f := 14) rfl ?_); refine goesL_ (some 67) rfl rfl Tryd.func14 (by kernel_rfl) rfl #[.int .i64 a0, .agg #[.string a1_0, .string a1_1, .string a1_2, .string a1_3], .string a2] rfl al_ ?_; (with_reducible refine (comfitref06_Cut.calls a0 a1_0 a1_1 a1_2 a1_3 a2 t182 t183 _ A11.out).mono ?_); rintro e w23 ⟨rfl, hb⟩; refine ⟨_, rfl, ?_⟩; have n0_ := Aside0.mk (bkb_ BK172.out hb); have n1_ := Aside0.mk (below_step (hb_ HB.out) hb); clear BK172; clear HB; have BK172 := n0_; have HB := n1_; clear n0_ n1_; (try clear hb); (try clear hb2); (try clear hk); (try clear hi)))
  (try simp only [Act.put, List.setIfInBounds_toArray, List.set_cons_zero, List.set_cons_succ])
  go_cut [81] (fun v81 wc => ∃ (kq : Nat) (x81_11 : Bool), v81 = .bool x81_11 ∧ Aside0 (comfitlaw06_TagsCuts.j0 kq a0 a2 a3 t177 t178 t179 x81_11 a1_0 a1_1 a1_2 a1_3 = some r) ∧ Aside0 (kq ≤ k) ∧ Aside0 (wc.heap[gb172]? = some (.cells #[.string a1_0, .string a1_1, .string a1_2, .string a1_3] 22 (0, 0))) ∧ Aside0 (Below w.heap.size w wc))
  case first =>
   have H := HC12.out
   clear HC12
   by_cases c24 : t174.toList = t182.toList
   ·rw [if_pos c24] at H
    have c24b0 : (t174.toList == t182.toList) = true := beq_iff_eq.mpr c24
    have c24b1 : (t174.toList != t182.toList) = false := bne_eq_false_iff_eq.mpr c24
    clear c24
    (first | rw [c24b0] | (simp only [i64_w, i32_w]; rw [c24b0]) | skip)
    by_cases c25 : t175 = t183
    ·rw [if_pos c25] at H
     have c25b0 : (t175 == t183) = true := beq_iff_eq.mpr c25
     have c25b1 : (t175 != t183) = false := bne_eq_false_iff_eq.mpr c25
     clear c25
     replace H := Option.bind_eq_some_iff.mp H
     obtain ⟨t184, A260, H⟩ := H
     replace H : (comfitlaw06_TagsCuts.j0 k a0 a2 a3 t177 t178 t179 (!t184) a1_0 a1_1 a1_2 a1_3) = some r := H
     have A26 := Aside0.mk A260
     clear A260
     have H' := Aside0.mk H
     clear H
     go_wp2_with (first | (go_at_call 10; (with_reducible refine (comfitlaw06_awake.calls k  t184 _ A26.out).mono ?_); rintro e w27 ⟨rfl, hb⟩; have n0_ := Aside0.mk (bkb_ BK172.out hb); have n1_ := Aside0.mk (below_step (hb_ HB.out) hb); clear BK172; clear HB; have BK172 := n0_; have HB := n1_; clear n0_ n1_; (try clear hb); (try clear hb2); (try clear hk); (try clear hi)))
     go_meet
     case rel => exact ⟨_, (!t184), (by first | rfl | (simp; done) | (simp [*]; done)), H', ⟨by first | omega | exact Nat.le_refl _⟩, ⟨by (with_reducible repeat (first | refine blk_drewN ?_ _ | refine blk_drew ?_ | refine blk_alloc ?_ _)); exact BK172.out⟩, ⟨by repeat (first | (with_reducible first | exact HB.out | apply below_alloc | apply pw_below_drewN | apply below_drew1 | refine below_set ?_ GE172.out) | exact HB.out)⟩⟩
    ·rw [if_neg c25] at H
     have c25b0 : (t175 == t183) = false := beq_eq_false_iff_ne.mpr c25
     have c25b1 : (t175 != t183) = true := bne_iff_ne.mpr c25
     have H' := Aside0.mk H
     clear H
     go_wp2
     go_meet
     case rel => exact ⟨_, (true), (by first | rfl | (simp; done) | (simp [*]; done)), H', ⟨by first | omega | exact Nat.le_refl _⟩, ⟨by (with_reducible repeat (first | refine blk_drewN ?_ _ | refine blk_drew ?_ | refine blk_alloc ?_ _)); exact BK172.out⟩, ⟨by repeat (first | (with_reducible first | exact HB.out | apply below_alloc | apply pw_below_drewN | apply below_drew1 | refine below_set ?_ GE172.out) | exact HB.out)⟩⟩
   ·rw [if_neg c24] at H
    have c24b0 : (t174.toList == t182.toList) = false := beq_eq_false_iff_ne.mpr c24
    have c24b1 : (t174.toList != t182.toList) = true := bne_iff_ne.mpr c24
    (first | rw [c24b0] | (simp only [i64_w, i32_w]; rw [c24b0]) | skip)
    have H' := Aside0.mk H
    clear H
    go_wp2
    go_meet
    case rel => exact ⟨_, (true), (by first | rfl | (simp; done) | (simp [*]; done)), H', ⟨by first | omega | exact Nat.le_refl _⟩, ⟨by (with_reducible repeat (first | refine blk_drewN ?_ _ | refine blk_drew ?_ | refine blk_alloc ?_ _)); exact BK172.out⟩, ⟨by repeat (first | (with_reducible first | exact HB.out | apply below_alloc | apply pw_below_drewN | apply below_drew1 | refine below_set ?_ GE172.out) | exact HB.out)⟩⟩
  case rest =>
   clear HC12
   try clear c1
   try clear c2
   try clear p2
   try clear c4
   try clear c8
   try clear c9
   try clear c10
   try clear c12
   try clear c13
   try clear c14
   try clear c24
   try clear c24b0
   try clear c24b1
   try clear c25
   try clear c25b0
   try clear c25b1
   try clear hcz20_0
   try clear hcz20_1
   try clear hcz20_2
   try clear hcz20_3
   try clear hcz22_0
   try clear hcz22_1
   try clear hcz22_2
   try clear hcz22_3
   try clear hfz20_0
   try clear hfz20_1
   try clear hfz20_2
   try clear hfz20_3
   try clear hfz22_0
   try clear hfz22_1
   try clear hfz22_2
   try clear hfz22_3
   obtain ⟨kq, x81_11, rfl, HA, HJ11, BK172, HB⟩ := hcut
   cases kq with
   | zero => exact absurd HA.out (by simp [comfitlaw06_TagsCuts.j0])
   | succ kj11 =>
    have H := HA.out
    clear HA
    simp only [comfitlaw06_TagsCuts.j0] at H
    by_cases c28 : x81_11 = true
    ·subst c28
     have H1 : (none) = some r := by rw [if_pos rfl] at H; exact H
     clear H
     have H := H1
     clear H1
     exact absurd H (by simp)
    ·replace c28 := Bool.eq_false_iff.mpr c28
     subst c28
     have H1 : (if a3 < 0 then (if t177.toList = ([] : List UInt8) then (if t178 = 0 then (some (t179 == 2)) else (none)) else (none)) else (if a3 > 1000 then (if t177.toList = ([] : List UInt8) then (if t178 = 0 then (some (t179 == 2)) else (none)) else (none)) else ((comfitref06_Run.f kj11 a0 a1_0 a1_1 a1_2 a1_3 a2 a3).bind fun bt185 => (if t177.toList = bt185.1.toList then (if t178 = bt185.2.1 then (some (t179 == bt185.2.2)) else (none)) else (none))))) = some r := by rw [if_neg (show ¬ (false = true) by decide)] at H; exact H
     clear H
     have H := H1
     clear H1
     by_cases c29 : a3 < 0
     ·rw [if_pos c29] at H
      have c29b0 : decide (a3 < 0) = true := decide_eq_true c29
      clear c29
      by_cases c30 : t177.toList = ([] : List UInt8)
      ·rw [if_pos c30] at H
       have c30b0 : (t177.toList == ([] : List UInt8)) = true := beq_iff_eq.mpr c30
       have c30b1 : (t177.toList != ([] : List UInt8)) = false := bne_eq_false_iff_eq.mpr c30
       clear c30
       by_cases c31 : t178 = 0
       ·rw [if_pos c31] at H
        have c31b0 : (t178 == 0) = true := beq_iff_eq.mpr c31
        have c31b1 : (t178 != 0) = false := bne_eq_false_iff_eq.mpr c31
        clear c31
        obtain rfl := Option.some.inj H
        go_wp2
        go_ret
        exact ⟨by first | rfl | (simp [errW_none, errW_some] <;> rfl) | (simp [*, errW_none, errW_some] <;> rfl), by repeat (first | (with_reducible first | exact HB.out | apply below_alloc | apply pw_below_drewN | apply below_drew1 | refine below_set ?_ GE172.out) | exact HB.out)⟩
       ·rw [if_neg c31] at H
        exact absurd H (by simp)
      ·rw [if_neg c30] at H
       exact absurd H (by simp)
     ·rw [if_neg c29] at H
      have c29b0 : decide (a3 < 0) = false := decide_eq_false c29
      clear c29
      by_cases c32 : a3 > 1000
      ·rw [if_pos c32] at H
       have c32b0 : decide (1000 < a3) = true := decide_eq_true c32
       clear c32
       by_cases c33 : t177.toList = ([] : List UInt8)
       ·rw [if_pos c33] at H
        have c33b0 : (t177.toList == ([] : List UInt8)) = true := beq_iff_eq.mpr c33
        have c33b1 : (t177.toList != ([] : List UInt8)) = false := bne_eq_false_iff_eq.mpr c33
        clear c33
        by_cases c34 : t178 = 0
        ·rw [if_pos c34] at H
         have c34b0 : (t178 == 0) = true := beq_iff_eq.mpr c34
         have c34b1 : (t178 != 0) = false := bne_eq_false_iff_eq.mpr c34
         clear c34
         obtain rfl := Option.some.inj H
         go_wp2
         go_ret
         exact ⟨by first | rfl | (simp [errW_none, errW_some] <;> rfl) | (simp [*, errW_none, errW_some] <;> rfl), by repeat (first | (with_reducible first | exact HB.out | apply below_alloc | apply pw_below_drewN | apply below_drew1 | refine below_set ?_ GE172.out) | exact HB.out)⟩
        ·rw [if_neg c34] at H
         exact absurd H (by simp)
       ·rw [if_neg c33] at H
        exact absurd H (by simp)
      ·rw [if_neg c32] at H
       have c32b0 : decide (1000 < a3) = false := decide_eq_false c32
       clear c32
       replace H := Option.bind_eq_some_iff.mp H
       obtain ⟨⟨t185, t186, t187⟩, A350, H⟩ := H
       replace H : (if t177.toList = t185.toList then (if t178 = t186 then (some (t179 == t187)) else (none)) else (none)) = some r := H
       have A35 := Aside0.mk A350
       clear A350
       by_cases c36 : t177.toList = t185.toList
       ·rw [if_pos c36] at H
        have c36b0 : (t177.toList == t185.toList) = true := beq_iff_eq.mpr c36
        have c36b1 : (t177.toList != t185.toList) = false := bne_eq_false_iff_eq.mpr c36
        clear c36
        by_cases c37 : t178 = t186
        ·rw [if_pos c37] at H
         have c37b0 : (t178 == t186) = true := beq_iff_eq.mpr c37
         have c37b1 : (t178 != t186) = false := bne_eq_false_iff_eq.mpr c37
         clear c37
         obtain rfl := Option.some.inj H
         have hcz38_0 : wc.cell? ⟨gb172, 0, none⟩ = some (.string a1_0) := (blk_cell BK172.out 0).trans rfl
         have hcz38_1 : wc.cell? ⟨gb172, 1, none⟩ = some (.string a1_1) := (blk_cell BK172.out 1).trans rfl
         have hcz38_2 : wc.cell? ⟨gb172, 2, none⟩ = some (.string a1_2) := (blk_cell BK172.out 2).trans rfl
         have hcz38_3 : wc.cell? ⟨gb172, 3, none⟩ = some (.string a1_3) := (blk_cell BK172.out 3).trans rfl
         have hfz38_0 := blk_frozen BK172.out 0
         have hfz38_1 := blk_frozen BK172.out 1
         have hfz38_2 := blk_frozen BK172.out 2
         have hfz38_3 := blk_frozen BK172.out 3
         go_wp2_with (first | ((with_reducible refine gate_callee (f := 15) rfl ?_); refine goesL_ (some 103) rfl rfl Tryd.func15 (by kernel_rfl) rfl #[.int .i64 a0, .agg #[.string a1_0, .string a1_1, .string a1_2, .string a1_3], .string a2, .int .i64 a3] rfl al_ ?_; (with_reducible refine (comfitref06_Run.calls kj11 a0 a1_0 a1_1 a1_2 a1_3 a2 a3 t185 t186 t187 _ A35.out).mono ?_); rintro e w39 ⟨rfl, hb⟩; refine ⟨_, rfl, ?_⟩; have n0_ := Aside0.mk (bkb_ BK172.out hb); have n1_ := Aside0.mk (below_step (hb_ HB.out) hb); clear BK172; clear HB; have BK172 := n0_; have HB := n1_; clear n0_ n1_; (try clear hb); (try clear hb2); (try clear hk); (try clear hi)))
         go_ret
         exact ⟨by first | rfl | (simp [errW_none, errW_some] <;> rfl) | (simp [*, errW_none, errW_some] <;> rfl), by repeat (first | (with_reducible first | exact HB.out | apply below_alloc | apply pw_below_drewN | apply below_drew1 | refine below_set ?_ GE172.out) | exact HB.out)⟩
        ·rw [if_neg c37] at H
         exact absurd H (by simp)
       ·rw [if_neg c36] at H
        exact absurd H (by simp)
 ·replace c10 := Bool.eq_false_iff.mpr c10
  subst c10
  have H1 : (if t174.toList = ([] : List UInt8) then (if t177.toList = ([] : List UInt8) then (if t178 = 0 then (if t175 = 2 then (if t179 = 2 then ((comfitlaw06_awake.f k).bind fun t181 => (some t181)) else (none)) else (none)) else (none)) else (none)) else (none)) = some r := by rw [if_neg (show ¬ (false = true) by decide)] at H; exact H
  clear H
  have H := H1
  clear H1
  by_cases c40 : t174.toList = ([] : List UInt8)
  ·rw [if_pos c40] at H
   have c40b0 : (t174.toList == ([] : List UInt8)) = true := beq_iff_eq.mpr c40
   have c40b1 : (t174.toList != ([] : List UInt8)) = false := bne_eq_false_iff_eq.mpr c40
   clear c40
   by_cases c41 : t177.toList = ([] : List UInt8)
   ·rw [if_pos c41] at H
    have c41b0 : (t177.toList == ([] : List UInt8)) = true := beq_iff_eq.mpr c41
    have c41b1 : (t177.toList != ([] : List UInt8)) = false := bne_eq_false_iff_eq.mpr c41
    clear c41
    by_cases c42 : t178 = 0
    ·rw [if_pos c42] at H
     have c42b0 : (t178 == 0) = true := beq_iff_eq.mpr c42
     have c42b1 : (t178 != 0) = false := bne_eq_false_iff_eq.mpr c42
     clear c42
     by_cases c43 : t175 = 2
     ·rw [if_pos c43] at H
      have c43b0 : (t175 == 2) = true := beq_iff_eq.mpr c43
      have c43b1 : (t175 != 2) = false := bne_eq_false_iff_eq.mpr c43
      clear c43
      by_cases c44 : t179 = 2
      ·rw [if_pos c44] at H
       have c44b0 : (t179 == 2) = true := beq_iff_eq.mpr c44
       have c44b1 : (t179 != 2) = false := bne_eq_false_iff_eq.mpr c44
       clear c44
       replace H := Option.bind_eq_some_iff.mp H
       obtain ⟨t181, A450, H⟩ := H
       replace H : (some t181) = some r := H
       have A45 := Aside0.mk A450
       clear A450
       obtain rfl := Option.some.inj H
       go_enter Tryd.func4, Tryd.ntmps4
       try go_wp2_with (first | ((with_reducible refine gate_dst (N := 5) rfl ?_); refine box_event ?hg (N := 5) ?hd (cs := #[.string a1_0, .string a1_1, .string a1_2, .string a1_3]) (t := 22) ?hr ?_; (case hd => rfl); (case hg => rfl); (case hr => first | (go_simp; done) | (go_simp; rfl)); intro gb172 hg w46 hbox hb; have n0_ := Aside0.mk (below_step (hb_ HB.out) hb); have n1_ := Aside0.mk (hbox); have n2_ := Aside0.mk ((by rw [hg]; exact (below_size (hb_ HB.out)) : w.heap.size ≤ gb172)); have n3_ := Aside0.mk ((by rw [hg]; exact (below_size (hb_ HB.out)) : w.heap.size ≤ gb172)); clear HB; have HB := n0_; have BK172 := n1_; have GW172 := n2_; have GE172 := n3_; clear n0_ n1_ n2_ n3_; clear hb hbox hg))
       have n0_ := Aside0.mk (blk_drew BK172.out)
       have n1_ := Aside0.mk (below_drew1 HB.out)
       clear BK172
       clear HB
       have BK172 := n0_
       have HB := n1_
       clear n0_ n1_
       refine start_ (n := 10) (S := fun w' => w'.cell? ⟨gb172, 0, none⟩ = some (.string a1_0) ∧ w'.cell? ⟨gb172, 1, none⟩ = some (.string a1_1) ∧ w'.cell? ⟨gb172, 2, none⟩ = some (.string a1_2) ∧ w'.cell? ⟨gb172, 3, none⟩ = some (.string a1_3)) (ds := []) #[false, false, false, false, false, false, false, false, false, false] (by kernel_rfl) rfl rfl ⟨(blk_cell BK172.out 0).trans rfl, (blk_cell BK172.out 1).trans rfl, (blk_cell BK172.out 2).trans rfl, (blk_cell BK172.out 3).trans rfl⟩ (fun hHeld => ?_); refine with_tabW comfitlaw06_TagsCuts.tab1 comfitlaw06_TagsCuts.bits1 (fun HT_ HW_ => ?_)
       generalize w46.drew = w47 at BK172 HB hHeld ⊢
       refine pure_ (i := 0) (N := some 20) (v := ?_) (a' := ?_) #[true, false, false, false, false, false, false, false, false, false] rfl rfl (any_of HT_.out (by kernel_rfl)) (fun _ _ _ h => h) (Or.inl ⟨by rfl, ?_⟩) ?_ ?_
       rotate_left
       ·intro w'
        go_simp
        with_reducible rfl
       rotate_left
       ·simp only [Act.put, List.setIfInBounds_toArray, List.set_cons_zero, List.set_cons_succ, i64_w, i32_w]
        rfl
       refine pure_ (i := 2) (N := some 22) (v := ?_) (a' := ?_) #[true, false, true, false, false, false, false, false, false, false] rfl rfl (any_of HT_.out (by kernel_rfl)) (fun _ _ _ h => h) (Or.inl ⟨by rfl, ?_⟩) ?_ ?_
       rotate_left
       ·intro w'
        go_simp
        with_reducible rfl
       rotate_left
       ·simp only [Act.put, List.setIfInBounds_toArray, List.set_cons_zero, List.set_cons_succ, i64_w, i32_w]
        rfl
       refine take_ (i := 1) (N := some 21) (v := ?_) (a' := ?_) #[true, true, true, false, false, false, false, false, false, false] rfl rfl (take_ofW HT_.out HW_.out (by kernel_rfl)) (fun _ _ _ h => h) (Or.inl ⟨by rfl, ?_⟩) hHeld ?_ ?_
       rotate_left
       ·rintro w' ⟨s0, s1, s2, s3⟩
        go_simp
        with_reducible rfl
       rotate_left
       ·simp only [Act.put, List.setIfInBounds_toArray, List.set_cons_zero, List.set_cons_succ, i64_w, i32_w]
        rfl
       refine one_ (i := 3) (N := some 23) #[true, true, true, true, false, false, false, false, false, false] rfl rfl (one_of HT_.out (by kernel_rfl)) (by decide) (fun K hK => ?_)
       refine goes_ Tryd.func8 (by kernel_rfl) rfl #[.string a2] (by rfl) rfl rfl al_ ?_
       with_reducible refine (comfitlaw06_text.calls a2 t173 _ A5.out).mono ?_
       rintro e w48 ⟨rfl, hb⟩
       refine ⟨_, rfl, ?_⟩
       have n0_ := Aside0.mk (bkb_ BK172.out hb)
       have n1_ := Aside0.mk (below_step (hb_ HB.out) hb)
       clear BK172
       clear HB
       have BK172 := n0_
       have HB := n1_
       clear n0_ n1_
       (try clear hb)
       (try clear hb2)
       (try clear hk)
       (try clear hi)
       refine hK.out _ _ ⟨(blk_cell BK172.out 0).trans rfl, (blk_cell BK172.out 1).trans rfl, (blk_cell BK172.out 2).trans rfl, (blk_cell BK172.out 3).trans rfl⟩ (fun hHeld => ?_)
       clear hK K
       refine norm_ (a' := ?_) ?_ ?_
       rotate_left
       ·show Act.put _ (some 23) _ = _
        simp only [Act.put, List.setIfInBounds_toArray, List.set_cons_zero, List.set_cons_succ, i64_w, i32_w]
        rfl
       refine one_ (i := 4) (N := some 24) #[true, true, true, true, true, false, false, false, false, false] rfl rfl (one_of HT_.out (by kernel_rfl)) (by decide) (fun K hK => ?_)
       refine goes_ Tryd.func12 (by kernel_rfl) rfl #[.int .i64 a0, .agg #[.string a1_0, .string a1_1, .string a1_2, .string a1_3], .string t173] (by rfl) rfl rfl al_ ?_
       with_reducible refine (tags_Cut.calls a0 a1_0 a1_1 a1_2 a1_3 t173 t174 t175 _ A6.out).mono ?_
       rintro e w49 ⟨rfl, hb⟩
       refine ⟨_, rfl, ?_⟩
       have n0_ := Aside0.mk (bkb_ BK172.out hb)
       have n1_ := Aside0.mk (below_step (hb_ HB.out) hb)
       clear BK172
       clear HB
       have BK172 := n0_
       have HB := n1_
       clear n0_ n1_
       (try clear hb)
       (try clear hb2)
       (try clear hk)
       (try clear hi)
       refine hK.out _ _ ⟨(blk_cell BK172.out 0).trans rfl, (blk_cell BK172.out 1).trans rfl, (blk_cell BK172.out 2).trans rfl, (blk_cell BK172.out 3).trans rfl⟩ (fun hHeld => ?_)
       clear hK K
       refine norm_ (a' := ?_) ?_ ?_
       rotate_left
       ·show Act.put _ (some 24) _ = _
        simp only [Act.put, List.setIfInBounds_toArray, List.set_cons_zero, List.set_cons_succ, i64_w, i32_w]
        rfl
       refine pure_ (i := 5) (N := some 19) (v := ?_) (a' := ?_) #[true, true, true, true, true, true, false, false, false, false] rfl rfl (any_of HT_.out (by kernel_rfl)) (fun _ _ _ h => h) (Or.inl ⟨by rfl, ?_⟩) ?_ ?_
       rotate_left
       ·intro w'
        go_simp
        with_reducible rfl
       rotate_left
       ·simp only [Act.put, List.setIfInBounds_toArray, List.set_cons_zero, List.set_cons_succ, i64_w, i32_w]
        rfl
       refine pure_ (i := 6) (N := some 25) (v := ?_) (a' := ?_) #[true, true, true, true, true, true, true, false, false, false] rfl rfl (any_of HT_.out (by kernel_rfl)) (fun _ _ _ h => h) (Or.inl ⟨by rfl, ?_⟩) ?_ ?_
       rotate_left
       ·intro w'
        go_simp
        with_reducible rfl
       rotate_left
       ·simp only [Act.put, List.setIfInBounds_toArray, List.set_cons_zero, List.set_cons_succ, i64_w, i32_w]
        rfl
       refine pure_ (i := 7) (N := some 26) (v := ?_) (a' := ?_) #[true, true, true, true, true, true, true, true, false, false] rfl rfl (any_of HT_.out (by kernel_rfl)) (fun _ _ _ h => h) (Or.inl ⟨by rfl, ?_⟩) ?_ ?_
       rotate_left
       ·intro w'
        go_simp
        with_reducible rfl
       rotate_left
       ·simp only [Act.put, List.setIfInBounds_toArray, List.set_cons_zero, List.set_cons_succ, i64_w, i32_w]
        rfl
       refine pure_ (i := 8) (N := some 9) (v := ?_) (a' := ?_) #[true, true, true, true, true, true, true, true, true, false] rfl rfl (any_of HT_.out (by kernel_rfl)) (fun _ _ _ h => h) (Or.inl ⟨by rfl, ?_⟩) ?_ ?_
       rotate_left
       ·intro w'
        go_simp
        with_reducible rfl
       rotate_left
       ·simp only [Act.put, List.setIfInBounds_toArray, List.set_cons_zero, List.set_cons_succ, i64_w, i32_w]
        rfl
       refine pure_ (i := 9) (N := some 10) (v := ?_) (a' := ?_) #[true, true, true, true, true, true, true, true, true, true] rfl rfl (any_of HT_.out (by kernel_rfl)) (fun _ _ _ h => h) (Or.inl ⟨by rfl, ?_⟩) ?_ ?_
       rotate_left
       ·intro w'
        go_simp
        with_reducible rfl
       rotate_left
       ·simp only [Act.put, List.setIfInBounds_toArray, List.set_cons_zero, List.set_cons_succ, i64_w, i32_w]
        rfl
       refine done_ (done_of HT_.out (by kernel_rfl)) ?_
       try go_wp2
       have n0_ := Aside0.mk (blk_drew BK172.out)
       have n1_ := Aside0.mk (below_drew1 HB.out)
       clear BK172
       clear HB
       have BK172 := n0_
       have HB := n1_
       clear n0_ n1_
       refine start_ (n := 13) (S := fun w' => w'.cell? ⟨gb172, 0, none⟩ = some (.string a1_0) ∧ w'.cell? ⟨gb172, 1, none⟩ = some (.string a1_1) ∧ w'.cell? ⟨gb172, 2, none⟩ = some (.string a1_2) ∧ w'.cell? ⟨gb172, 3, none⟩ = some (.string a1_3)) (ds := []) #[false, false, false, false, false, false, false, false, false, false, false, false, false] (by kernel_rfl) rfl rfl ⟨(blk_cell BK172.out 0).trans rfl, (blk_cell BK172.out 1).trans rfl, (blk_cell BK172.out 2).trans rfl, (blk_cell BK172.out 3).trans rfl⟩ (fun hHeld => ?_); refine with_tabW comfitlaw06_TagsCuts.tab2 comfitlaw06_TagsCuts.bits2 (fun HT_ HW_ => ?_)
       generalize w49.drew = w50 at BK172 HB hHeld ⊢
       refine pure_ (i := 0) (N := some 28) (v := ?_) (a' := ?_) #[true, false, false, false, false, false, false, false, false, false, false, false, false] rfl rfl (any_of HT_.out (by kernel_rfl)) (fun _ _ _ h => h) (Or.inl ⟨by rfl, ?_⟩) ?_ ?_
       rotate_left
       ·intro w'
        go_simp
        with_reducible rfl
       rotate_left
       ·simp only [Act.put, List.setIfInBounds_toArray, List.set_cons_zero, List.set_cons_succ, i64_w, i32_w]
        rfl
       refine pure_ (i := 2) (N := some 30) (v := ?_) (a' := ?_) #[true, false, true, false, false, false, false, false, false, false, false, false, false] rfl rfl (any_of HT_.out (by kernel_rfl)) (fun _ _ _ h => h) (Or.inl ⟨by rfl, ?_⟩) ?_ ?_
       rotate_left
       ·intro w'
        go_simp
        with_reducible rfl
       rotate_left
       ·simp only [Act.put, List.setIfInBounds_toArray, List.set_cons_zero, List.set_cons_succ, i64_w, i32_w]
        rfl
       refine pure_ (i := 4) (N := some 32) (v := ?_) (a' := ?_) #[true, false, true, false, true, false, false, false, false, false, false, false, false] rfl rfl (any_of HT_.out (by kernel_rfl)) (fun _ _ _ h => h) (Or.inl ⟨by rfl, ?_⟩) ?_ ?_
       rotate_left
       ·intro w'
        go_simp
        with_reducible rfl
       rotate_left
       ·simp only [Act.put, List.setIfInBounds_toArray, List.set_cons_zero, List.set_cons_succ, i64_w, i32_w]
        rfl
       refine take_ (i := 1) (N := some 29) (v := ?_) (a' := ?_) #[true, true, true, false, true, false, false, false, false, false, false, false, false] rfl rfl (take_ofW HT_.out HW_.out (by kernel_rfl)) (fun _ _ _ h => h) (Or.inl ⟨by rfl, ?_⟩) hHeld ?_ ?_
       rotate_left
       ·rintro w' ⟨s0, s1, s2, s3⟩
        go_simp
        with_reducible rfl
       rotate_left
       ·simp only [Act.put, List.setIfInBounds_toArray, List.set_cons_zero, List.set_cons_succ, i64_w, i32_w]
        rfl
       refine one_ (i := 3) (N := some 31) #[true, true, true, true, true, false, false, false, false, false, false, false, false] rfl rfl (one_of HT_.out (by kernel_rfl)) (by decide) (fun K hK => ?_)
       refine goes_ Tryd.func8 (by kernel_rfl) rfl #[.string a2] (by rfl) rfl rfl al_ ?_
       with_reducible refine (comfitlaw06_text.calls a2 t176 _ A7.out).mono ?_
       rintro e w51 ⟨rfl, hb⟩
       refine ⟨_, rfl, ?_⟩
       have n0_ := Aside0.mk (bkb_ BK172.out hb)
       have n1_ := Aside0.mk (below_step (hb_ HB.out) hb)
       clear BK172
       clear HB
       have BK172 := n0_
       have HB := n1_
       clear n0_ n1_
       (try clear hb)
       (try clear hb2)
       (try clear hk)
       (try clear hi)
       refine hK.out _ _ ⟨(blk_cell BK172.out 0).trans rfl, (blk_cell BK172.out 1).trans rfl, (blk_cell BK172.out 2).trans rfl, (blk_cell BK172.out 3).trans rfl⟩ (fun hHeld => ?_)
       clear hK K
       refine norm_ (a' := ?_) ?_ ?_
       rotate_left
       ·show Act.put _ (some 31) _ = _
        simp only [Act.put, List.setIfInBounds_toArray, List.set_cons_zero, List.set_cons_succ, i64_w, i32_w]
        rfl
       refine one_ (i := 5) (N := some 33) #[true, true, true, true, true, true, false, false, false, false, false, false, false] rfl rfl (one_of HT_.out (by kernel_rfl)) (by decide) (fun K hK => ?_)
       refine goes_ Tryd.func13 (by kernel_rfl) rfl #[.int .i64 a0, .agg #[.string a1_0, .string a1_1, .string a1_2, .string a1_3], .string t176, .int .i64 a3] (by rfl) rfl rfl al_ ?_
       with_reducible refine (tags_Run.calls a0 a1_0 a1_1 a1_2 a1_3 t176 a3 t177 t178 t179 _ A8.out).mono ?_
       rintro e w52 ⟨rfl, hb⟩
       refine ⟨_, rfl, ?_⟩
       have n0_ := Aside0.mk (bkb_ BK172.out hb)
       have n1_ := Aside0.mk (below_step (hb_ HB.out) hb)
       clear BK172
       clear HB
       have BK172 := n0_
       have HB := n1_
       clear n0_ n1_
       (try clear hb)
       (try clear hb2)
       (try clear hk)
       (try clear hi)
       refine hK.out _ _ ⟨(blk_cell BK172.out 0).trans rfl, (blk_cell BK172.out 1).trans rfl, (blk_cell BK172.out 2).trans rfl, (blk_cell BK172.out 3).trans rfl⟩ (fun hHeld => ?_)
       clear hK K
       refine norm_ (a' := ?_) ?_ ?_
       rotate_left
       ·show Act.put _ (some 33) _ = _
        simp only [Act.put, List.setIfInBounds_toArray, List.set_cons_zero, List.set_cons_succ, i64_w, i32_w]
        rfl
       refine pure_ (i := 6) (N := some 27) (v := ?_) (a' := ?_) #[true, true, true, true, true, true, true, false, false, false, false, false, false] rfl rfl (any_of HT_.out (by kernel_rfl)) (fun _ _ _ h => h) (Or.inl ⟨by rfl, ?_⟩) ?_ ?_
       rotate_left
       ·intro w'
        go_simp
        with_reducible rfl
       rotate_left
       ·simp only [Act.put, List.setIfInBounds_toArray, List.set_cons_zero, List.set_cons_succ, i64_w, i32_w]
        rfl
       refine pure_ (i := 7) (N := some 34) (v := ?_) (a' := ?_) #[true, true, true, true, true, true, true, true, false, false, false, false, false] rfl rfl (any_of HT_.out (by kernel_rfl)) (fun _ _ _ h => h) (Or.inl ⟨by rfl, ?_⟩) ?_ ?_
       rotate_left
       ·intro w'
        go_simp
        with_reducible rfl
       rotate_left
       ·simp only [Act.put, List.setIfInBounds_toArray, List.set_cons_zero, List.set_cons_succ, i64_w, i32_w]
        rfl
       refine pure_ (i := 8) (N := some 35) (v := ?_) (a' := ?_) #[true, true, true, true, true, true, true, true, true, false, false, false, false] rfl rfl (any_of HT_.out (by kernel_rfl)) (fun _ _ _ h => h) (Or.inl ⟨by rfl, ?_⟩) ?_ ?_
       rotate_left
       ·intro w'
        go_simp
        with_reducible rfl
       rotate_left
       ·simp only [Act.put, List.setIfInBounds_toArray, List.set_cons_zero, List.set_cons_succ, i64_w, i32_w]
        rfl
       refine pure_ (i := 9) (N := some 36) (v := ?_) (a' := ?_) #[true, true, true, true, true, true, true, true, true, true, false, false, false] rfl rfl (any_of HT_.out (by kernel_rfl)) (fun _ _ _ h => h) (Or.inl ⟨by rfl, ?_⟩) ?_ ?_
       rotate_left
       ·intro w'
        go_simp
        with_reducible rfl
       rotate_left
       ·simp only [Act.put, List.setIfInBounds_toArray, List.set_cons_zero, List.set_cons_succ, i64_w, i32_w]
        rfl
       refine pure_ (i := 10) (N := some 11) (v := ?_) (a' := ?_) #[true, true, true, true, true, true, true, true, true, true, true, false, false] rfl rfl (any_of HT_.out (by kernel_rfl)) (fun _ _ _ h => h) (Or.inl ⟨by rfl, ?_⟩) ?_ ?_
       rotate_left
       ·intro w'
        go_simp
        with_reducible rfl
       rotate_left
       ·simp only [Act.put, List.setIfInBounds_toArray, List.set_cons_zero, List.set_cons_succ, i64_w, i32_w]
        rfl
       refine pure_ (i := 11) (N := some 12) (v := ?_) (a' := ?_) #[true, true, true, true, true, true, true, true, true, true, true, true, false] rfl rfl (any_of HT_.out (by kernel_rfl)) (fun _ _ _ h => h) (Or.inl ⟨by rfl, ?_⟩) ?_ ?_
       rotate_left
       ·intro w'
        go_simp
        with_reducible rfl
       rotate_left
       ·simp only [Act.put, List.setIfInBounds_toArray, List.set_cons_zero, List.set_cons_succ, i64_w, i32_w]
        rfl
       refine pure_ (i := 12) (N := some 13) (v := ?_) (a' := ?_) #[true, true, true, true, true, true, true, true, true, true, true, true, true] rfl rfl (any_of HT_.out (by kernel_rfl)) (fun _ _ _ h => h) (Or.inl ⟨by rfl, ?_⟩) ?_ ?_
       rotate_left
       ·intro w'
        go_simp
        with_reducible rfl
       rotate_left
       ·simp only [Act.put, List.setIfInBounds_toArray, List.set_cons_zero, List.set_cons_succ, i64_w, i32_w]
        rfl
       refine done_ (done_of HT_.out (by kernel_rfl)) ?_
       have hcz53_0 : w52.cell? ⟨gb172, 0, none⟩ = some (.string a1_0) := (blk_cell BK172.out 0).trans rfl
       have hcz53_1 : w52.cell? ⟨gb172, 1, none⟩ = some (.string a1_1) := (blk_cell BK172.out 1).trans rfl
       have hcz53_2 : w52.cell? ⟨gb172, 2, none⟩ = some (.string a1_2) := (blk_cell BK172.out 2).trans rfl
       have hcz53_3 : w52.cell? ⟨gb172, 3, none⟩ = some (.string a1_3) := (blk_cell BK172.out 3).trans rfl
       have hfz53_0 := blk_frozen BK172.out 0
       have hfz53_1 := blk_frozen BK172.out 1
       have hfz53_2 := blk_frozen BK172.out 2
       have hfz53_3 := blk_frozen BK172.out 3
       try go_wp2_with (first | ((with_reducible refine gate_callee (f := 9) rfl ?_); refine goesL_ (some 40) rfl rfl Tryd.func9 (by kernel_rfl) rfl #[.int .i64 a0, .agg #[.string a1_0, .string a1_1, .string a1_2, .string a1_3], .string a2] rfl al_ ?_; (with_reducible refine (comfitref06_Cutter.calls a0 a1_0 a1_1 a1_2 a1_3 a2 false _ A9.out).mono ?_); rintro e w54 ⟨rfl, hb⟩; refine ⟨_, rfl, ?_⟩; have n0_ := Aside0.mk (bkb_ BK172.out hb); have n1_ := Aside0.mk (below_step (hb_ HB.out) hb); clear BK172; clear HB; have BK172 := n0_; have HB := n1_; clear n0_ n1_; (try clear hb); (try clear hb2); (try clear hk); (try clear hi)) | (go_at_call 10; (with_reducible refine (comfitlaw06_awake.calls k  t181 _ A45.out).mono ?_); rintro e w55 ⟨rfl, hb⟩; have n0_ := Aside0.mk (bkb_ BK172.out hb); have n1_ := Aside0.mk (below_step (hb_ HB.out) hb); clear BK172; clear HB; have BK172 := n0_; have HB := n1_; clear n0_ n1_; (try clear hb); (try clear hb2); (try clear hk); (try clear hi)))
       go_ret
       exact ⟨by first | rfl | (simp [errW_none, errW_some] <;> rfl) | (simp [*, errW_none, errW_some] <;> rfl), by repeat (first | (with_reducible first | exact HB.out | apply below_alloc | apply pw_below_drewN | apply below_drew1 | refine below_set ?_ GE172.out) | exact HB.out)⟩
      ·rw [if_neg c44] at H
       exact absurd H (by simp)
     ·rw [if_neg c43] at H
      exact absurd H (by simp)
    ·rw [if_neg c42] at H
     exact absurd H (by simp)
   ·rw [if_neg c41] at H
    exact absurd H (by simp)
  ·rw [if_neg c40] at H
   exact absurd H (by simp)

end Go.Proofs.YtjmbjnobbeflfaaDoor.X
