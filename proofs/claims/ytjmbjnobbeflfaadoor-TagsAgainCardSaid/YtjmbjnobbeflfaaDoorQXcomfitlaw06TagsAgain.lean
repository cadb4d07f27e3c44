/- Written by a program of this session (wip/tools/xprint.py, which calls the kit's print): Go functions as Lean functions, and for each the proof that the machine's call does what it says; no conditions but those that each theorem names. -/
import Derived.Test.YtjmbjnobbeflfaaDoorQX0
import Derived.Test.YtjmbjnobbeflfaaDoorQXE
import Derived.Test.YtjmbjnobbeflfaaDoorQXT
import Derived.Test.YtjmbjnobbeflfaaDoorQXcomfitref06Again
import Derived.Test.YtjmbjnobbeflfaaDoorQHAg
import Derived.Test.YtjmbjnobbeflfaaDoorQHCutter
namespace Go.Proofs.YtjmbjnobbeflfaaDoor.X
open Go.RowKit Go.Proofs.YtjmbjnobbeflfaaDoorW.PrintWords Go.Proofs.YtjmbjnobbeflfaaDoorW.PrintLast Go.Proofs.YtjmbjnobbeflfaaDoorW.PrintMore
attribute [local go_sem] max2_int min2_int max_two min_two max_three min_three max_four min_four   -- for this text's walks alone
set_option linter.unusedVariables false
set_option linter.unusedSimpArgs false

/-! ### comfitlaw06_TagsAgain: function 3 -/
def comfitlaw06_TagsAgain.f (k : Nat) (a0 : Int) (a1_0 : ByteArray) (a1_1 : ByteArray) (a1_2 : ByteArray) (a1_3 : ByteArray) (a2 : ByteArray) : Option (Bool) := (comfitlaw06_text.f a2).bind fun t255 => ((tags_Again.f a0 a1_0 a1_1 a1_2 a1_3 t255).bind fun bt256 => ((comfitref06_Cutter.f a0 a1_0 a1_1 a1_2 a1_3 a2).bind fun t259 => (if t259 = true then ((comfitref06_Again.f k a0 a1_0 a1_1 a1_2 a1_3 a2).bind fun bt261 => (if bt256.1 = bt261.1 then (if bt256.2.1 = bt261.2.1 then (if bt256.2.2 = bt261.2.2 then ((comfitlaw06_awake.f k).bind fun t264 => (some t264)) else (none)) else (none)) else (none))) else (if bt256.1 = 0 then (if bt256.2.1 = 0 then (if bt256.2.2 = 2 then ((comfitlaw06_awake.f k).bind fun t260 => (some t260)) else (none)) else (none)) else (none)))))
def comfitlaw06_TagsAgain.T1 : Bool × List (List Nat × List Nat) := (true, [([], []), ([], []), ([], []), ([2], [2]), ([0, 1, 3, 3], [0, 1, 3]), ([4], [4]), ([5], [5]), ([5], [5]), ([5], [5]), ([6, 4, 0, 1, 2, 3, 4, 5, 6], [6]), ([7, 9, 0, 1, 2, 3, 4, 5, 6, 7, 9], [7]), ([8, 10, 0, 1, 2, 3, 4, 5, 6, 7, 8, 9, 10], [8])])
def comfitlaw06_TagsAgain.B1 : List Nat := [0, 0, 0, 4, 15, 31, 63, 63, 63, 127, 767, 2047]
theorem comfitlaw06_TagsAgain.tab1 : rtab .any (opsOf Tryd.f3 1) = comfitlaw06_TagsAgain.T1 := by kernel_rfl
theorem comfitlaw06_TagsAgain.bits1 : waitsOk comfitlaw06_TagsAgain.T1.2 comfitlaw06_TagsAgain.B1 = true := by kernel_rfl
set_option maxHeartbeats 8000000 in
set_option maxRecDepth 100000 in
theorem comfitlaw06_TagsAgain.calls (k : Nat) (a0 : Int) (a1_0 : ByteArray) (a1_1 : ByteArray) (a1_2 : ByteArray) (a1_3 : ByteArray) (a2 : ByteArray) (r : Bool) (w : World) (h : comfitlaw06_TagsAgain.f k a0 a1_0 a1_1 a1_2 a1_3 a2 = some r) :
  Calls Tryd.prog 3 #[.int .i64 a0, .agg #[.string a1_0, .string a1_1, .string a1_2, .string a1_3], .string a2] w fun e w' => e = .returned (.bool r) ∧ Below w.heap.size w w' := by
 have hu22 := Tryd.underlying22
 have HB := Aside0.mk (Below.refl w.heap.size w)
 have H : ((comfitlaw06_text.f a2).bind fun t255 => ((tags_Again.f a0 a1_0 a1_1 a1_2 a1_3 t255).bind fun bt256 => ((comfitref06_Cutter.f a0 a1_0 a1_1 a1_2 a1_3 a2).bind fun t259 => (if t259 = true then ((comfitref06_Again.f k a0 a1_0 a1_1 a1_2 a1_3 a2).bind fun bt261 => (if bt256.1 = bt261.1 then (if bt256.2.1 = bt261.2.1 then (if bt256.2.2 = bt261.2.2 then ((comfitlaw06_awake.f k).bind fun t264 => (some t264)) else (none)) else (none)) else (none))) else (if bt256.1 = 0 then (if bt256.2.1 = 0 then (if bt256.2.2 = 2 then ((comfitlaw06_awake.f k).bind fun t260 => (some t260)) else (none)) else (none)) else (none)))))) = some r := h
 clear h
 replace H := Option.bind_eq_some_iff.mp H
 obtain ⟨t255, A40, H⟩ := H
 replace H : ((tags_Again.f a0 a1_0 a1_1 a1_2 a1_3 t255).bind fun bt256 => ((comfitref06_Cutter.f a0 a1_0 a1_1 a1_2 a1_3 a2).bind fun t259 => (if t259 = true then ((comfitref06_Again.f k a0 a1_0 a1_1 a1_2 a1_3 a2).bind fun bt261 => (if bt256.1 = bt261.1 then (if bt256.2.1 = bt261.2.1 then (if bt256.2.2 = bt261.2.2 then ((comfitlaw06_awake.f k).bind fun t264 => (some t264)) else (none)) else (none)) else (none))) else (if bt256.1 = 0 then (if bt256.2.1 = 0 then (if bt256.2.2 = 2 then ((comfitlaw06_awake.f k).bind fun t260 => (some t260)) else (none)) else (none)) else (none))))) = some r := H
 have A4 := Aside0.mk A40
 clear A40
 replace H := Option.bind_eq_some_iff.mp H
 obtain ⟨⟨t256, t257, t258⟩, A50, H⟩ := H
 replace H : ((comfitref06_Cutter.f a0 a1_0 a1_1 a1_2 a1_3 a2).bind fun t259 => (if t259 = true then ((comfitref06_Again.f k a0 a1_0 a1_1 a1_2 a1_3 a2).bind fun bt261 => (if t256 = bt261.1 then (if t257 = bt261.2.1 then (if t258 = bt261.2.2 then ((comfitlaw06_awake.f k).bind fun t264 => (some t264)) else (none)) else (none)) else (none))) else (if t256 = 0 then (if t257 = 0 then (if t258 = 2 then ((comfitlaw06_awake.f k).bind fun t260 => (some t260)) else (none)) else (none)) else (none)))) = some r := H
 have A5 := Aside0.mk A50
 clear A50
 replace H := Option.bind_eq_some_iff.mp H
 obtain ⟨t259, A60, H⟩ := H
 replace H : (if t259 = true then ((comfitref06_Again.f k a0 a1_0 a1_1 a1_2 a1_3 a2).bind fun bt261 => (if t256 = bt261.1 then (if t257 = bt261.2.1 then (if t258 = bt261.2.2 then ((comfitlaw06_awake.f k).bind fun t264 => (some t264)) else (none)) else (none)) else (none))) else (if t256 = 0 then (if t257 = 0 then (if t258 = 2 then ((comfitlaw06_awake.f k).bind fun t260 => (some t260)) else (none)) else (none)) else (none))) = some r := H
 have A6 := Aside0.mk A60
 clear A60
 by_cases c7 : t259 = true
 ·subst c7
  have H1 : ((comfitref06_Again.f k a0 a1_0 a1_1 a1_2 a1_3 a2).bind fun bt261 => (if t256 = bt261.1 then (if t257 = bt261.2.1 then (if t258 = bt261.2.2 then ((comfitlaw06_awake.f k).bind fun t264 => (some t264)) else (none)) else (none)) else (none))) = some r := by rw [if_pos rfl] at H; exact H
  clear H
  have H := H1
  clear H1
  replace H := Option.bind_eq_some_iff.mp H
  obtain ⟨⟨t261, t262, t263⟩, A80, H⟩ := H
  replace H : (if t256 = t261 then (if t257 = t262 then (if t258 = t263 then ((comfitlaw06_awake.f k).bind fun t264 => (some t264)) else (none)) else (none)) else (none)) = some r := H
  have A8 := Aside0.mk A80
  clear A80
  by_cases c9 : t256 = t261
  ·rw [if_pos c9] at H
   have c9b0 : (t256 == t261) = true := beq_iff_eq.mpr c9
   have c9b1 : (t256 != t261) = false := bne_eq_false_iff_eq.mpr c9
   clear c9
   by_cases c10 : t257 = t262
   ·rw [if_pos c10] at H
    have c10b0 : (t257 == t262) = true := beq_iff_eq.mpr c10
    have c10b1 : (t257 != t262) = false := bne_eq_false_iff_eq.mpr c10
    clear c10
    by_cases c11 : t258 = t263
    ·rw [if_pos c11] at H
     have c11b0 : (t258 == t263) = true := beq_iff_eq.mpr c11
     have c11b1 : (t258 != t263) = false := bne_eq_false_iff_eq.mpr c11
     clear c11
     replace H := Option.bind_eq_some_iff.mp H
     obtain ⟨t264, A120, H⟩ := H
     replace H : (some t264) = some r := H
     have A12 := Aside0.mk A120
     clear A120
     obtain rfl := Option.some.inj H
     go_enter Tryd.func3, Tryd.ntmps3
     try go_wp2_with (first | ((with_reducible refine gate_dst (N := 4) rfl ?_); refine box_event ?hg (N := 4) ?hd (cs := #[.string a1_0, .string a1_1, .string a1_2, .string a1_3]) (t := 22) ?hr ?_; (case hd => rfl); (case hg => rfl); (case hr => first | (go_simp; done) | (go_simp; rfl)); intro gb254 hg w13 hbox hb; have n0_ := Aside0.mk (below_step (hb_ HB.out) hb); have n1_ := Aside0.mk (hbox); have n2_ := Aside0.mk ((by rw [hg]; exact (below_size (hb_ HB.out)) : w.heap.size ≤ gb254)); have n3_ := Aside0.mk ((by rw [hg]; exact (below_size (hb_ HB.out)) : w.heap.size ≤ gb254)); clear HB; have HB := n0_; have BK254 := n1_; have GW254 := n2_; have GE254 := n3_; clear n0_ n1_ n2_ n3_; clear hb hbox hg))
     have n0_ := Aside0.mk (blk_drew BK254.out)
     have n1_ := Aside0.mk (below_drew1 HB.out)
     clear BK254
     clear HB
     have BK254 := n0_
     have HB := n1_
     clear n0_ n1_
     refine start_ (n := 12) (S := fun w' => w'.cell? ⟨gb254, 0, none⟩ = some (.string a1_0) ∧ w'.cell? ⟨gb254, 1, none⟩ = some (.string a1_1) ∧ w'.cell? ⟨gb254, 2, none⟩ = some (.string a1_2) ∧ w'.cell? ⟨gb254, 3, none⟩ = some (.string a1_3)) (ds := []) #[false, false, false, false, false, false, false, false, false, false, false, false] (by kernel_rfl) rfl rfl ⟨(blk_cell BK254.out 0).trans rfl, (blk_cell BK254.out 1).trans rfl, (blk_cell BK254.out 2).trans rfl, (blk_cell BK254.out 3).trans rfl⟩ (fun hHeld => ?_); refine with_tabW comfitlaw06_TagsAgain.tab1 comfitlaw06_TagsAgain.bits1 (fun HT_ HW_ => ?_)
     generalize w13.drew = w14 at BK254 HB hHeld ⊢
     refine pure_ (i := 0) (N := some 14) (v := ?_) (a' := ?_) #[true, false, false, false, false, false, false, false, false, false, false, false] rfl rfl (any_of HT_.out (by kernel_rfl)) (fun _ _ _ h => h) (Or.inl ⟨by rfl, ?_⟩) ?_ ?_
     rotate_left
     ·intro w'
      go_simp
      with_reducible rfl
     rotate_left
     ·simp only [Act.put, List.setIfInBounds_toArray, List.set_cons_zero, List.set_cons_succ, i64_w, i32_w]
      rfl
     refine pure_ (i := 2) (N := some 16) (v := ?_) (a' := ?_) #[true, false, true, false, false, false, false, false, false, false, false, false] rfl rfl (any_of HT_.out (by kernel_rfl)) (fun _ _ _ h => h) (Or.inl ⟨by rfl, ?_⟩) ?_ ?_
     rotate_left
     ·intro w'
      go_simp
      with_reducible rfl
     rotate_left
     ·simp only [Act.put, List.setIfInBounds_toArray, List.set_cons_zero, List.set_cons_succ, i64_w, i32_w]
      rfl
     refine take_ (i := 1) (N := some 15) (v := ?_) (a' := ?_) #[true, true, true, false, false, false, false, false, false, false, false, false] rfl rfl (take_ofW HT_.out HW_.out (by kernel_rfl)) (fun _ _ _ h => h) (Or.inl ⟨by rfl, ?_⟩) hHeld ?_ ?_
     rotate_left
     ·rintro w' ⟨s0, s1, s2, s3⟩
      go_simp
      with_reducible rfl
     rotate_left
     ·simp only [Act.put, List.setIfInBounds_toArray, List.set_cons_zero, List.set_cons_succ, i64_w, i32_w]
      rfl
     refine one_ (i := 3) (N := some 17) #[true, true, true, true, false, false, false, false, false, false, false, false] rfl rfl (one_of HT_.out (by kernel_rfl)) (by decide) (fun K hK => ?_)
     refine goes_ Tryd.func8 (by kernel_rfl) rfl #[.string a2] (by rfl) rfl rfl al_ ?_
     with_reducible refine (comfitlaw06_text.calls a2 t255 _ A4.out).mono ?_
     rintro e w15 ⟨rfl, hb⟩
     refine ⟨_, rfl, ?_⟩
     have n0_ := Aside0.mk (bkb_ BK254.out hb)
     have n1_ := Aside0.mk (below_step (hb_ HB.out) hb)
     clear BK254
     clear HB
     have BK254 := n0_
     have HB := n1_
     clear n0_ n1_
     (try clear hb)
     (try clear hb2)
     (try clear hk)
     (try clear hi)
     refine hK.out _ _ ⟨(blk_cell BK254.out 0).trans rfl, (blk_cell BK254.out 1).trans rfl, (blk_cell BK254.out 2).trans rfl, (blk_cell BK254.out 3).trans rfl⟩ (fun hHeld => ?_)
     clear hK K
     refine norm_ (a' := ?_) ?_ ?_
     rotate_left
     ·show Act.put _ (some 17) _ = _
      simp only [Act.put, List.setIfInBounds_toArray, List.set_cons_zero, List.set_cons_succ, i64_w, i32_w]
      rfl
     refine one_ (i := 4) (N := some 18) #[true, true, true, true, true, false, false, false, false, false, false, false] rfl rfl (one_of HT_.out (by kernel_rfl)) (by decide) (fun K hK => ?_)
     refine goes_ Tryd.func7 (by kernel_rfl) rfl #[.int .i64 a0, .agg #[.string a1_0, .string a1_1, .string a1_2, .string a1_3], .string t255] (by rfl) rfl rfl al_ ?_
     with_reducible refine (tags_Again.calls a0 a1_0 a1_1 a1_2 a1_3 t255 t256 t257 t258 _ A5.out).mono ?_
     rintro e w16 ⟨rfl, hb⟩
     refine ⟨_, rfl, ?_⟩
     have n0_ := Aside0.mk (bkb_ BK254.out hb)
     have n1_ := Aside0.mk (below_step (hb_ HB.out) hb)
     clear BK254
     clear HB
     have BK254 := n0_
     have HB := n1_
     clear n0_ n1_
     (try clear hb)
     (try clear hb2)
     (try clear hk)
     (try clear hi)
     refine hK.out _ _ ⟨(blk_cell BK254.out 0).trans rfl, (blk_cell BK254.out 1).trans rfl, (blk_cell BK254.out 2).trans rfl, (blk_cell BK254.out 3).trans rfl⟩ (fun hHeld => ?_)
     clear hK K
     refine norm_ (a' := ?_) ?_ ?_
     rotate_left
     ·show Act.put _ (some 18) _ = _
      simp only [Act.put, List.setIfInBounds_toArray, List.set_cons_zero, List.set_cons_succ, i64_w, i32_w]
      rfl
     refine pure_ (i := 5) (N := some 13) (v := ?_) (a' := ?_) #[true, true, true, true, true, true, false, false, false, false, false, false] rfl rfl (any_of HT_.out (by kernel_rfl)) (fun _ _ _ h => h) (Or.inl ⟨by rfl, ?_⟩) ?_ ?_
     rotate_left
     ·intro w'
      go_simp
      with_reducible rfl
     rotate_left
     ·simp only [Act.put, List.setIfInBounds_toArray, List.set_cons_zero, List.set_cons_succ, i64_w, i32_w]
      rfl
     refine pure_ (i := 6) (N := some 19) (v := ?_) (a' := ?_) #[true, true, true, true, true, true, true, false, false, false, false, false] rfl rfl (any_of HT_.out (by kernel_rfl)) (fun _ _ _ h => h) (Or.inl ⟨by rfl, ?_⟩) ?_ ?_
     rotate_left
     ·intro w'
      go_simp
      with_reducible rfl
     rotate_left
     ·simp only [Act.put, List.setIfInBounds_toArray, List.set_cons_zero, List.set_cons_succ, i64_w, i32_w]
      rfl
     refine pure_ (i := 7) (N := some 20) (v := ?_) (a' := ?_) #[true, true, true, true, true, true, true, true, false, false, false, false] rfl rfl (any_of HT_.out (by kernel_rfl)) (fun _ _ _ h => h) (Or.inl ⟨by rfl, ?_⟩) ?_ ?_
     rotate_left
     ·intro w'
      go_simp
      with_reducible rfl
     rotate_left
     ·simp only [Act.put, List.setIfInBounds_toArray, List.set_cons_zero, List.set_cons_succ, i64_w, i32_w]
      rfl
     refine pure_ (i := 8) (N := some 21) (v := ?_) (a' := ?_) #[true, true, true, true, true, true, true, true, true, false, false, false] rfl rfl (any_of HT_.out (by kernel_rfl)) (fun _ _ _ h => h) (Or.inl ⟨by rfl, ?_⟩) ?_ ?_
     rotate_left
     ·intro w'
      go_simp
      with_reducible rfl
     rotate_left
     ·simp only [Act.put, List.setIfInBounds_toArray, List.set_cons_zero, List.set_cons_succ, i64_w, i32_w]
      rfl
     refine pure_ (i := 9) (N := some 7) (v := ?_) (a' := ?_) #[true, true, true, true, true, true, true, true, true, true, false, false] rfl rfl (any_of HT_.out (by kernel_rfl)) (fun _ _ _ h => h) (Or.inl ⟨by rfl, ?_⟩) ?_ ?_
     rotate_left
     ·intro w'
      go_simp
      with_reducible rfl
     rotate_left
     ·simp only [Act.put, List.setIfInBounds_toArray, List.set_cons_zero, List.set_cons_succ, i64_w, i32_w]
      rfl
     refine pure_ (i := 10) (N := some 8) (v := ?_) (a' := ?_) #[true, true, true, true, true, true, true, true, true, true, true, false] rfl rfl (any_of HT_.out (by kernel_rfl)) (fun _ _ _ h => h) (Or.inl ⟨by rfl, ?_⟩) ?_ ?_
     rotate_left
     ·intro w'
      go_simp
      with_reducible rfl
     rotate_left
     ·simp only [Act.put, List.setIfInBounds_toArray, List.set_cons_zero, List.set_cons_succ, i64_w, i32_w]
      rfl
     refine pure_ (i := 11) (N := some 9) (v := ?_) (a' := ?_) #[true, true, true, true, true, true, true, true, true, true, true, true] rfl rfl (any_of HT_.out (by kernel_rfl)) (fun _ _ _ h => h) (Or.inl ⟨by rfl, ?_⟩) ?_ ?_
     rotate_left
     ·intro w'
      go_simp
      with_reducible rfl
     rotate_left
     ·simp only [Act.put, List.setIfInBounds_toArray, List.set_cons_zero, List.set_cons_succ, i64_w, i32_w]
      rfl
     refine done_ (done_of HT_.out (by kernel_rfl)) ?_
     have hcz17_0 : w16.cell? ⟨gb254, 0, none⟩ = some (.string a1_0) := (blk_cell BK254.out 0).trans rfl
     have hcz17_1 : w16.cell? ⟨gb254, 1, none⟩ = some (.string a1_1) := (blk_cell BK254.out 1).trans rfl
     have hcz17_2 : w16.cell? ⟨gb254, 2, none⟩ = some (.string a1_2) := (blk_cell BK254.out 2).trans rfl
     have hcz17_3 : w16.cell? ⟨gb254, 3, none⟩ = some (.string a1_3) := (blk_cell BK254.out 3).trans rfl
     have hfz17_0 := blk_frozen BK254.out 0
     have hfz17_1 := blk_frozen BK254.out 1
     have hfz17_2 := blk_frozen BK254.out 2
     have hfz17_3 := blk_frozen BK254.out 3
     try go_wp2_with (first | ((with_reducible refine gate_callee (f := 9) rfl ?_); refine goesL_ (some 25) rfl rfl Tryd.func9 (by kernel_rfl) rfl #[.int .i64 a0, .agg #[.string a1_0, .string a1_1, .string a1_2, .string a1_3], .string a2] rfl al_ ?_; (with_reducible refine (comfitref06_Cutter.calls a0 a1_0 a1_1 a1_2 a1_3 a2 true _ A6.out).mono ?_); rintro e w18 ⟨rfl, hb⟩; refine ⟨_, rfl, ?_⟩; have n0_ := Aside0.mk (bkb_ BK254.out hb); have n1_ := Aside0.mk (below_step (hb_ HB.out) hb); clear BK254; clear HB; have BK254 := n0_; have HB := n1_; clear n0_ n1_; (try clear hb); (try clear hb2); (try clear hk); (try clear hi); have hcz19_0 : w18.cell? ⟨gb254, 0, none⟩ = some (.string a1_0) := (blk_cell BK254.out 0).trans rfl; have hcz19_1 : w18.cell? ⟨gb254, 1, none⟩ = some (.string a1_1) := (blk_cell BK254.out 1).trans rfl; have hcz19_2 : w18.cell? ⟨gb254, 2, none⟩ = some (.string a1_2) := (blk_cell BK254.out 2).trans rfl; have hcz19_3 : w18.cell? ⟨gb254, 3, none⟩ = some (.string a1_3) := (blk_cell BK254.out 3).trans rfl; have hfz19_0 := blk_frozen BK254.out 0; have hfz19_1 := blk_frozen BK254.out 1; have hfz19_2 := blk_frozen BK254.out 2; have hfz19_3 := blk_frozen BK254.out 3) | ((with_reducible refine gate_callee (f := 11) rfl ?_); refine goesL_ (some 44) rfl rfl Tryd.func11 (by kernel_rfl) rfl #[.int .i64 a0, .agg #[.string a1_0, .string a1_1, .string a1_2, .string a1_3], .string a2] rfl al_ ?_; (with_reducible refine (comfitref06_Again.calls k a0 a1_0 a1_1 a1_2 a1_3 a2 t261 t262 t263 _ A8.out).mono ?_); rintro e w20 ⟨rfl, hb⟩; refine ⟨_, rfl, ?_⟩; have n0_ := Aside0.mk (bkb_ BK254.out hb); have n1_ := Aside0.mk (below_step (hb_ HB.out) hb); clear BK254; clear HB; have BK254 := n0_; have HB := n1_; clear n0_ n1_; (try clear hb); (try clear hb2); (try clear hk); (try clear hi)) | (go_at_call 10; (with_reducible refine (comfitlaw06_awake.calls k  t264 _ A12.out).mono ?_); rintro e w21 ⟨rfl, hb⟩; have n0_ := Aside0.mk (bkb_ BK254.out hb); have n1_ := Aside0.mk (below_step (hb_ HB.out) hb); clear BK254; clear HB; have BK254 := n0_; have HB := n1_; clear n0_ n1_; (try clear hb); (try clear hb2); (try clear hk); (try clear hi)))
     go_ret
     exact ⟨by first | rfl | (simp [errW_none, errW_some] <;> rfl) | (simp [*, errW_none, errW_some] <;> rfl), by repeat (first | (with_reducible first | exact HB.out | apply below_alloc | apply pw_below_drewN | apply below_drew1 | refine below_set ?_ GE254.out) | exact HB.out)⟩
    ·rw [if_neg c11] at H
     exact absurd H (by simp)
   ·rw [if_neg c10] at H
    exact absurd H (by simp)
  ·rw [if_neg c9] at H
   exact absurd H (by simp)
 ·replace c7 := Bool.eq_false_iff.mpr c7
  subst c7
  have H1 : (if t256 = 0 then (if t257 = 0 then (if t258 = 2 then ((comfitlaw06_awake.f k).bind fun t260 => (some t260)) else (none)) else (none)) else (none)) = some r := by rw [if_neg (show ¬ (false = true) by decide)] at H; exact H
  clear H
  have H := H1
  clear H1
  by_cases c22 : t256 = 0
  ·rw [if_pos c22] at H
   have c22b0 : (t256 == 0) = true := beq_iff_eq.mpr c22
   have c22b1 : (t256 != 0) = false := bne_eq_false_iff_eq.mpr c22
   clear c22
   by_cases c23 : t257 = 0
   ·rw [if_pos c23] at H
    have c23b0 : (t257 == 0) = true := beq_iff_eq.mpr c23
    have c23b1 : (t257 != 0) = false := bne_eq_false_iff_eq.mpr c23
    clear c23
    by_cases c24 : t258 = 2
    ·rw [if_pos c24] at H
     have c24b0 : (t258 == 2) = true := beq_iff_eq.mpr c24
     have c24b1 : (t258 != 2) = false := bne_eq_false_iff_eq.mpr c24
     clear c24
     replace H := Option.bind_eq_some_iff.mp H
     obtain ⟨t260, A250, H⟩ := H
     replace H : (some t260) = some r := H
     have A25 := Aside0.mk A250
     clear A250
     obtain rfl := Option.some.inj H
     go_enter Tryd.func3, Tryd.ntmps3
     try go_wp2_with (first | ((with_reducible refine gate_dst (N := 4) rfl ?_); refine box_event ?hg (N := 4) ?hd (cs := #[.string a1_0, .string a1_1, .string a1_2, .string a1_3]) (t := 22) ?hr ?_; (case hd => rfl); (case hg => rfl); (case hr => first | (go_simp; done) | (go_simp; rfl)); intro gb254 hg w26 hbox hb; have n0_ := Aside0.mk (below_step (hb_ HB.out) hb); have n1_ := Aside0.mk (hbox); have n2_ := Aside0.mk ((by rw [hg]; exact (below_size (hb_ HB.out)) : w.heap.size ≤ gb254)); have n3_ := Aside0.mk ((by rw [hg]; exact (below_size (hb_ HB.out)) : w.heap.size ≤ gb254)); clear HB; have HB := n0_; have BK254 := n1_; have GW254 := n2_; have GE254 := n3_; clear n0_ n1_ n2_ n3_; clear hb hbox hg))
     have n0_ := Aside0.mk (blk_drew BK254.out)
     have n1_ := Aside0.mk (below_drew1 HB.out)
     clear BK254
     clear HB
     have BK254 := n0_
     have HB := n1_
     clear n0_ n1_
     refine start_ (n := 12) (S := fun w' => w'.cell? ⟨gb254, 0, none⟩ = some (.string a1_0) ∧ w'.cell? ⟨gb254, 1, none⟩ = some (.string a1_1) ∧ w'.cell? ⟨gb254, 2, none⟩ = some (.string a1_2) ∧ w'.cell? ⟨gb254, 3, none⟩ = some (.string a1_3)) (ds := []) #[false, false, false, false, false, false, false, false, false, false, false, false] (by kernel_rfl) rfl rfl ⟨(blk_cell BK254.out 0).trans rfl, (blk_cell BK254.out 1).trans rfl, (blk_cell BK254.out 2).trans rfl, (blk_cell BK254.out 3).trans rfl⟩ (fun hHeld => ?_); refine with_tabW comfitlaw06_TagsAgain.tab1 comfitlaw06_TagsAgain.bits1 (fun HT_ HW_ => ?_)
     generalize w26.drew = w27 at BK254 HB hHeld ⊢
     refine pure_ (i := 0) (N := some 14) (v := ?_) (a' := ?_) #[true, false, false, false, false, false, false, false, false, false, false, false] rfl rfl (any_of HT_.out (by kernel_rfl)) (fun _ _ _ h => h) (Or.inl ⟨by rfl, ?_⟩) ?_ ?_
     rotate_left
     ·intro w'
      go_simp
      with_reducible rfl
     rotate_left
     ·simp only [Act.put, List.setIfInBounds_toArray, List.set_cons_zero, List.set_cons_succ, i64_w, i32_w]
      rfl
     refine pure_ (i := 2) (N := some 16) (v := ?_) (a' := ?_) #[true, false, true, false, false, false, false, false, false, false, false, false] rfl rfl (any_of HT_.out (by kernel_rfl)) (fun _ _ _ h => h) (Or.inl ⟨by rfl, ?_⟩) ?_ ?_
     rotate_left
     ·intro w'
      go_simp
      with_reducible rfl
     rotate_left
     ·simp only [Act.put, List.setIfInBounds_toArray, List.set_cons_zero, List.set_cons_succ, i64_w, i32_w]
      rfl
     refine take_ (i := 1) (N := some 15) (v := ?_) (a' := ?_) #[true, true, true, false, false, false, false, false, false, false, false, false] rfl rfl (take_ofW HT_.out HW_.out (by kernel_rfl)) (fun _ _ _ h => h) (Or.inl ⟨by rfl, ?_⟩) hHeld ?_ ?_
     rotate_left
     ·rintro w' ⟨s0, s1, s2, s3⟩
      go_simp
      with_reducible rfl
     rotate_left
     ·simp only [Act.put, List.setIfInBounds_toArray, List.set_cons_zero, List.set_cons_succ, i64_w, i32_w]
      rfl
     refine one_ (i := 3) (N := some 17) #[true, true, true, true, false, false, false, false, false, false, false, false] rfl rfl (one_of HT_.out (by kernel_rfl)) (by decide) (fun K hK => ?_)
     refine goes_ Tryd.func8 (by kernel_rfl) rfl #[.string a2] (by rfl) rfl rfl al_ ?_
     with_reducible refine (comfitlaw06_text.calls a2 t255 _ A4.out).mono ?_
     rintro e w28 ⟨rfl, hb⟩
     refine ⟨_, rfl, ?_⟩
     have n0_ := Aside0.mk (bkb_ BK254.out hb)
     have n1_ := Aside0.mk (below_step (hb_ HB.out) hb)
     clear BK254
     clear HB
     have BK254 := n0_
     have HB := n1_
     clear n0_ n1_
     (try clear hb)
     (try clear hb2)
     (try clear hk)
     (try clear hi)
     refine hK.out _ _ ⟨(blk_cell BK254.out 0).trans rfl, (blk_cell BK254.out 1).trans rfl, (blk_cell BK254.out 2).trans rfl, (blk_cell BK254.out 3).trans rfl⟩ (fun hHeld => ?_)
     clear hK K
     refine norm_ (a' := ?_) ?_ ?_
     rotate_left
     ·show Act.put _ (some 17) _ = _
      simp only [Act.put, List.setIfInBounds_toArray, List.set_cons_zero, List.set_cons_succ, i64_w, i32_w]
      rfl
     refine one_ (i := 4) (N := some 18) #[true, true, true, true, true, false, false, false, false, false, false, false] rfl rfl (one_of HT_.out (by kernel_rfl)) (by decide) (fun K hK => ?_)
     refine goes_ Tryd.func7 (by kernel_rfl) rfl #[.int .i64 a0, .agg #[.string a1_0, .string a1_1, .string a1_2, .string a1_3], .string t255] (by rfl) rfl rfl al_ ?_
     with_reducible refine (tags_Again.calls a0 a1_0 a1_1 a1_2 a1_3 t255 t256 t257 t258 _ A5.out).mono ?_
     rintro e w29 ⟨rfl, hb⟩
     refine ⟨_, rfl, ?_⟩
     have n0_ := Aside0.mk (bkb_ BK254.out hb)
     have n1_ := Aside0.mk (below_step (hb_ HB.out) hb)
     clear BK254
     clear HB
     have BK254 := n0_
     have HB := n1_
     clear n0_ n1_
     (try clear hb)
     (try clear hb2)
     (try clear hk)
     (try clear hi)
     refine hK.out _ _ ⟨(blk_cell BK254.out 0).trans rfl, (blk_cell BK254.out 1).trans rfl, (blk_cell BK254.out 2).trans rfl, (blk_cell BK254.out 3).trans rfl⟩ (fun hHeld => ?_)
     clear hK K
     refine norm_ (a' := ?_) ?_ ?_
     rotate_left
     ·show Act.put _ (some 18) _ = _
      simp only [Act.put, List.setIfInBounds_toArray, List.set_cons_zero, List.set_cons_succ, i64_w, i32_w]
      rfl
     refine pure_ (i := 5) (N := some 13) (v := ?_) (a' := ?_) #[true, true, true, true, true, true, false, false, false, false, false, false] rfl rfl (any_of HT_.out (by kernel_rfl)) (fun _ _ _ h => h) (Or.inl ⟨by rfl, ?_⟩) ?_ ?_
     rotate_left
     ·intro w'
      go_simp
      with_reducible rfl
     rotate_left
     ·simp only [Act.put, List.setIfInBounds_toArray, List.set_cons_zero, List.set_cons_succ, i64_w, i32_w]
      rfl
     refine pure_ (i := 6) (N := some 19) (v := ?_) (a' := ?_) #[true, true, true, true, true, true, true, false, false, false, false, false] rfl rfl (any_of HT_.out (by kernel_rfl)) (fun _ _ _ h => h) (Or.inl ⟨by rfl, ?_⟩) ?_ ?_
     rotate_left
     ·intro w'
      go_simp
      with_reducible rfl
     rotate_left
     ·simp only [Act.put, List.setIfInBounds_toArray, List.set_cons_zero, List.set_cons_succ, i64_w, i32_w]
      rfl
     refine pure_ (i := 7) (N := some 20) (v := ?_) (a' := ?_) #[true, true, true, true, true, true, true, true, false, false, false, false] rfl rfl (any_of HT_.out (by kernel_rfl)) (fun _ _ _ h => h) (Or.inl ⟨by rfl, ?_⟩) ?_ ?_
     rotate_left
     ·intro w'
      go_simp
      with_reducible rfl
     rotate_left
     ·simp only [Act.put, List.setIfInBounds_toArray, List.set_cons_zero, List.set_cons_succ, i64_w, i32_w]
      rfl
     refine pure_ (i := 8) (N := some 21) (v := ?_) (a' := ?_) #[true, true, true, true, true, true, true, true, true, false, false, false] rfl rfl (any_of HT_.out (by kernel_rfl)) (fun _ _ _ h => h) (Or.inl ⟨by rfl, ?_⟩) ?_ ?_
     rotate_left
     ·intro w'
      go_simp
      with_reducible rfl
     rotate_left
     ·simp only [Act.put, List.setIfInBounds_toArray, List.set_cons_zero, List.set_cons_succ, i64_w, i32_w]
      rfl
     refine pure_ (i := 9) (N := some 7) (v := ?_) (a' := ?_) #[true, true, true, true, true, true, true, true, true, true, false, false] rfl rfl (any_of HT_.out (by kernel_rfl)) (fun _ _ _ h => h) (Or.inl ⟨by rfl, ?_⟩) ?_ ?_
     rotate_left
     ·intro w'
      go_simp
      with_reducible rfl
     rotate_left
     ·simp only [Act.put, List.setIfInBounds_toArray, List.set_cons_zero, List.set_cons_succ, i64_w, i32_w]
      rfl
     refine pure_ (i := 10) (N := some 8) (v := ?_) (a' := ?_) #[true, true, true, true, true, true, true, true, true, true, true, false] rfl rfl (any_of HT_.out (by kernel_rfl)) (fun _ _ _ h => h) (Or.inl ⟨by rfl, ?_⟩) ?_ ?_
     rotate_left
     ·intro w'
      go_simp
      with_reducible rfl
     rotate_left
     ·simp only [Act.put, List.setIfInBounds_toArray, List.set_cons_zero, List.set_cons_succ, i64_w, i32_w]
      rfl
     refine pure_ (i := 11) (N := some 9) (v := ?_) (a' := ?_) #[true, true, true, true, true, true, true, true, true, true, true, true] rfl rfl (any_of HT_.out (by kernel_rfl)) (fun _ _ _ h => h) (Or.inl ⟨by rfl, ?_⟩) ?_ ?_
     rotate_left
     ·intro w'
      go_simp
      with_reducible rfl
     rotate_left
     ·simp only [Act.put, List.setIfInBounds_toArray, List.set_cons_zero, List.set_cons_succ, i64_w, i32_w]
      rfl
     refine done_ (done_of HT_.out (by kernel_rfl)) ?_
     have hcz30_0 : w29.cell? ⟨gb254, 0, none⟩ = some (.string a1_0) := (blk_cell BK254.out 0).trans rfl
     have hcz30_1 : w29.cell? ⟨gb254, 1, none⟩ = some (.string a1_1) := (blk_cell BK254.out 1).trans rfl
     have hcz30_2 : w29.cell? ⟨gb254, 2, none⟩ = some (.string a1_2) := (blk_cell BK254.out 2).trans rfl
     have hcz30_3 : w29.cell? ⟨gb254, 3, none⟩ = some (.string a1_3) := (blk_cell BK254.out 3).trans rfl
     have hfz30_0 := blk_frozen BK254.out 0
     have hfz30_1 := blk_frozen BK254.out 1
     have hfz30_2 := blk_frozen BK254.out 2
     have hfz30_3 := blk_frozen BK254.out 3
     try go_wp2_with (first | ((with_reducible refine gate_callee (f := 9) rfl ?_); refine goesL_ (some 25) rfl rfl Tryd.func9 (by kernel_rfl) rfl #[.int .i64 a0, .agg #[.string a1_0, .string a1_1, .string a1_2, .string a1_3], .string a2] rfl al_ ?_; (with_reducible refine (comfitref06_Cutter.calls a0 a1_0 a1_1 a1_2 a1_3 a2 false _ A6.out).mono ?_); rintro e w31 ⟨rfl, hb⟩; refine ⟨_, rfl, ?_⟩; have n0_ := Aside0.mk (bkb_ BK254.out hb); have n1_ := Aside0.mk (below_step (hb_ HB.out) hb); clear BK254; clear HB; have BK254 := n0_; have HB := n1_; clear n0_ n1_; (try clear hb); (try clear hb2); (try clear hk); (try clear hi)) | (go_at_call 10; (with_reducible refine (comfitlaw06_awake.calls k  t260 _ A25.out).mono ?_); rintro e w32 ⟨rfl, hb⟩; have n0_ := Aside0.mk (bkb_ BK254.out hb); have n1_ := Aside0.mk (below_step (hb_ HB.out) hb); clear BK254; clear HB; have BK254 := n0_; have HB := n1_; clear n0_ n1_; (try clear hb); (try clear hb2); (try clear hk); (try clear hi)))
     go_ret
     exact ⟨by first | rfl | (simp [errW_none, errW_some] <;> rfl) | (simp [*, errW_none, errW_some] <;> rfl), by repeat (first | (with_reducible first | exact HB.out | apply below_alloc | apply pw_below_drewN | apply below_drew1 | refine below_set ?_ GE254.out) | exact HB.out)⟩
    ·rw [if_neg c24] at H
     exact absurd H (by simp)
   ·rw [if_neg c23] at H
    exact absurd H (by simp)
  ·rw [if_neg c22] at H
   exact absurd H (by simp)

end Go.Proofs.YtjmbjnobbeflfaaDoor.X
