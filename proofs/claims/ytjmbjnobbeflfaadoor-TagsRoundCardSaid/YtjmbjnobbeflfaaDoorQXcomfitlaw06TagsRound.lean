/- Written by a program of this session (wip/tools/xprint.py, which calls the kit's print): Go functions as Lean functions, and for each the proof that the machine's call does what it says; no conditions but those that each theorem names. -/
import Derived.Test.YtjmbjnobbeflfaaDoorQX0
import Derived.Test.YtjmbjnobbeflfaaDoorQXE
import Derived.Test.YtjmbjnobbeflfaaDoorQXT
import Derived.Test.YtjmbjnobbeflfaaDoorQHAg
import Derived.Test.YtjmbjnobbeflfaaDoorQHCutter
import Derived.Test.YtjmbjnobbeflfaaDoorQHRun
namespace Go.Proofs.YtjmbjnobbeflfaaDoor.X
open Go.RowKit Go.Proofs.YtjmbjnobbeflfaaDoorW.PrintWords Go.Proofs.YtjmbjnobbeflfaaDoorW.PrintLast Go.Proofs.YtjmbjnobbeflfaaDoorW.PrintMore
attribute [local go_sem] max2_int min2_int max_two min_two max_three min_three max_four min_four   -- for this text's walks alone
set_option linter.unusedVariables false
set_option linter.unusedSimpArgs false

/-! ### comfitlaw06_TagsRound: function 6 -/
mutual
def comfitlaw06_TagsRound.j0 : Nat → Int → ByteArray → Int → Int → Int → Int → Int → Bool → ByteArray → ByteArray → ByteArray → ByteArray → Option (Bool)
 | 0, _, _, _, _, _, _, _, _, _, _, _, _ => none
 | k + 1, x0, x2, x3, x4, x11, x12, x13, x41, x220000, x220001, x220002, x220003 => if x41 = true then (if x13 = 2 then ((comfitlaw06_awake.f k).bind fun t225 => (some t225)) else (if x13 = 6 then ((comfitlaw06_awake.f k).bind fun t226 => (some t226)) else (if x13 = 4 then ((comfitlaw06_awake.f k).bind fun t227 => (some t227)) else (if x13 = 5 then ((comfitlaw06_awake.f k).bind fun t228 => (some t228)) else (none))))) else (if x11 < 0 then (comfitlaw06_TagsRound.j1 k x0 x2 x3 x4 x11 x12 true x220000 x220001 x220002 x220003) else (if x12 < 1 then (comfitlaw06_TagsRound.j1 k x0 x2 x3 x4 x11 x12 true x220000 x220001 x220002 x220003) else (comfitlaw06_TagsRound.j1 k x0 x2 x3 x4 x11 x12 (decide ((wrap64 (x11 + x12)) > 1000)) x220000 x220001 x220002 x220003)))
def comfitlaw06_TagsRound.j1 : Nat → Int → ByteArray → Int → Int → Int → Int → Bool → ByteArray → ByteArray → ByteArray → ByteArray → Option (Bool)
 | 0, _, _, _, _, _, _, _, _, _, _, _ => none
 | k + 1, x0, x2, x3, x4, x11, x12, x70, x220000, x220001, x220002, x220003 => if x70 = true then (none) else ((tags_Run.f x0 x220000 x220001 x220002 x220003 x2 x11).bind fun bt229 => ((tags_Run.f x0 x220000 x220001 x220002 x220003 x2 (wrap64 (x11 + x12))).bind fun bt232 => (if bt229.2.2 = 0 then (if bt232.2.2 = 0 then (if bt229.1.toList = bt232.1.toList then (if bt229.2.1 = x11 then (comfitlaw06_TagsRound.j2 k x0 x2 x3 x4 x11 x12 (bt232.2.1 != (wrap64 (x11 + x12))) x220000 x220001 x220002 x220003) else (comfitlaw06_TagsRound.j2 k x0 x2 x3 x4 x11 x12 true x220000 x220001 x220002 x220003)) else (comfitlaw06_TagsRound.j2 k x0 x2 x3 x4 x11 x12 true x220000 x220001 x220002 x220003)) else (comfitlaw06_TagsRound.j2 k x0 x2 x3 x4 x11 x12 true x220000 x220001 x220002 x220003)) else (comfitlaw06_TagsRound.j2 k x0 x2 x3 x4 x11 x12 true x220000 x220001 x220002 x220003))))
def comfitlaw06_TagsRound.j2 : Nat → Int → ByteArray → Int → Int → Int → Int → Bool → ByteArray → ByteArray → ByteArray → ByteArray → Option (Bool)
 | 0, _, _, _, _, _, _, _, _, _, _, _ => none
 | k + 1, x0, x2, x3, x4, x11, x12, x113, x220000, x220001, x220002, x220003 => if x113 = true then (none) else (if (IntKind.u64.wrap (wrap64 (x11 + x12))) = 0 then (none) else ((tags_Run.f x0 x220000 x220001 x220002 x220003 x2 (wrap64 (Int.tmod (IntKind.u64.wrap (x3)) (IntKind.u64.wrap (wrap64 (x11 + x12)))))).bind fun bt235 => ((tags_Run.f x0 x220000 x220001 x220002 x220003 x2 (wrap64 (Int.tmod (IntKind.u64.wrap (x4)) (IntKind.u64.wrap (wrap64 (x11 + x12)))))).bind fun bt238 => (if bt235.2.2 = 0 then (if bt238.2.2 = 0 then (if ((bt235.1.toList == bt238.1.toList) == ((wrap64 (Int.tmod (IntKind.u64.wrap (x3)) (IntKind.u64.wrap (wrap64 (x11 + x12))))) == (wrap64 (Int.tmod (IntKind.u64.wrap (x4)) (IntKind.u64.wrap (wrap64 (x11 + x12))))))) = true then ((comfitlaw06_awake.f k).bind fun t241 => (some t241)) else (none)) else (none)) else (none)))))
end
def comfitlaw06_TagsRound.f (k : Nat) (a0 : Int) (a1_0 : ByteArray) (a1_1 : ByteArray) (a1_2 : ByteArray) (a1_3 : ByteArray) (a2 : ByteArray) (a3 : Int) (a4 : Int) : Option (Bool) := (comfitlaw06_text.f a2).bind fun t220 => ((tags_Again.f a0 a1_0 a1_1 a1_2 a1_3 t220).bind fun bt221 => (if bt221.2.2 = 0 then ((comfitref06_Cutter.f a0 a1_0 a1_1 a1_2 a1_3 a2).bind fun t224 => (comfitlaw06_TagsRound.j0 k a0 a2 a3 a4 bt221.1 bt221.2.1 bt221.2.2 (!t224) a1_0 a1_1 a1_2 a1_3)) else (comfitlaw06_TagsRound.j0 k a0 a2 a3 a4 bt221.1 bt221.2.1 bt221.2.2 true a1_0 a1_1 a1_2 a1_3)))
def comfitlaw06_TagsRound.T1 : Bool × List (List Nat × List Nat) := (true, [([], []), ([], []), ([], []), ([2], [2]), ([0, 1, 3, 3], [0, 1, 3]), ([4], [4]), ([5], [5]), ([5], [5]), ([5], [5]), ([6, 4, 0, 1, 2, 3, 4, 5, 6], [6]), ([7, 9, 0, 1, 2, 3, 4, 5, 6, 7, 9], [7]), ([8, 10, 0, 1, 2, 3, 4, 5, 6, 7, 8, 9, 10], [8])])
def comfitlaw06_TagsRound.B1 : List Nat := [0, 0, 0, 4, 15, 31, 63, 63, 63, 127, 767, 2047]
theorem comfitlaw06_TagsRound.tab1 : rtab .any (opsOf Tryd.f6 1) = comfitlaw06_TagsRound.T1 := by kernel_rfl
theorem comfitlaw06_TagsRound.bits1 : waitsOk comfitlaw06_TagsRound.T1.2 comfitlaw06_TagsRound.B1 = true := by kernel_rfl
def comfitlaw06_TagsRound.T10 : Bool × List (List Nat × List Nat) := (true, [([], []), ([0], [0]), ([], []), ([], []), ([2, 3], [2, 3]), ([4], [4]), ([1, 5], [1, 5]), ([6], [6]), ([], []), ([8], [8]), ([], []), ([], []), ([10, 11], [10, 11]), ([12], [12]), ([9, 13], [9, 13]), ([14], [14]), ([7, 0, 1, 2, 3, 4, 5, 6, 7], [0, 7]), ([15, 16, 0, 1, 2, 3, 4, 5, 6, 7, 8, 9, 10, 11, 12, 13, 14, 15, 16], [8, 15])])
def comfitlaw06_TagsRound.B10 : List Nat := [0, 1, 0, 0, 12, 28, 63, 127, 0, 256, 0, 0, 3072, 7168, 16128, 32512, 255, 131071]
theorem comfitlaw06_TagsRound.tab10 : rtab .any (opsOf Tryd.f6 10) = comfitlaw06_TagsRound.T10 := by kernel_rfl
theorem comfitlaw06_TagsRound.bits10 : waitsOk comfitlaw06_TagsRound.T10.2 comfitlaw06_TagsRound.B10 = true := by kernel_rfl
set_option maxHeartbeats 8000000 in
set_option maxRecDepth 100000 in
theorem comfitlaw06_TagsRound.calls (k : Nat) (a0 : Int) (a1_0 : ByteArray) (a1_1 : ByteArray) (a1_2 : ByteArray) (a1_3 : ByteArray) (a2 : ByteArray) (a3 : Int) (a4 : Int) (r : Bool) (w : World) (h : comfitlaw06_TagsRound.f k a0 a1_0 a1_1 a1_2 a1_3 a2 a3 a4 = some r) :
  Calls Tryd.prog 6 #[.int .i64 a0, .agg #[.string a1_0, .string a1_1, .string a1_2, .string a1_3], .string a2, .int .i64 a3, .int .i64 a4] w fun e w' => e = .returned (.bool r) ∧ Below w.heap.size w w' := by
 have hu22 := Tryd.underlying22
 have HB := Aside0.mk (Below.refl w.heap.size w)
 have H : ((comfitlaw06_text.f a2).bind fun t220 => ((tags_Again.f a0 a1_0 a1_1 a1_2 a1_3 t220).bind fun bt221 => (if bt221.2.2 = 0 then ((comfitref06_Cutter.f a0 a1_0 a1_1 a1_2 a1_3 a2).bind fun t224 => (comfitlaw06_TagsRound.j0 k a0 a2 a3 a4 bt221.1 bt221.2.1 bt221.2.2 (!t224) a1_0 a1_1 a1_2 a1_3)) else (comfitlaw06_TagsRound.j0 k a0 a2 a3 a4 bt221.1 bt221.2.1 bt221.2.2 true a1_0 a1_1 a1_2 a1_3)))) = some r := h
 clear h
 replace H := Option.bind_eq_some_iff.mp H
 obtain ⟨t220, A60, H⟩ := H
 replace H : ((tags_Again.f a0 a1_0 a1_1 a1_2 a1_3 t220).bind fun bt221 => (if bt221.2.2 = 0 then ((comfitref06_Cutter.f a0 a1_0 a1_1 a1_2 a1_3 a2).bind fun t224 => (comfitlaw06_TagsRound.j0 k a0 a2 a3 a4 bt221.1 bt221.2.1 bt221.2.2 (!t224) a1_0 a1_1 a1_2 a1_3)) else (comfitlaw06_TagsRound.j0 k a0 a2 a3 a4 bt221.1 bt221.2.1 bt221.2.2 true a1_0 a1_1 a1_2 a1_3))) = some r := H
 have A6 := Aside0.mk A60
 clear A60
 replace H := Option.bind_eq_some_iff.mp H
 obtain ⟨⟨t221, t222, t223⟩, A70, H⟩ := H
 replace H : (if t223 = 0 then ((comfitref06_Cutter.f a0 a1_0 a1_1 a1_2 a1_3 a2).bind fun t224 => (comfitlaw06_TagsRound.j0 k a0 a2 a3 a4 t221 t222 t223 (!t224) a1_0 a1_1 a1_2 a1_3)) else (comfitlaw06_TagsRound.j0 k a0 a2 a3 a4 t221 t222 t223 true a1_0 a1_1 a1_2 a1_3)) = some r := H
 have A7 := Aside0.mk A70
 clear A70
 have HC8 := Aside0.mk H
 clear H
 go_enter Tryd.func6, Tryd.ntmps6
 try go_wp2_with (first | ((with_reducible refine gate_dst (N := 6) rfl ?_); refine box_event ?hg (N := 6) ?hd (cs := #[.string a1_0, .string a1_1, .string a1_2, .string a1_3]) (t := 22) ?hr ?_; (case hd => rfl); (case hg => rfl); (case hr => first | (go_simp; done) | (go_simp; rfl)); intro gb219 hg w9 hbox hb; have n0_ := Aside0.mk (below_step (hb_ HB.out) hb); have n1_ := Aside0.mk (hbox); have n2_ := Aside0.mk ((by rw [hg]; exact (below_size (hb_ HB.out)) : w.heap.size ≤ gb219)); have n3_ := Aside0.mk ((by rw [hg]; exact (below_size (hb_ HB.out)) : w.heap.size ≤ gb219)); clear HB; have HB := n0_; have BK219 := n1_; have GW219 := n2_; have GE219 := n3_; clear n0_ n1_ n2_ n3_; clear hb hbox hg))
 have n0_ := Aside0.mk (blk_drew BK219.out)
 have n1_ := Aside0.mk (below_drew1 HB.out)
 clear BK219
 clear HB
 have BK219 := n0_
 have HB := n1_
 clear n0_ n1_
 refine start_ (n := 12) (S := fun w' => w'.cell? ⟨gb219, 0, none⟩ = some (.string a1_0) ∧ w'.cell? ⟨gb219, 1, none⟩ = some (.string a1_1) ∧ w'.cell? ⟨gb219, 2, none⟩ = some (.string a1_2) ∧ w'.cell? ⟨gb219, 3, none⟩ = some (.string a1_3)) (ds := []) #[false, false, false, false, false, false, false, false, false, false, false, false] (by kernel_rfl) rfl rfl ⟨(blk_cell BK219.out 0).trans rfl, (blk_cell BK219.out 1).trans rfl, (blk_cell BK219.out 2).trans rfl, (blk_cell BK219.out 3).trans rfl⟩ (fun hHeld => ?_); refine with_tabW comfitlaw06_TagsRound.tab1 comfitlaw06_TagsRound.bits1 (fun HT_ HW_ => ?_)
 generalize w9.drew = w10 at BK219 HB hHeld ⊢
 refine pure_ (i := 0) (N := some 25) (v := ?_) (a' := ?_) #[true, false, false, false, false, false, false, false, false, false, false, false] rfl rfl (any_of HT_.out (by kernel_rfl)) (fun _ _ _ h => h) (Or.inl ⟨by rfl, ?_⟩) ?_ ?_
 rotate_left
 ·intro w'
  go_simp
  with_reducible rfl
 rotate_left
 ·simp only [Act.put, List.setIfInBounds_toArray, List.set_cons_zero, List.set_cons_succ, i64_w, i32_w]
  rfl
 refine pure_ (i := 2) (N := some 27) (v := ?_) (a' := ?_) #[true, false, true, false, false, false, false, false, false, false, false, false] rfl rfl (any_of HT_.out (by kernel_rfl)) (fun _ _ _ h => h) (Or.inl ⟨by rfl, ?_⟩) ?_ ?_
 rotate_left
 ·intro w'
  go_simp
  with_reducible rfl
 rotate_left
 ·simp only [Act.put, List.setIfInBounds_toArray, List.set_cons_zero, List.set_cons_succ, i64_w, i32_w]
  rfl
 refine take_ (i := 1) (N := some 26) (v := ?_) (a' := ?_) #[true, true, true, false, false, false, false, false, false, false, false, false] rfl rfl (take_ofW HT_.out HW_.out (by kernel_rfl)) (fun _ _ _ h => h) (Or.inl ⟨by rfl, ?_⟩) hHeld ?_ ?_
 rotate_left
 ·rintro w' ⟨s0, s1, s2, s3⟩
  go_simp
  with_reducible rfl
 rotate_left
 ·simp only [Act.put, List.setIfInBounds_toArray, List.set_cons_zero, List.set_cons_succ, i64_w, i32_w]
  rfl
 refine one_ (i := 3) (N := some 28) #[true, true, true, true, false, false, false, false, false, false, false, false] rfl rfl (one_of HT_.out (by kernel_rfl)) (by decide) (fun K hK => ?_)
 refine goes_ Tryd.func8 (by kernel_rfl) rfl #[.string a2] (by rfl) rfl rfl al_ ?_
 with_reducible refine (comfitlaw06_text.calls a2 t220 _ A6.out).mono ?_
 rintro e w11 ⟨rfl, hb⟩
 refine ⟨_, rfl, ?_⟩
 have n0_ := Aside0.mk (bkb_ BK219.out hb)
 have n1_ := Aside0.mk (below_step (hb_ HB.out) hb)
 clear BK219
 clear HB
 have BK219 := n0_
 have HB := n1_
 clear n0_ n1_
 (try clear hb)
 (try clear hb2)
 (try clear hk)
 (try clear hi)
 refine hK.out _ _ ⟨(blk_cell BK219.out 0).trans rfl, (blk_cell BK219.out 1).trans rfl, (blk_cell BK219.out 2).trans rfl, (blk_cell BK219.out 3).trans rfl⟩ (fun hHeld => ?_)
 clear hK K
 refine norm_ (a' := ?_) ?_ ?_
 rotate_left
 ·show Act.put _ (some 28) _ = _
  simp only [Act.put, List.setIfInBounds_toArray, List.set_cons_zero, List.set_cons_succ, i64_w, i32_w]
  rfl
 refine one_ (i := 4) (N := some 29) #[true, true, true, true, true, false, false, false, false, false, false, false] rfl rfl (one_of HT_.out (by kernel_rfl)) (by decide) (fun K hK => ?_)
 refine goes_ Tryd.func7 (by kernel_rfl) rfl #[.int .i64 a0, .agg #[.string a1_0, .string a1_1, .string a1_2, .string a1_3], .string t220] (by rfl) rfl rfl al_ ?_
 with_reducible refine (tags_Again.calls a0 a1_0 a1_1 a1_2 a1_3 t220 t221 t222 t223 _ A7.out).mono ?_
 rintro e w12 ⟨rfl, hb⟩
 refine ⟨_, rfl, ?_⟩
 have n0_ := Aside0.mk (bkb_ BK219.out hb)
 have n1_ := Aside0.mk (below_step (hb_ HB.out) hb)
 clear BK219
 clear HB
 have BK219 := n0_
 have HB := n1_
 clear n0_ n1_
 (try clear hb)
 (try clear hb2)
 (try clear hk)
 (try clear hi)
 refine hK.out _ _ ⟨(blk_cell BK219.out 0).trans rfl, (blk_cell BK219.out 1).trans rfl, (blk_cell BK219.out 2).trans rfl, (blk_cell BK219.out 3).trans rfl⟩ (fun hHeld => ?_)
 clear hK K
 refine norm_ (a' := ?_) ?_ ?_
 rotate_left
 ·show Act.put _ (some 29) _ = _
  simp only [Act.put, List.setIfInBounds_toArray, List.set_cons_zero, List.set_cons_succ, i64_w, i32_w]
  rfl
 refine pure_ (i := 5) (N := some 24) (v := ?_) (a' := ?_) #[true, true, true, true, true, true, false, false, false, false, false, false] rfl rfl (any_of HT_.out (by kernel_rfl)) (fun _ _ _ h => h) (Or.inl ⟨by rfl, ?_⟩) ?_ ?_
 rotate_left
 ·intro w'
  go_simp
  with_reducible rfl
 rotate_left
 ·simp only [Act.put, List.setIfInBounds_toArray, List.set_cons_zero, List.set_cons_succ, i64_w, i32_w]
  rfl
 refine pure_ (i := 6) (N := some 30) (v := ?_) (a' := ?_) #[true, true, true, true, true, true, true, false, false, false, false, false] rfl rfl (any_of HT_.out (by kernel_rfl)) (fun _ _ _ h => h) (Or.inl ⟨by rfl, ?_⟩) ?_ ?_
 rotate_left
 ·intro w'
  go_simp
  with_reducible rfl
 rotate_left
 ·simp only [Act.put, List.setIfInBounds_toArray, List.set_cons_zero, List.set_cons_succ, i64_w, i32_w]
  rfl
 refine pure_ (i := 7) (N := some 31) (v := ?_) (a' := ?_) #[true, true, true, true, true, true, true, true, false, false, false, false] rfl rfl (any_of HT_.out (by kernel_rfl)) (fun _ _ _ h => h) (Or.inl ⟨by rfl, ?_⟩) ?_ ?_
 rotate_left
 ·intro w'
  go_simp
  with_reducible rfl
 rotate_left
 ·simp only [Act.put, List.setIfInBounds_toArray, List.set_cons_zero, List.set_cons_succ, i64_w, i32_w]
  rfl
 refine pure_ (i := 8) (N := some 32) (v := ?_) (a' := ?_) #[true, true, true, true, true, true, true, true, true, false, false, false] rfl rfl (any_of HT_.out (by kernel_rfl)) (fun _ _ _ h => h) (Or.inl ⟨by rfl, ?_⟩) ?_ ?_
 rotate_left
 ·intro w'
  go_simp
  with_reducible rfl
 rotate_left
 ·simp only [Act.put, List.setIfInBounds_toArray, List.set_cons_zero, List.set_cons_succ, i64_w, i32_w]
  rfl
 refine pure_ (i := 9) (N := some 11) (v := ?_) (a' := ?_) #[true, true, true, true, true, true, true, true, true, true, false, false] rfl rfl (any_of HT_.out (by kernel_rfl)) (fun _ _ _ h => h) (Or.inl ⟨by rfl, ?_⟩) ?_ ?_
 rotate_left
 ·intro w'
  go_simp
  with_reducible rfl
 rotate_left
 ·simp only [Act.put, List.setIfInBounds_toArray, List.set_cons_zero, List.set_cons_succ, i64_w, i32_w]
  rfl
 refine pure_ (i := 10) (N := some 12) (v := ?_) (a' := ?_) #[true, true, true, true, true, true, true, true, true, true, true, false] rfl rfl (any_of HT_.out (by kernel_rfl)) (fun _ _ _ h => h) (Or.inl ⟨by rfl, ?_⟩) ?_ ?_
 rotate_left
 ·intro w'
  go_simp
  with_reducible rfl
 rotate_left
 ·simp only [Act.put, List.setIfInBounds_toArray, List.set_cons_zero, List.set_cons_succ, i64_w, i32_w]
  rfl
 refine pure_ (i := 11) (N := some 13) (v := ?_) (a' := ?_) #[true, true, true, true, true, true, true, true, true, true, true, true] rfl rfl (any_of HT_.out (by kernel_rfl)) (fun _ _ _ h => h) (Or.inl ⟨by rfl, ?_⟩) ?_ ?_
 rotate_left
 ·intro w'
  go_simp
  with_reducible rfl
 rotate_left
 ·simp only [Act.put, List.setIfInBounds_toArray, List.set_cons_zero, List.set_cons_succ, i64_w, i32_w]
  rfl
 refine done_ (done_of HT_.out (by kernel_rfl)) ?_
 go_upto_region 2 with (fail)
 go_cut [41] (fun v41 wc => ∃ (kq : Nat) (x41_7 : Bool), v41 = .bool x41_7 ∧ Aside0 (comfitlaw06_TagsRound.j0 kq a0 a2 a3 a4 t221 t222 t223 x41_7 a1_0 a1_1 a1_2 a1_3 = some r) ∧ Aside0 (kq ≤ k) ∧ Aside0 (wc.heap[gb219]? = some (.cells #[.string a1_0, .string a1_1, .string a1_2, .string a1_3] 22 (0, 0))) ∧ Aside0 (Below w.heap.size w wc))
 case first =>
  have H := HC8.out
  clear HC8
  by_cases c13 : t223 = 0
  ·rw [if_pos c13] at H
   have c13b0 : (t223 == 0) = true := beq_iff_eq.mpr c13
   have c13b1 : (t223 != 0) = false := bne_eq_false_iff_eq.mpr c13
   clear c13
   (first | rw [c13b0] | (simp only [i64_w, i32_w]; rw [c13b0]) | skip)
   replace H := Option.bind_eq_some_iff.mp H
   obtain ⟨t224, A140, H⟩ := H
   replace H : (comfitlaw06_TagsRound.j0 k a0 a2 a3 a4 t221 t222 t223 (!t224) a1_0 a1_1 a1_2 a1_3) = some r := H
   have A14 := Aside0.mk A140
   clear A140
   have H' := Aside0.mk H
   clear H
   have hcz15_0 : w12.cell? ⟨gb219, 0, none⟩ = some (.string a1_0) := (blk_cell BK219.out 0).trans rfl
   have hcz15_1 : w12.cell? ⟨gb219, 1, none⟩ = some (.string a1_1) := (blk_cell BK219.out 1).trans rfl
   have hcz15_2 : w12.cell? ⟨gb219, 2, none⟩ = some (.string a1_2) := (blk_cell BK219.out 2).trans rfl
   have hcz15_3 : w12.cell? ⟨gb219, 3, none⟩ = some (.string a1_3) := (blk_cell BK219.out 3).trans rfl
   have hfz15_0 := blk_frozen BK219.out 0
   have hfz15_1 := blk_frozen BK219.out 1
   have hfz15_2 := blk_frozen BK219.out 2
   have hfz15_3 := blk_frozen BK219.out 3
   go_wp2_with (first | (go_at_call 9; (with_reducible refine (comfitref06_Cutter.calls a0 a1_0 a1_1 a1_2 a1_3 a2 t224 _ A14.out).mono ?_); rintro e w16 ⟨rfl, hb⟩; have n0_ := Aside0.mk (bkb_ BK219.out hb); have n1_ := Aside0.mk (below_step (hb_ HB.out) hb); clear BK219; clear HB; have BK219 := n0_; have HB := n1_; clear n0_ n1_; (try clear hb); (try clear hb2); (try clear hk); (try clear hi)))
   go_meet
   case rel => exact ⟨_, (!t224), (by first | rfl | (simp; done) | (simp [*]; done)), H', ⟨by first | omega | exact Nat.le_refl _⟩, ⟨by (with_reducible repeat (first | refine blk_drewN ?_ _ | refine blk_drew ?_ | refine blk_alloc ?_ _)); exact BK219.out⟩, ⟨by repeat (first | (with_reducible first | exact HB.out | apply below_alloc | apply pw_below_drewN | apply below_drew1 | refine below_set ?_ GE219.out) | exact HB.out)⟩⟩
  ·rw [if_neg c13] at H
   have c13b0 : (t223 == 0) = false := beq_eq_false_iff_ne.mpr c13
   have c13b1 : (t223 != 0) = true := bne_iff_ne.mpr c13
   (first | rw [c13b0] | (simp only [i64_w, i32_w]; rw [c13b0]) | skip)
   have H' := Aside0.mk H
   clear H
   go_wp2
   go_meet
   case rel => exact ⟨_, (true), (by first | rfl | (simp; done) | (simp [*]; done)), H', ⟨by first | omega | exact Nat.le_refl _⟩, ⟨by (with_reducible repeat (first | refine blk_drewN ?_ _ | refine blk_drew ?_ | refine blk_alloc ?_ _)); exact BK219.out⟩, ⟨by repeat (first | (with_reducible first | exact HB.out | apply below_alloc | apply pw_below_drewN | apply below_drew1 | refine below_set ?_ GE219.out) | exact HB.out)⟩⟩
 case rest =>
  clear HC8
  try clear c1
  try clear p2
  try clear c6
  try clear c7
  try clear c8
  try clear c13
  try clear c13b0
  try clear c13b1
  try clear hcz15_0
  try clear hcz15_1
  try clear hcz15_2
  try clear hcz15_3
  try clear hfz15_0
  try clear hfz15_1
  try clear hfz15_2
  try clear hfz15_3
  obtain ⟨kq, x41_7, rfl, HA, HJ7, BK219, HB⟩ := hcut
  cases kq with
  | zero => exact absurd HA.out (by simp [comfitlaw06_TagsRound.j0])
  | succ kj7 =>
   have H := HA.out
   clear HA
   simp only [comfitlaw06_TagsRound.j0] at H
   by_cases c17 : x41_7 = true
   ·subst c17
    have H1 : (if t223 = 2 then ((comfitlaw06_awake.f kj7).bind fun t225 => (some t225)) else (if t223 = 6 then ((comfitlaw06_awake.f kj7).bind fun t226 => (some t226)) else (if t223 = 4 then ((comfitlaw06_awake.f kj7).bind fun t227 => (some t227)) else (if t223 = 5 then ((comfitlaw06_awake.f kj7).bind fun t228 => (some t228)) else (none))))) = some r := by rw [if_pos rfl] at H; exact H
    clear H
    have H := H1
    clear H1
    by_cases c18 : t223 = 2
    ·rw [if_pos c18] at H
     have c18b0 : (t223 == 2) = true := beq_iff_eq.mpr c18
     have c18b1 : (t223 != 2) = false := bne_eq_false_iff_eq.mpr c18
     clear c18
     replace H := Option.bind_eq_some_iff.mp H
     obtain ⟨t225, A190, H⟩ := H
     replace H : (some t225) = some r := H
     have A19 := Aside0.mk A190
     clear A190
     obtain rfl := Option.some.inj H
     go_wp2_with (first | (go_at_call 10; (with_reducible refine (comfitlaw06_awake.calls kj7  t225 _ A19.out).mono ?_); rintro e w20 ⟨rfl, hb⟩; have n0_ := Aside0.mk (bkb_ BK219.out hb); have n1_ := Aside0.mk (below_step (hb_ HB.out) hb); clear BK219; clear HB; have BK219 := n0_; have HB := n1_; clear n0_ n1_; (try clear hb); (try clear hb2); (try clear hk); (try clear hi)))
     go_ret
     exact ⟨by first | rfl | (simp [errW_none, errW_some] <;> rfl) | (simp [*, errW_none, errW_some] <;> rfl), by repeat (first | (with_reducible first | exact HB.out | apply below_alloc | apply pw_below_drewN | apply below_drew1 | refine below_set ?_ GE219.out) | exact HB.out)⟩
    ·rw [if_neg c18] at H
     have c18b0 : (t223 == 2) = false := beq_eq_false_iff_ne.mpr c18
     have c18b1 : (t223 != 2) = true := bne_iff_ne.mpr c18
     by_cases c21 : t223 = 6
     ·rw [if_pos c21] at H
      have c21b0 : (t223 == 6) = true := beq_iff_eq.mpr c21
      have c21b1 : (t223 != 6) = false := bne_eq_false_iff_eq.mpr c21
      clear c21
      replace H := Option.bind_eq_some_iff.mp H
      obtain ⟨t226, A220, H⟩ := H
      replace H : (some t226) = some r := H
      have A22 := Aside0.mk A220
      clear A220
      obtain rfl := Option.some.inj H
      go_wp2_with (first | (go_at_call 10; (with_reducible refine (comfitlaw06_awake.calls kj7  t226 _ A22.out).mono ?_); rintro e w23 ⟨rfl, hb⟩; have n0_ := Aside0.mk (bkb_ BK219.out hb); have n1_ := Aside0.mk (below_step (hb_ HB.out) hb); clear BK219; clear HB; have BK219 := n0_; have HB := n1_; clear n0_ n1_; (try clear hb); (try clear hb2); (try clear hk); (try clear hi)))
      go_ret
      exact ⟨by first | rfl | (simp [errW_none, errW_some] <;> rfl) | (simp [*, errW_none, errW_some] <;> rfl), by repeat (first | (with_reducible first | exact HB.out | apply below_alloc | apply pw_below_drewN | apply below_drew1 | refine below_set ?_ GE219.out) | exact HB.out)⟩
     ·rw [if_neg c21] at H
      have c21b0 : (t223 == 6) = false := beq_eq_false_iff_ne.mpr c21
      have c21b1 : (t223 != 6) = true := bne_iff_ne.mpr c21
      by_cases c24 : t223 = 4
      ·rw [if_pos c24] at H
       have c24b0 : (t223 == 4) = true := beq_iff_eq.mpr c24
       have c24b1 : (t223 != 4) = false := bne_eq_false_iff_eq.mpr c24
       clear c24
       replace H := Option.bind_eq_some_iff.mp H
       obtain ⟨t227, A250, H⟩ := H
       replace H : (some t227) = some r := H
       have A25 := Aside0.mk A250
       clear A250
       obtain rfl := Option.some.inj H
       go_wp2_with (first | (go_at_call 10; (with_reducible refine (comfitlaw06_awake.calls kj7  t227 _ A25.out).mono ?_); rintro e w26 ⟨rfl, hb⟩; have n0_ := Aside0.mk (bkb_ BK219.out hb); have n1_ := Aside0.mk (below_step (hb_ HB.out) hb); clear BK219; clear HB; have BK219 := n0_; have HB := n1_; clear n0_ n1_; (try clear hb); (try clear hb2); (try clear hk); (try clear hi)))
       go_ret
       exact ⟨by first | rfl | (simp [errW_none, errW_some] <;> rfl) | (simp [*, errW_none, errW_some] <;> rfl), by repeat (first | (with_reducible first | exact HB.out | apply below_alloc | apply pw_below_drewN | apply below_drew1 | refine below_set ?_ GE219.out) | exact HB.out)⟩
      ·rw [if_neg c24] at H
       have c24b0 : (t223 == 4) = false := beq_eq_false_iff_ne.mpr c24
       have c24b1 : (t223 != 4) = true := bne_iff_ne.mpr c24
       by_cases c27 : t223 = 5
       ·rw [if_pos c27] at H
        have c27b0 : (t223 == 5) = true := beq_iff_eq.mpr c27
        have c27b1 : (t223 != 5) = false := bne_eq_false_iff_eq.mpr c27
        clear c27
        replace H := Option.bind_eq_some_iff.mp H
        obtain ⟨t228, A280, H⟩ := H
        replace H : (some t228) = some r := H
        have A28 := Aside0.mk A280
        clear A280
        obtain rfl := Option.some.inj H
        go_wp2_with (first | (go_at_call 10; (with_reducible refine (comfitlaw06_awake.calls kj7  t228 _ A28.out).mono ?_); rintro e w29 ⟨rfl, hb⟩; have n0_ := Aside0.mk (bkb_ BK219.out hb); have n1_ := Aside0.mk (below_step (hb_ HB.out) hb); clear BK219; clear HB; have BK219 := n0_; have HB := n1_; clear n0_ n1_; (try clear hb); (try clear hb2); (try clear hk); (try clear hi)))
        go_ret
        exact ⟨by first | rfl | (simp [errW_none, errW_some] <;> rfl) | (simp [*, errW_none, errW_some] <;> rfl), by repeat (first | (with_reducible first | exact HB.out | apply below_alloc | apply pw_below_drewN | apply below_drew1 | refine below_set ?_ GE219.out) | exact HB.out)⟩
       ·rw [if_neg c27] at H
        exact absurd H (by simp)
   ·replace c17 := Bool.eq_false_iff.mpr c17
    subst c17
    have H1 : (if t221 < 0 then (comfitlaw06_TagsRound.j1 kj7 a0 a2 a3 a4 t221 t222 true a1_0 a1_1 a1_2 a1_3) else (if t222 < 1 then (comfitlaw06_TagsRound.j1 kj7 a0 a2 a3 a4 t221 t222 true a1_0 a1_1 a1_2 a1_3) else (comfitlaw06_TagsRound.j1 kj7 a0 a2 a3 a4 t221 t222 (decide ((wrap64 (t221 + t222)) > 1000)) a1_0 a1_1 a1_2 a1_3))) = some r := by rw [if_neg (show ¬ (false = true) by decide)] at H; exact H
    clear H
    have H := H1
    clear H1
    have HC30 := Aside0.mk H
    clear H
    go_upto_region 4 with (fail)
    go_cut [70] (fun v70 wc => ∃ (kq : Nat) (x70_29 : Bool), v70 = .bool x70_29 ∧ Aside0 (comfitlaw06_TagsRound.j1 kq a0 a2 a3 a4 t221 t222 x70_29 a1_0 a1_1 a1_2 a1_3 = some r) ∧ Aside0 (kq ≤ kj7) ∧ Aside0 (wc.heap[gb219]? = some (.cells #[.string a1_0, .string a1_1, .string a1_2, .string a1_3] 22 (0, 0))) ∧ Aside0 (Below w.heap.size w wc))
    case first =>
     have H := HC30.out
     clear HC30
     by_cases c31 : t221 < 0
     ·rw [if_pos c31] at H
      have c31b0 : decide (t221 < 0) = true := decide_eq_true c31
      clear c31
      (first | rw [c31b0] | (simp only [i64_w, i32_w]; rw [c31b0]) | skip)
      have H' := Aside0.mk H
      clear H
      go_wp2
      go_meet
      case rel => exact ⟨_, (true), (by first | rfl | (simp; done) | (simp [*]; done)), H', ⟨by have := HJ7.out; first | omega | exact Nat.le_refl _⟩, ⟨by (with_reducible repeat (first | refine blk_drewN ?_ _ | refine blk_drew ?_ | refine blk_alloc ?_ _)); exact BK219.out⟩, ⟨by repeat (first | (with_reducible first | exact HB.out | apply below_alloc | apply pw_below_drewN | apply below_drew1 | refine below_set ?_ GE219.out) | exact HB.out)⟩⟩
     ·rw [if_neg c31] at H
      have c31b0 : decide (t221 < 0) = false := decide_eq_false c31
      clear c31
      (first | rw [c31b0] | (simp only [i64_w, i32_w]; rw [c31b0]) | skip)
      by_cases c32 : t222 < 1
      ·rw [if_pos c32] at H
       have c32b0 : decide (t222 < 1) = true := decide_eq_true c32
       clear c32
       have H' := Aside0.mk H
       clear H
       go_wp2
       go_meet
       case rel => exact ⟨_, (true), (by first | rfl | (simp; done) | (simp [*]; done)), H', ⟨by have := HJ7.out; first | omega | exact Nat.le_refl _⟩, ⟨by (with_reducible repeat (first | refine blk_drewN ?_ _ | refine blk_drew ?_ | refine blk_alloc ?_ _)); exact BK219.out⟩, ⟨by repeat (first | (with_reducible first | exact HB.out | apply below_alloc | apply pw_below_drewN | apply below_drew1 | refine below_set ?_ GE219.out) | exact HB.out)⟩⟩
      ·rw [if_neg c32] at H
       have c32b0 : decide (t222 < 1) = false := decide_eq_false c32
       clear c32
       have H' := Aside0.mk H
       clear H
       go_wp2
       go_meet
       case rel => exact ⟨_, (decide ((wrap64 (t221 + t222)) > 1000)), (by first | rfl | (simp; done) | (simp [*]; done)), H', ⟨by have := HJ7.out; first | omega | exact Nat.le_refl _⟩, ⟨by (with_reducible repeat (first | refine blk_drewN ?_ _ | refine blk_drew ?_ | refine blk_alloc ?_ _)); exact BK219.out⟩, ⟨by repeat (first | (with_reducible first | exact HB.out | apply below_alloc | apply pw_below_drewN | apply below_drew1 | refine below_set ?_ GE219.out) | exact HB.out)⟩⟩
    case rest =>
     clear HC30
     try clear c1
     try clear c2
     try clear p2
     try clear c3
     try clear c6
     try clear p6
     try clear c7
     try clear c8
     try clear c13
     try clear c13b0
     try clear c13b1
     try clear c17
     try clear c18
     try clear c18b0
     try clear c18b1
     try clear c21
     try clear c21b0
     try clear c21b1
     try clear c24
     try clear c24b0
     try clear c24b1
     try clear c27
     try clear c27b0
     try clear c27b1
     try clear c31
     try clear c31b0
     try clear c32
     try clear c32b0
     try clear hcz15_0
     try clear hcz15_1
     try clear hcz15_2
     try clear hcz15_3
     try clear hfz15_0
     try clear hfz15_1
     try clear hfz15_2
     try clear hfz15_3
     try clear p2
     obtain ⟨kq, x70_29, rfl, HA, HJ29, BK219, HB⟩ := hcut
     cases kq with
     | zero => exact absurd HA.out (by simp [comfitlaw06_TagsRound.j1])
     | succ kj29 =>
      have H := HA.out
      clear HA
      simp only [comfitlaw06_TagsRound.j1] at H
      by_cases c33 : x70_29 = true
      ·subst c33
       have H1 : (none) = some r := by rw [if_pos rfl] at H; exact H
       clear H
       have H := H1
       clear H1
       exact absurd H (by simp)
      ·replace c33 := Bool.eq_false_iff.mpr c33
       subst c33
       have H1 : ((tags_Run.f a0 a1_0 a1_1 a1_2 a1_3 a2 t221).bind fun bt229 => ((tags_Run.f a0 a1_0 a1_1 a1_2 a1_3 a2 (wrap64 (t221 + t222))).bind fun bt232 => (if bt229.2.2 = 0 then (if bt232.2.2 = 0 then (if bt229.1.toList = bt232.1.toList then (if bt229.2.1 = t221 then (comfitlaw06_TagsRound.j2 kj29 a0 a2 a3 a4 t221 t222 (bt232.2.1 != (wrap64 (t221 + t222))) a1_0 a1_1 a1_2 a1_3) else (comfitlaw06_TagsRound.j2 kj29 a0 a2 a3 a4 t221 t222 true a1_0 a1_1 a1_2 a1_3)) else (comfitlaw06_TagsRound.j2 kj29 a0 a2 a3 a4 t221 t222 true a1_0 a1_1 a1_2 a1_3)) else (comfitlaw06_TagsRound.j2 kj29 a0 a2 a3 a4 t221 t222 true a1_0 a1_1 a1_2 a1_3)) else (comfitlaw06_TagsRound.j2 kj29 a0 a2 a3 a4 t221 t222 true a1_0 a1_1 a1_2 a1_3)))) = some r := by rw [if_neg (show ¬ (false = true) by decide)] at H; exact H
       clear H
       have H := H1
       clear H1
       replace H := Option.bind_eq_some_iff.mp H
       obtain ⟨⟨t229, t230, t231⟩, A340, H⟩ := H
       replace H : ((tags_Run.f a0 a1_0 a1_1 a1_2 a1_3 a2 (wrap64 (t221 + t222))).bind fun bt232 => (if t231 = 0 then (if bt232.2.2 = 0 then (if t229.toList = bt232.1.toList then (if t230 = t221 then (comfitlaw06_TagsRound.j2 kj29 a0 a2 a3 a4 t221 t222 (bt232.2.1 != (wrap64 (t221 + t222))) a1_0 a1_1 a1_2 a1_3) else (comfitlaw06_TagsRound.j2 kj29 a0 a2 a3 a4 t221 t222 true a1_0 a1_1 a1_2 a1_3)) else (comfitlaw06_TagsRound.j2 kj29 a0 a2 a3 a4 t221 t222 true a1_0 a1_1 a1_2 a1_3)) else (comfitlaw06_TagsRound.j2 kj29 a0 a2 a3 a4 t221 t222 true a1_0 a1_1 a1_2 a1_3)) else (comfitlaw06_TagsRound.j2 kj29 a0 a2 a3 a4 t221 t222 true a1_0 a1_1 a1_2 a1_3))) = some r := H
       have A34 := Aside0.mk A340
       clear A340
       replace H := Option.bind_eq_some_iff.mp H
       obtain ⟨⟨t232, t233, t234⟩, A350, H⟩ := H
       replace H : (if t231 = 0 then (if t234 = 0 then (if t229.toList = t232.toList then (if t230 = t221 then (comfitlaw06_TagsRound.j2 kj29 a0 a2 a3 a4 t221 t222 (t233 != (wrap64 (t221 + t222))) a1_0 a1_1 a1_2 a1_3) else (comfitlaw06_TagsRound.j2 kj29 a0 a2 a3 a4 t221 t222 true a1_0 a1_1 a1_2 a1_3)) else (comfitlaw06_TagsRound.j2 kj29 a0 a2 a3 a4 t221 t222 true a1_0 a1_1 a1_2 a1_3)) else (comfitlaw06_TagsRound.j2 kj29 a0 a2 a3 a4 t221 t222 true a1_0 a1_1 a1_2 a1_3)) else (comfitlaw06_TagsRound.j2 kj29 a0 a2 a3 a4 t221 t222 true a1_0 a1_1 a1_2 a1_3)) = some r := H
       have A35 := Aside0.mk A350
       clear A350
       have HC36 := Aside0.mk H
       clear H
       have hcz37_0 : wc.cell? ⟨gb219, 0, none⟩ = some (.string a1_0) := (blk_cell BK219.out 0).trans rfl
       have hcz37_1 : wc.cell? ⟨gb219, 1, none⟩ = some (.string a1_1) := (blk_cell BK219.out 1).trans rfl
       have hcz37_2 : wc.cell? ⟨gb219, 2, none⟩ = some (.string a1_2) := (blk_cell BK219.out 2).trans rfl
       have hcz37_3 : wc.cell? ⟨gb219, 3, none⟩ = some (.string a1_3) := (blk_cell BK219.out 3).trans rfl
       have hfz37_0 := blk_frozen BK219.out 0
       have hfz37_1 := blk_frozen BK219.out 1
       have hfz37_2 := blk_frozen BK219.out 2
       have hfz37_3 := blk_frozen BK219.out 3
       go_upto_region 8 with (first | ((with_reducible refine gate_callee (f := 13) rfl ?_); refine goesL_ (some 76) rfl rfl Tryd.func13 (by kernel_rfl) rfl #[.int .i64 a0, .agg #[.string a1_0, .string a1_1, .string a1_2, .string a1_3], .string a2, .int .i64 t221] rfl al_ ?_; (with_reducible refine (tags_Run.calls a0 a1_0 a1_1 a1_2 a1_3 a2 t221 t229 t230 t231 _ A34.out).mono ?_); rintro e w38 ⟨rfl, hb⟩; refine ⟨_, rfl, ?_⟩; have n0_ := Aside0.mk (bkb_ BK219.out hb); have n1_ := Aside0.mk (below_step (hb_ HB.out) hb); clear BK219; clear HB; have BK219 := n0_; have HB := n1_; clear n0_ n1_; (try clear hb); (try clear hb2); (try clear hk); (try clear hi); have hcz39_0 : w38.cell? ⟨gb219, 0, none⟩ = some (.string a1_0) := (blk_cell BK219.out 0).trans rfl; have hcz39_1 : w38.cell? ⟨gb219, 1, none⟩ = some (.string a1_1) := (blk_cell BK219.out 1).trans rfl; have hcz39_2 : w38.cell? ⟨gb219, 2, none⟩ = some (.string a1_2) := (blk_cell BK219.out 2).trans rfl; have hcz39_3 : w38.cell? ⟨gb219, 3, none⟩ = some (.string a1_3) := (blk_cell BK219.out 3).trans rfl; have hfz39_0 := blk_frozen BK219.out 0; have hfz39_1 := blk_frozen BK219.out 1; have hfz39_2 := blk_frozen BK219.out 2; have hfz39_3 := blk_frozen BK219.out 3) | ((with_reducible refine gate_callee (f := 13) rfl ?_); refine goesL_ (some 87) rfl rfl Tryd.func13 (by kernel_rfl) rfl #[.int .i64 a0, .agg #[.string a1_0, .string a1_1, .string a1_2, .string a1_3], .string a2, .int .i64 (wrap64 (t221 + t222))] rfl al_ ?_; (with_reducible refine (tags_Run.calls a0 a1_0 a1_1 a1_2 a1_3 a2 (wrap64 (t221 + t222)) t232 t233 t234 _ A35.out).mono ?_); rintro e w40 ⟨rfl, hb⟩; refine ⟨_, rfl, ?_⟩; have n0_ := Aside0.mk (bkb_ BK219.out hb); have n1_ := Aside0.mk (below_step (hb_ HB.out) hb); clear BK219; clear HB; have BK219 := n0_; have HB := n1_; clear n0_ n1_; (try clear hb); (try clear hb2); (try clear hk); (try clear hi)))
       (try simp only [Act.put, List.setIfInBounds_toArray, List.set_cons_zero, List.set_cons_succ])
       go_cut [113] (fun v113 wc => ∃ (kq : Nat) (x113_35 : Bool), v113 = .bool x113_35 ∧ Aside0 (comfitlaw06_TagsRound.j2 kq a0 a2 a3 a4 t221 t222 x113_35 a1_0 a1_1 a1_2 a1_3 = some r) ∧ Aside0 (kq ≤ kj29) ∧ Aside0 (wc.heap[gb219]? = some (.cells #[.string a1_0, .string a1_1, .string a1_2, .string a1_3] 22 (0, 0))) ∧ Aside0 (Below w.heap.size w wc))
       case first =>
        have H := HC36.out
        clear HC36
        by_cases c41 : t231 = 0
        ·rw [if_pos c41] at H
         have c41b0 : (t231 == 0) = true := beq_iff_eq.mpr c41
         have c41b1 : (t231 != 0) = false := bne_eq_false_iff_eq.mpr c41
         clear c41
         (first | rw [c41b0] | (simp only [i64_w, i32_w]; rw [c41b0]) | skip)
         by_cases c42 : t234 = 0
         ·rw [if_pos c42] at H
          have c42b0 : (t234 == 0) = true := beq_iff_eq.mpr c42
          have c42b1 : (t234 != 0) = false := bne_eq_false_iff_eq.mpr c42
          clear c42
          by_cases c43 : t229.toList = t232.toList
          ·rw [if_pos c43] at H
           have c43b0 : (t229.toList == t232.toList) = true := beq_iff_eq.mpr c43
           have c43b1 : (t229.toList != t232.toList) = false := bne_eq_false_iff_eq.mpr c43
           clear c43
           by_cases c44 : t230 = t221
           ·rw [if_pos c44] at H
            have c44b0 : (t230 == t221) = true := beq_iff_eq.mpr c44
            have c44b1 : (t230 != t221) = false := bne_eq_false_iff_eq.mpr c44
            clear c44
            have H' := Aside0.mk H
            clear H
            go_wp2
            go_meet
            case rel => exact ⟨_, ((t233 != (wrap64 (t221 + t222)))), (by first | rfl | (simp; done) | (simp [*]; done)), H', ⟨by have := HJ7.out; have := HJ29.out; first | omega | exact Nat.le_refl _⟩, ⟨by (with_reducible repeat (first | refine blk_drewN ?_ _ | refine blk_drew ?_ | refine blk_alloc ?_ _)); exact BK219.out⟩, ⟨by repeat (first | (with_reducible first | exact HB.out | apply below_alloc | apply pw_below_drewN | apply below_drew1 | refine below_set ?_ GE219.out) | exact HB.out)⟩⟩
           ·rw [if_neg c44] at H
            have c44b0 : (t230 == t221) = false := beq_eq_false_iff_ne.mpr c44
            have c44b1 : (t230 != t221) = true := bne_iff_ne.mpr c44
            have H' := Aside0.mk H
            clear H
            go_wp2
            go_meet
            case rel => exact ⟨_, (true), (by first | rfl | (simp; done) | (simp [*]; done)), H', ⟨by have := HJ7.out; have := HJ29.out; first | omega | exact Nat.le_refl _⟩, ⟨by (with_reducible repeat (first | refine blk_drewN ?_ _ | refine blk_drew ?_ | refine blk_alloc ?_ _)); exact BK219.out⟩, ⟨by repeat (first | (with_reducible first | exact HB.out | apply below_alloc | apply pw_below_drewN | apply below_drew1 | refine below_set ?_ GE219.out) | exact HB.out)⟩⟩
          ·rw [if_neg c43] at H
           have c43b0 : (t229.toList == t232.toList) = false := beq_eq_false_iff_ne.mpr c43
           have c43b1 : (t229.toList != t232.toList) = true := bne_iff_ne.mpr c43
           have H' := Aside0.mk H
           clear H
           go_wp2
           go_meet
           case rel => exact ⟨_, (true), (by first | rfl | (simp; done) | (simp [*]; done)), H', ⟨by have := HJ7.out; have := HJ29.out; first | omega | exact Nat.le_refl _⟩, ⟨by (with_reducible repeat (first | refine blk_drewN ?_ _ | refine blk_drew ?_ | refine blk_alloc ?_ _)); exact BK219.out⟩, ⟨by repeat (first | (with_reducible first | exact HB.out | apply below_alloc | apply pw_below_drewN | apply below_drew1 | refine below_set ?_ GE219.out) | exact HB.out)⟩⟩
         ·rw [if_neg c42] at H
          have c42b0 : (t234 == 0) = false := beq_eq_false_iff_ne.mpr c42
          have c42b1 : (t234 != 0) = true := bne_iff_ne.mpr c42
          have H' := Aside0.mk H
          clear H
          go_wp2
          go_meet
          case rel => exact ⟨_, (true), (by first | rfl | (simp; done) | (simp [*]; done)), H', ⟨by have := HJ7.out; have := HJ29.out; first | omega | exact Nat.le_refl _⟩, ⟨by (with_reducible repeat (first | refine blk_drewN ?_ _ | refine blk_drew ?_ | refine blk_alloc ?_ _)); exact BK219.out⟩, ⟨by repeat (first | (with_reducible first | exact HB.out | apply below_alloc | apply pw_below_drewN | apply below_drew1 | refine below_set ?_ GE219.out) | exact HB.out)⟩⟩
        ·rw [if_neg c41] at H
         have c41b0 : (t231 == 0) = false := beq_eq_false_iff_ne.mpr c41
         have c41b1 : (t231 != 0) = true := bne_iff_ne.mpr c41
         (first | rw [c41b0] | (simp only [i64_w, i32_w]; rw [c41b0]) | skip)
         have H' := Aside0.mk H
         clear H
         go_wp2
         go_meet
         case rel => exact ⟨_, (true), (by first | rfl | (simp; done) | (simp [*]; done)), H', ⟨by have := HJ7.out; have := HJ29.out; first | omega | exact Nat.le_refl _⟩, ⟨by (with_reducible repeat (first | refine blk_drewN ?_ _ | refine blk_drew ?_ | refine blk_alloc ?_ _)); exact BK219.out⟩, ⟨by repeat (first | (with_reducible first | exact HB.out | apply below_alloc | apply pw_below_drewN | apply below_drew1 | refine below_set ?_ GE219.out) | exact HB.out)⟩⟩
       case rest =>
        clear HC36
        try clear c1
        try clear c2
        try clear p2
        try clear c3
        try clear c4
        try clear c6
        try clear p6
        try clear c7
        try clear c8
        try clear c13
        try clear c13b0
        try clear c13b1
        try clear c17
        try clear c18
        try clear c18b0
        try clear c18b1
        try clear c21
        try clear c21b0
        try clear c21b1
        try clear c24
        try clear c24b0
        try clear c24b1
        try clear c27
        try clear c27b0
        try clear c27b1
        try clear c31
        try clear c31b0
        try clear c32
        try clear c32b0
        try clear c33
        try clear c41
        try clear c41b0
        try clear c41b1
        try clear c42
        try clear c42b0
        try clear c42b1
        try clear c43
        try clear c43b0
        try clear c43b1
        try clear c44
        try clear c44b0
        try clear c44b1
        try clear hcz15_0
        try clear hcz15_1
        try clear hcz15_2
        try clear hcz15_3
        try clear hcz37_0
        try clear hcz37_1
        try clear hcz37_2
        try clear hcz37_3
        try clear hcz39_0
        try clear hcz39_1
        try clear hcz39_2
        try clear hcz39_3
        try clear hfz15_0
        try clear hfz15_1
        try clear hfz15_2
        try clear hfz15_3
        try clear hfz37_0
        try clear hfz37_1
        try clear hfz37_2
        try clear hfz37_3
        try clear hfz39_0
        try clear hfz39_1
        try clear hfz39_2
        try clear hfz39_3
        try clear p2
        try clear p6
        obtain ⟨kq, x113_35, rfl, HA, HJ35, BK219, HB⟩ := hcut
        cases kq with
        | zero => exact absurd HA.out (by simp [comfitlaw06_TagsRound.j2])
        | succ kj35 =>
         have H := HA.out
         clear HA
         simp only [comfitlaw06_TagsRound.j2] at H
         by_cases c45 : x113_35 = true
         ·subst c45
          have H1 : (none) = some r := by rw [if_pos rfl] at H; exact H
          clear H
          have H := H1
          clear H1
          exact absurd H (by simp)
         ·replace c45 := Bool.eq_false_iff.mpr c45
          subst c45
          have H1 : (if (IntKind.u64.wrap (wrap64 (t221 + t222))) = 0 then (none) else ((tags_Run.f a0 a1_0 a1_1 a1_2 a1_3 a2 (wrap64 (Int.tmod (IntKind.u64.wrap (a3)) (IntKind.u64.wrap (wrap64 (t221 + t222)))))).bind fun bt235 => ((tags_Run.f a0 a1_0 a1_1 a1_2 a1_3 a2 (wrap64 (Int.tmod (IntKind.u64.wrap (a4)) (IntKind.u64.wrap (wrap64 (t221 + t222)))))).bind fun bt238 => (if bt235.2.2 = 0 then (if bt238.2.2 = 0 then (if ((bt235.1.toList == bt238.1.toList) == ((wrap64 (Int.tmod (IntKind.u64.wrap (a3)) (IntKind.u64.wrap (wrap64 (t221 + t222))))) == (wrap64 (Int.tmod (IntKind.u64.wrap (a4)) (IntKind.u64.wrap (wrap64 (t221 + t222))))))) = true then ((comfitlaw06_awake.f kj35).bind fun t241 => (some t241)) else (none)) else (none)) else (none))))) = some r := by rw [if_neg (show ¬ (false = true) by decide)] at H; exact H
          clear H
          have H := H1
          clear H1
          by_cases c46 : (IntKind.u64.wrap (wrap64 (t221 + t222))) = 0
          ·rw [if_pos c46] at H
           exact absurd H (by simp)
          ·rw [if_neg c46] at H
           have c46b0 : ((IntKind.u64.wrap (wrap64 (t221 + t222))) == 0) = false := beq_eq_false_iff_ne.mpr c46
           have c46b1 : ((IntKind.u64.wrap (wrap64 (t221 + t222))) != 0) = true := bne_iff_ne.mpr c46
           replace H := Option.bind_eq_some_iff.mp H
           obtain ⟨⟨t235, t236, t237⟩, A470, H⟩ := H
           replace H : ((tags_Run.f a0 a1_0 a1_1 a1_2 a1_3 a2 (wrap64 (Int.tmod (IntKind.u64.wrap (a4)) (IntKind.u64.wrap (wrap64 (t221 + t222)))))).bind fun bt238 => (if t237 = 0 then (if bt238.2.2 = 0 then (if ((t235.toList == bt238.1.toList) == ((wrap64 (Int.tmod (IntKind.u64.wrap (a3)) (IntKind.u64.wrap (wrap64 (t221 + t222))))) == (wrap64 (Int.tmod (IntKind.u64.wrap (a4)) (IntKind.u64.wrap (wrap64 (t221 + t222))))))) = true then ((comfitlaw06_awake.f kj35).bind fun t241 => (some t241)) else (none)) else (none)) else (none))) = some r := H
           have A47 := Aside0.mk A470
           clear A470
           replace H := Option.bind_eq_some_iff.mp H
           obtain ⟨⟨t238, t239, t240⟩, A480, H⟩ := H
           replace H : (if t237 = 0 then (if t240 = 0 then (if ((t235.toList == t238.toList) == ((wrap64 (Int.tmod (IntKind.u64.wrap (a3)) (IntKind.u64.wrap (wrap64 (t221 + t222))))) == (wrap64 (Int.tmod (IntKind.u64.wrap (a4)) (IntKind.u64.wrap (wrap64 (t221 + t222))))))) = true then ((comfitlaw06_awake.f kj35).bind fun t241 => (some t241)) else (none)) else (none)) else (none)) = some r := H
           have A48 := Aside0.mk A480
           clear A480
           by_cases c49 : t237 = 0
           ·rw [if_pos c49] at H
            have c49b0 : (t237 == 0) = true := beq_iff_eq.mpr c49
            have c49b1 : (t237 != 0) = false := bne_eq_false_iff_eq.mpr c49
            clear c49
            by_cases c50 : t240 = 0
            ·rw [if_pos c50] at H
             have c50b0 : (t240 == 0) = true := beq_iff_eq.mpr c50
             have c50b1 : (t240 != 0) = false := bne_eq_false_iff_eq.mpr c50
             clear c50
             by_cases c51 : ((t235.toList == t238.toList) == ((wrap64 (Int.tmod (IntKind.u64.wrap (a3)) (IntKind.u64.wrap (wrap64 (t221 + t222))))) == (wrap64 (Int.tmod (IntKind.u64.wrap (a4)) (IntKind.u64.wrap (wrap64 (t221 + t222))))))) = true
             ·rw [if_pos c51] at H
              have c51b0 : ((t235.toList == t238.toList) == ((wrap64 (Int.tmod (IntKind.u64.wrap (a3)) (IntKind.u64.wrap (wrap64 (t221 + t222))))) == (wrap64 (Int.tmod (IntKind.u64.wrap (a4)) (IntKind.u64.wrap (wrap64 (t221 + t222))))))) = true := c51
              (try (have c51b1 : decide ((t235.toList == t238.toList) = ((wrap64 (Int.tmod (IntKind.u64.wrap (a3)) (IntKind.u64.wrap (wrap64 (t221 + t222))))) == (wrap64 (Int.tmod (IntKind.u64.wrap (a4)) (IntKind.u64.wrap (wrap64 (t221 + t222))))))) = true := by simpa using c51))
              (try (have c51b2 : ((t235.toList == t238.toList) == ((wrap64 (Int.tmod (IntKind.u64.wrap (a3)) (IntKind.u64.wrap (wrap64 (t221 + t222))))) == (wrap64 (Int.tmod (IntKind.u64.wrap (a4)) (IntKind.u64.wrap (wrap64 (t221 + t222))))))) = true := by simpa using c51))
              clear c51
              replace H := Option.bind_eq_some_iff.mp H
              obtain ⟨t241, A520, H⟩ := H
              replace H : (some t241) = some r := H
              have A52 := Aside0.mk A520
              clear A520
              obtain rfl := Option.some.inj H
              try go_wp2
              have n0_ := Aside0.mk (blk_drew BK219.out)
              have n1_ := Aside0.mk (below_drew1 HB.out)
              clear BK219
              clear HB
              have BK219 := n0_
              have HB := n1_
              clear n0_ n1_
              refine start_ (n := 18) (S := fun w' => True) (ds := []) #[false, false, false, false, false, false, false, false, false, false, false, false, false, false, false, false, false, false] (by kernel_rfl) rfl rfl trivial (fun hHeld => ?_); refine with_tabW comfitlaw06_TagsRound.tab10 comfitlaw06_TagsRound.bits10 (fun HT_ HW_ => ?_)
              generalize wc.drew = w53 at BK219 HB hHeld ⊢
              refine pure_ (i := 0) (N := some 114) (v := ?_) (a' := ?_) #[true, false, false, false, false, false, false, false, false, false, false, false, false, false, false, false, false, false] rfl rfl (any_of HT_.out (by kernel_rfl)) (fun _ _ _ h => h) (Or.inl ⟨by rfl, ?_⟩) ?_ ?_
              rotate_left
              ·intro w'
               go_simp
               with_reducible rfl
              rotate_left
              ·simp only [Act.put, List.setIfInBounds_toArray, List.set_cons_zero, List.set_cons_succ, i64_w, i32_w]
               rfl
              refine pure_ (i := 1) (N := some 115) (v := ?_) (a' := ?_) #[true, true, false, false, false, false, false, false, false, false, false, false, false, false, false, false, false, false] rfl rfl (any_of HT_.out (by kernel_rfl)) (fun _ _ _ h => h) (Or.inl ⟨by rfl, ?_⟩) ?_ ?_
              rotate_left
              ·intro w'
               go_simp
               with_reducible rfl
              rotate_left
              ·simp only [Act.put, List.setIfInBounds_toArray, List.set_cons_zero, List.set_cons_succ, i64_w, i32_w]
               rfl
              refine pure_ (i := 2) (N := some 116) (v := ?_) (a' := ?_) #[true, true, true, false, false, false, false, false, false, false, false, false, false, false, false, false, false, false] rfl rfl (any_of HT_.out (by kernel_rfl)) (fun _ _ _ h => h) (Or.inl ⟨by rfl, ?_⟩) ?_ ?_
              rotate_left
              ·intro w'
               go_simp
               with_reducible rfl
              rotate_left
              ·simp only [Act.put, List.setIfInBounds_toArray, List.set_cons_zero, List.set_cons_succ, i64_w, i32_w]
               rfl
              refine pure_ (i := 3) (N := some 117) (v := ?_) (a' := ?_) #[true, true, true, true, false, false, false, false, false, false, false, false, false, false, false, false, false, false] rfl rfl (any_of HT_.out (by kernel_rfl)) (fun _ _ _ h => h) (Or.inl ⟨by rfl, ?_⟩) ?_ ?_
              rotate_left
              ·intro w'
               go_simp
               with_reducible rfl
              rotate_left
              ·simp only [Act.put, List.setIfInBounds_toArray, List.set_cons_zero, List.set_cons_succ, i64_w, i32_w]
               rfl
              refine pure_ (i := 4) (N := some 118) (v := ?_) (a' := ?_) #[true, true, true, true, true, false, false, false, false, false, false, false, false, false, false, false, false, false] rfl rfl (any_of HT_.out (by kernel_rfl)) (fun _ _ _ h => h) (Or.inl ⟨by rfl, ?_⟩) ?_ ?_
              rotate_left
              ·intro w'
               go_simp
               with_reducible rfl
              rotate_left
              ·simp only [Act.put, List.setIfInBounds_toArray, List.set_cons_zero, List.set_cons_succ, i64_w, i32_w]
               rfl
              refine pure_ (i := 5) (N := some 119) (v := ?_) (a' := ?_) #[true, true, true, true, true, true, false, false, false, false, false, false, false, false, false, false, false, false] rfl rfl (any_of HT_.out (by kernel_rfl)) (fun _ _ _ h => h) (Or.inl ⟨by rfl, ?_⟩) ?_ ?_
              rotate_left
              ·intro w'
               go_simp
               with_reducible rfl
              rotate_left
              ·simp only [Act.put, List.setIfInBounds_toArray, List.set_cons_zero, List.set_cons_succ, i64_w, i32_w]
               rfl
              refine pure_ (i := 6) (N := some 120) (v := ?_) (a' := ?_) #[true, true, true, true, true, true, true, false, false, false, false, false, false, false, false, false, false, false] rfl rfl (any_of HT_.out (by kernel_rfl)) (fun _ _ _ h => h) (Or.inl ⟨by rfl, ?_⟩) ?_ ?_
              rotate_left
              ·intro w'
               go_simp
               with_reducible rfl
              rotate_left
              ·simp only [Act.put, List.setIfInBounds_toArray, List.set_cons_zero, List.set_cons_succ, i64_w, i32_w]
               rfl
              refine pure_ (i := 7) (N := some 121) (v := ?_) (a' := ?_) #[true, true, true, true, true, true, true, true, false, false, false, false, false, false, false, false, false, false] rfl rfl (any_of HT_.out (by kernel_rfl)) (fun _ _ _ h => h) (Or.inl ⟨by rfl, ?_⟩) ?_ ?_
              rotate_left
              ·intro w'
               go_simp
               with_reducible rfl
              rotate_left
              ·simp only [Act.put, List.setIfInBounds_toArray, List.set_cons_zero, List.set_cons_succ, i64_w, i32_w]
               rfl
              refine pure_ (i := 8) (N := some 122) (v := ?_) (a' := ?_) #[true, true, true, true, true, true, true, true, true, false, false, false, false, false, false, false, false, false] rfl rfl (any_of HT_.out (by kernel_rfl)) (fun _ _ _ h => h) (Or.inl ⟨by rfl, ?_⟩) ?_ ?_
              rotate_left
              ·intro w'
               go_simp
               with_reducible rfl
              rotate_left
              ·simp only [Act.put, List.setIfInBounds_toArray, List.set_cons_zero, List.set_cons_succ, i64_w, i32_w]
               rfl
              refine pure_ (i := 9) (N := some 123) (v := ?_) (a' := ?_) #[true, true, true, true, true, true, true, true, true, true, false, false, false, false, false, false, false, false] rfl rfl (any_of HT_.out (by kernel_rfl)) (fun _ _ _ h => h) (Or.inl ⟨by rfl, ?_⟩) ?_ ?_
              rotate_left
              ·intro w'
               go_simp
               with_reducible rfl
              rotate_left
              ·simp only [Act.put, List.setIfInBounds_toArray, List.set_cons_zero, List.set_cons_succ, i64_w, i32_w]
               rfl
              refine pure_ (i := 10) (N := some 124) (v := ?_) (a' := ?_) #[true, true, true, true, true, true, true, true, true, true, true, false, false, false, false, false, false, false] rfl rfl (any_of HT_.out (by kernel_rfl)) (fun _ _ _ h => h) (Or.inl ⟨by rfl, ?_⟩) ?_ ?_
              rotate_left
              ·intro w'
               go_simp
               with_reducible rfl
              rotate_left
              ·simp only [Act.put, List.setIfInBounds_toArray, List.set_cons_zero, List.set_cons_succ, i64_w, i32_w]
               rfl
              refine pure_ (i := 11) (N := some 125) (v := ?_) (a' := ?_) #[true, true, true, true, true, true, true, true, true, true, true, true, false, false, false, false, false, false] rfl rfl (any_of HT_.out (by kernel_rfl)) (fun _ _ _ h => h) (Or.inl ⟨by rfl, ?_⟩) ?_ ?_
              rotate_left
              ·intro w'
               go_simp
               with_reducible rfl
              rotate_left
              ·simp only [Act.put, List.setIfInBounds_toArray, List.set_cons_zero, List.set_cons_succ, i64_w, i32_w]
               rfl
              refine pure_ (i := 12) (N := some 126) (v := ?_) (a' := ?_) #[true, true, true, true, true, true, true, true, true, true, true, true, true, false, false, false, false, false] rfl rfl (any_of HT_.out (by kernel_rfl)) (fun _ _ _ h => h) (Or.inl ⟨by rfl, ?_⟩) ?_ ?_
              rotate_left
              ·intro w'
               go_simp
               with_reducible rfl
              rotate_left
              ·simp only [Act.put, List.setIfInBounds_toArray, List.set_cons_zero, List.set_cons_succ, i64_w, i32_w]
               rfl
              refine pure_ (i := 13) (N := some 127) (v := ?_) (a' := ?_) #[true, true, true, true, true, true, true, true, true, true, true, true, true, true, false, false, false, false] rfl rfl (any_of HT_.out (by kernel_rfl)) (fun _ _ _ h => h) (Or.inl ⟨by rfl, ?_⟩) ?_ ?_
              rotate_left
              ·intro w'
               go_simp
               with_reducible rfl
              rotate_left
              ·simp only [Act.put, List.setIfInBounds_toArray, List.set_cons_zero, List.set_cons_succ, i64_w, i32_w]
               rfl
              refine pure_ (i := 14) (N := some 128) (v := ?_) (a' := ?_) #[true, true, true, true, true, true, true, true, true, true, true, true, true, true, true, false, false, false] rfl rfl (any_of HT_.out (by kernel_rfl)) (fun _ _ _ h => h) (Or.inl ⟨by rfl, ?_⟩) ?_ ?_
              rotate_left
              ·intro w'
               go_simp
               with_reducible rfl
              rotate_left
              ·simp only [Act.put, List.setIfInBounds_toArray, List.set_cons_zero, List.set_cons_succ, i64_w, i32_w]
               rfl
              refine pure_ (i := 15) (N := some 129) (v := ?_) (a' := ?_) #[true, true, true, true, true, true, true, true, true, true, true, true, true, true, true, true, false, false] rfl rfl (any_of HT_.out (by kernel_rfl)) (fun _ _ _ h => h) (Or.inl ⟨by rfl, ?_⟩) ?_ ?_
              rotate_left
              ·intro w'
               go_simp
               with_reducible rfl
              rotate_left
              ·simp only [Act.put, List.setIfInBounds_toArray, List.set_cons_zero, List.set_cons_succ, i64_w, i32_w]
               rfl
              refine pure_ (i := 16) (N := some 3) (v := ?_) (a' := ?_) #[true, true, true, true, true, true, true, true, true, true, true, true, true, true, true, true, true, false] rfl rfl (any_of HT_.out (by kernel_rfl)) (fun _ _ _ h => h) (Or.inl ⟨by rfl, ?_⟩) ?_ ?_
              rotate_left
              ·intro w'
               go_simp
               with_reducible rfl
              rotate_left
              ·simp only [Act.put, List.setIfInBounds_toArray, List.set_cons_zero, List.set_cons_succ, i64_w, i32_w]
               rfl
              refine pure_ (i := 17) (N := some 4) (v := ?_) (a' := ?_) #[true, true, true, true, true, true, true, true, true, true, true, true, true, true, true, true, true, true] rfl rfl (any_of HT_.out (by kernel_rfl)) (fun _ _ _ h => h) (Or.inl ⟨by rfl, ?_⟩) ?_ ?_
              rotate_left
              ·intro w'
               go_simp
               with_reducible rfl
              rotate_left
              ·simp only [Act.put, List.setIfInBounds_toArray, List.set_cons_zero, List.set_cons_succ, i64_w, i32_w]
               rfl
              refine done_ (done_of HT_.out (by kernel_rfl)) ?_
              have hcz54_0 : w53.cell? ⟨gb219, 0, none⟩ = some (.string a1_0) := (blk_cell BK219.out 0).trans rfl
              have hcz54_1 : w53.cell? ⟨gb219, 1, none⟩ = some (.string a1_1) := (blk_cell BK219.out 1).trans rfl
              have hcz54_2 : w53.cell? ⟨gb219, 2, none⟩ = some (.string a1_2) := (blk_cell BK219.out 2).trans rfl
              have hcz54_3 : w53.cell? ⟨gb219, 3, none⟩ = some (.string a1_3) := (blk_cell BK219.out 3).trans rfl
              have hfz54_0 := blk_frozen BK219.out 0
              have hfz54_1 := blk_frozen BK219.out 1
              have hfz54_2 := blk_frozen BK219.out 2
              have hfz54_3 := blk_frozen BK219.out 3
              try go_wp2_with (first | ((with_reducible refine gate_callee (f := 13) rfl ?_); refine goesL_ (some 135) rfl rfl Tryd.func13 (by kernel_rfl) rfl #[.int .i64 a0, .agg #[.string a1_0, .string a1_1, .string a1_2, .string a1_3], .string a2, .int .i64 (wrap64 (Int.tmod (IntKind.u64.wrap (a3)) (IntKind.u64.wrap (wrap64 (t221 + t222)))))] rfl al_ ?_; (with_reducible refine (tags_Run.calls a0 a1_0 a1_1 a1_2 a1_3 a2 (wrap64 (Int.tmod (IntKind.u64.wrap (a3)) (IntKind.u64.wrap (wrap64 (t221 + t222))))) t235 t236 t237 _ A47.out).mono ?_); rintro e w55 ⟨rfl, hb⟩; refine ⟨_, rfl, ?_⟩; have n0_ := Aside0.mk (bkb_ BK219.out hb); have n1_ := Aside0.mk (below_step (hb_ HB.out) hb); clear BK219; clear HB; have BK219 := n0_; have HB := n1_; clear n0_ n1_; (try clear hb); (try clear hb2); (try clear hk); (try clear hi); have hcz56_0 : w55.cell? ⟨gb219, 0, none⟩ = some (.string a1_0) := (blk_cell BK219.out 0).trans rfl; have hcz56_1 : w55.cell? ⟨gb219, 1, none⟩ = some (.string a1_1) := (blk_cell BK219.out 1).trans rfl; have hcz56_2 : w55.cell? ⟨gb219, 2, none⟩ = some (.string a1_2) := (blk_cell BK219.out 2).trans rfl; have hcz56_3 : w55.cell? ⟨gb219, 3, none⟩ = some (.string a1_3) := (blk_cell BK219.out 3).trans rfl; have hfz56_0 := blk_frozen BK219.out 0; have hfz56_1 := blk_frozen BK219.out 1; have hfz56_2 := blk_frozen BK219.out 2; have hfz56_3 := blk_frozen BK219.out 3) | ((with_reducible refine gate_callee (f := 13) rfl ?_); refine goesL_ (some 144) rfl rfl Tryd.func13 (by kernel_rfl) rfl #[.int .i64 a0, .agg #[.string a1_0, .string a1_1, .string a1_2, .string a1_3], .string a2, .int .i64 (wrap64 (Int.tmod (IntKind.u64.wrap (a4)) (IntKind.u64.wrap (wrap64 (t221 + t222)))))] rfl al_ ?_; (with_reducible refine (tags_Run.calls a0 a1_0 a1_1 a1_2 a1_3 a2 (wrap64 (Int.tmod (IntKind.u64.wrap (a4)) (IntKind.u64.wrap (wrap64 (t221 + t222))))) t238 t239 t240 _ A48.out).mono ?_); rintro e w57 ⟨rfl, hb⟩; refine ⟨_, rfl, ?_⟩; have n0_ := Aside0.mk (bkb_ BK219.out hb); have n1_ := Aside0.mk (below_step (hb_ HB.out) hb); clear BK219; clear HB; have BK219 := n0_; have HB := n1_; clear n0_ n1_; (try clear hb); (try clear hb2); (try clear hk); (try clear hi)) | (go_at_call 10; (with_reducible refine (comfitlaw06_awake.calls kj35  t241 _ A52.out).mono ?_); rintro e w58 ⟨rfl, hb⟩; have n0_ := Aside0.mk (bkb_ BK219.out hb); have n1_ := Aside0.mk (below_step (hb_ HB.out) hb); clear BK219; clear HB; have BK219 := n0_; have HB := n1_; clear n0_ n1_; (try clear hb); (try clear hb2); (try clear hk); (try clear hi)))
              go_ret
              exact ⟨by first | rfl | (simp [errW_none, errW_some] <;> rfl) | (simp [*, errW_none, errW_some] <;> rfl), by repeat (first | (with_reducible first | exact HB.out | apply below_alloc | apply pw_below_drewN | apply below_drew1 | refine below_set ?_ GE219.out) | exact HB.out)⟩
             ·rw [if_neg c51] at H
              exact absurd H (by simp)
            ·rw [if_neg c50] at H
             exact absurd H (by simp)
           ·rw [if_neg c49] at H
            exact absurd H (by simp)

end Go.Proofs.YtjmbjnobbeflfaaDoor.X
