/- Written by a program of this session (wip/tools/xprint.py, which calls the kit's print): Go functions as Lean functions, and for each the proof that the machine's call does what it says; no conditions but those that each theorem names. -/
import Derived.Test.YtjmbjnobbeflfaaQX0
import Derived.Test.YtjmbjnobbeflfaaQXE
import Derived.Test.YtjmbjnobbeflfaaQXEq
import Derived.Test.YtjmbjnobbeflfaaQXG
import Derived.Test.YtjmbjnobbeflfaaQXM
import Derived.Test.YtjmbjnobbeflfaaQXO
import Derived.Test.YtjmbjnobbeflfaaQXRJ
import Derived.Test.YtjmbjnobbeflfaaQXcomfitlaw06TagsMoreD
namespace Go.Proofs.Ytjmbjnobbeflfaa.X
open Go.RowKit Go.Proofs.YtjmbjnobbeflfaaW.PrintWords Go.Proofs.YtjmbjnobbeflfaaW.PrintLast Go.Proofs.YtjmbjnobbeflfaaW.PrintMore
attribute [local go_sem] max2_int min2_int max_two min_two max_three min_three max_four min_four   -- for this text's walks alone
set_option linter.unusedVariables false
set_option linter.unusedSimpArgs false

attribute [local go_sem high] eqA23
/-! ### comfitlaw06_TagsMore: function 4 -/
theorem cell_same2 (w : World) (a : Addr) (u v : Value) (h : (w.cell? a).isSome = true) : ((w.setCell a u).setCell a v).cell? a = some v := by
 refine World.cell?_setCell_same' _ _ _ ?_
 rw [World.cell?_setCell_same' _ _ _ h]
 rfl
attribute [local go_sem] cell_same2
set_option maxHeartbeats 8000000 in
set_option maxRecDepth 100000 in
theorem comfitlaw06_TagsMore.calls (k : Nat) (A0 : Option Addr) (c0 : Nat) (l0 : List (S39)) (a1_0 : Int) (a1_1 : Int) (a2 : Int) (a3 : Int) (a4 : Int) (r : Bool) (w : World) (hr0 : Kd.C k39 w A0 l0.length l0) (hc0 : l0.length ≤ c0) (h : comfitlaw06_TagsMore.f k l0 a1_0 a1_1 a2 a3 a4 = some r) :
  Calls Try.prog 4 #[.slice A0 l0.length c0, .agg #[.int .i64 a1_0, .int .i64 a1_1], .int .i64 a2, .int .i64 a3, .int .i64 a4] w fun e w' => e = .returned (.bool r) ∧ Below w.heap.size w w' := by
 have hu23 := Try.underlying23
 have HR0 := Aside0.mk hr0
 have HC0 := Aside0.mk hc0
 clear hr0 hc0
 have HB := Aside0.mk (Below.refl w.heap.size w)
 have H : ((comfitref06_Machine.f k l0).bind fun t263 => (if t263 = true then ((comfitref06_Jars.f a1_0 a1_1).bind fun t264 => (j0 k l0 a2 a3 a4 (!t264) a1_0 a1_1)) else (j0 k l0 a2 a3 a4 true a1_0 a1_1))) = some r := h
 clear h
 have HC6 := Aside0.mk H
 clear H
 go_enter Try.func4, Try.ntmps4
 go_upto_region 1 with (first | ((with_reducible refine gate_dst (N := 6) rfl ?_); (try (refine gate_guard (by rfl) ?_; dsimp only)); refine box_event ?hg (N := 6) ?hd (cs := #[.int .i64 a1_0, .int .i64 a1_1]) (t := 23) ?hr ?_; (case hd => rfl); (case hg => rfl); (case hr => first | (go_simp; done) | (go_simp; rfl)); intro gb262 hg w7 hbox hb; have n0_ := Aside0.mk (below_step (hb_ HB.out) hb); have n1_ := Aside0.mk (hbox); have n2_ := Aside0.mk ((by rw [hg]; exact (below_size (hb_ HB.out)) : w.heap.size ≤ gb262)); have n3_ := Aside0.mk ((by rw [hg]; exact (below_size (hb_ HB.out)) : w.heap.size ≤ gb262)); clear HB; have HB := n0_; have BK262 := n1_; have GW262 := n2_; have GE262 := n3_; clear n0_ n1_ n2_ n3_; clear hb hbox hg))
 (try simp only [Act.put, List.setIfInBounds_toArray, List.set_cons_zero, List.set_cons_succ])
 go_cut [30] (fun v30 wc => ∃ (kq : Nat) (x30_5 : Bool), v30 = .bool x30_5 ∧ Aside0 (j0 kq l0 a2 a3 a4 x30_5 a1_0 a1_1 = some r) ∧ Aside0 (kq ≤ k) ∧ Aside0 (wc.heap[gb262]? = some (.cells #[.int .i64 a1_0, .int .i64 a1_1] 23 (0, 0))) ∧ Aside0 (Below w.heap.size w wc))
 case first =>
  have H := HC6.out
  clear HC6
  replace H := Option.bind_eq_some_iff.mp H
  obtain ⟨t263, A80, H⟩ := H
  replace H : (if t263 = true then ((comfitref06_Jars.f a1_0 a1_1).bind fun t264 => (j0 k l0 a2 a3 a4 (!t264) a1_0 a1_1)) else (j0 k l0 a2 a3 a4 true a1_0 a1_1)) = some r := H
  have A8 := Aside0.mk A80
  clear A80
  by_cases c9 : t263 = true
  ·subst c9
   have H1 : ((comfitref06_Jars.f a1_0 a1_1).bind fun t264 => (j0 k l0 a2 a3 a4 (!t264) a1_0 a1_1)) = some r := by rw [if_pos rfl] at H; exact H
   clear H
   have H := H1
   clear H1
   replace H := Option.bind_eq_some_iff.mp H
   obtain ⟨t264, A100, H⟩ := H
   replace H : (j0 k l0 a2 a3 a4 (!t264) a1_0 a1_1) = some r := H
   have A10 := Aside0.mk A100
   clear A100
   as_aux_lemma =>
    have H' := Aside0.mk H
    clear H
    go_wp2_with (first | ((with_reducible refine gate_callee (f := 12) rfl ?_); refine goesL_ (some 24) rfl rfl Try.func12 (by kernel_rfl) rfl #[.slice A0 l0.length c0] rfl al_ ?_; (with_reducible refine (comfitref06_Machine.calls k _ _ l0 true _ ?side1 ?side2 A8.out).mono ?_); (case side1 => exact kc_ (Kd.C_below HR0.out HB.out)); (case side2 => exact HC0.out); rintro e w11 ⟨rfl, hb⟩; refine ⟨_, rfl, ?_⟩; have n0_ := Aside0.mk (bkb_ BK262.out hb); have n1_ := Aside0.mk (below_step (hb_ HB.out) hb); clear BK262; clear HB; have BK262 := n0_; have HB := n1_; clear n0_ n1_; (try clear hb); (try clear hb2); (try clear hk); (try clear hi); have hcz12_0 : w11.cell? ⟨gb262, 0, none⟩ = some (.int .i64 a1_0) := (blk_cell BK262.out 0).trans rfl; have hcz12_1 : w11.cell? ⟨gb262, 1, none⟩ = some (.int .i64 a1_1) := (blk_cell BK262.out 1).trans rfl; have hfz12_0 := blk_frozen BK262.out 0; have hfz12_1 := blk_frozen BK262.out 1) | (go_at_call 13; (with_reducible refine (comfitref06_Jars.calls a1_0 a1_1 t264 _ A10.out).mono ?_); rintro e w13 ⟨rfl, hb⟩; have n0_ := Aside0.mk (bkb_ BK262.out hb); have n1_ := Aside0.mk (below_step (hb_ HB.out) hb); clear BK262; clear HB; have BK262 := n0_; have HB := n1_; clear n0_ n1_; (try clear hb); (try clear hb2); (try clear hk); (try clear hi)))
    go_meet
    case rel => exact ⟨_, (!t264), (by first | rfl | (simp; done) | (simp [*]; done)), H', ⟨by first | omega | exact Nat.le_refl _⟩, ⟨bk_ BK262.out⟩, ⟨hb_ HB.out⟩⟩
  ·replace c9 := Bool.eq_false_iff.mpr c9
   subst c9
   have H1 : (j0 k l0 a2 a3 a4 true a1_0 a1_1) = some r := by rw [if_neg (show ¬ (false = true) by decide)] at H; exact H
   clear H
   have H := H1
   clear H1
   as_aux_lemma =>
    have H' := Aside0.mk H
    clear H
    go_wp2_with (first | ((with_reducible refine gate_callee (f := 12) rfl ?_); refine goesL_ (some 24) rfl rfl Try.func12 (by kernel_rfl) rfl #[.slice A0 l0.length c0] rfl al_ ?_; (with_reducible refine (comfitref06_Machine.calls k _ _ l0 false _ ?side1 ?side2 A8.out).mono ?_); (case side1 => exact kc_ (Kd.C_below HR0.out HB.out)); (case side2 => exact HC0.out); rintro e w14 ⟨rfl, hb⟩; refine ⟨_, rfl, ?_⟩; have n0_ := Aside0.mk (bkb_ BK262.out hb); have n1_ := Aside0.mk (below_step (hb_ HB.out) hb); clear BK262; clear HB; have BK262 := n0_; have HB := n1_; clear n0_ n1_; (try clear hb); (try clear hb2); (try clear hk); (try clear hi)))
    go_meet
    case rel => exact ⟨_, (true), (by first | rfl | (simp; done) | (simp [*]; done)), H', ⟨by first | omega | exact Nat.le_refl _⟩, ⟨bk_ BK262.out⟩, ⟨hb_ HB.out⟩⟩
 case rest =>
  clear HC6
  try clear c1
  try clear p2
  try clear c4
  try clear c9
  try clear c12
  try clear hcz12_0
  try clear hcz12_1
  try clear hfz12_0
  try clear hfz12_1
  obtain ⟨kq, x30_5, rfl, HA, HJ5, BK262, HB⟩ := hcut
  cases kq with
  | zero => exact absurd HA.out (by simp [j0])
  | succ kj5 =>
   have H := HA.out
   clear HA
   simp only [j0] at H
   by_cases c15 : x30_5 = true
   ·subst c15
    have H1 : ((comfitlaw06_Of.f kj5 l0).bind fun t265 => ((tags_Ends.f kj5 t265 a1_0 a1_1).bind fun bt268 => (if bt268.2 = 2 then ((comfitlaw06_awake.f kj5).bind fun t270 => (some t270)) else (some false)))) = some r := by rw [if_pos rfl] at H; exact H
    clear H
    have H := H1
    clear H1
    replace H := Option.bind_eq_some_iff.mp H
    obtain ⟨t265, A160, H⟩ := H
    replace H : ((tags_Ends.f kj5 t265 a1_0 a1_1).bind fun bt268 => (if bt268.2 = 2 then ((comfitlaw06_awake.f kj5).bind fun t270 => (some t270)) else (some false))) = some r := H
    have A16 := Aside0.mk A160
    clear A160
    replace H := Option.bind_eq_some_iff.mp H
    obtain ⟨⟨t268, t269⟩, A170, H⟩ := H
    replace H : (if t269 = 2 then ((comfitlaw06_awake.f kj5).bind fun t270 => (some t270)) else (some false)) = some r := H
    have A17 := Aside0.mk A170
    clear A170
    by_cases c18 : t269 = 2
    ·rw [if_pos c18] at H
     have c18b0 : (t269 == 2) = true := beq_iff_eq.mpr c18
     have c18b1 : (t269 != 2) = false := bne_eq_false_iff_eq.mpr c18
     clear c18
     replace H := Option.bind_eq_some_iff.mp H
     obtain ⟨t270, A190, H⟩ := H
     replace H : (some t270) = some r := H
     have A19 := Aside0.mk A190
     clear A190
     as_aux_lemma =>
      obtain rfl := Option.some.inj H
      try go_wp2
      have n0_ := Aside0.mk (blk_drew BK262.out)
      have n1_ := Aside0.mk (below_drew1 HB.out)
      clear BK262
      clear HB
      have BK262 := n0_
      have HB := n1_
      clear n0_ n1_
      refine start_ (n := 9) (S := fun w' => w'.cell? ⟨gb262, 0, none⟩ = some (.int .i64 a1_0) ∧ w'.cell? ⟨gb262, 1, none⟩ = some (.int .i64 a1_1)) (ds := []) #[false, false, false, false, false, false, false, false, false] (by kernel_rfl) rfl rfl ⟨(blk_cell BK262.out 0).trans rfl, (blk_cell BK262.out 1).trans rfl⟩ (fun hHeld => ?_); refine with_tabW comfitlaw06_TagsMore.tab2 comfitlaw06_TagsMore.bits2 (fun HT_ HW_ => ?_)
      generalize wc.drew = w20 at BK262 HB hHeld ⊢
      refine pure_ (i := 0) (N := some 32) (v := ?_) (a' := ?_) #[true, false, false, false, false, false, false, false, false] rfl rfl (any_of HT_.out (by kernel_rfl)) (fun _ _ _ h => h) (Or.inl ⟨by rfl, ?_⟩) ?_ ?_
      rotate_left
      ·intro w'
       go_simp
       with_reducible rfl
      rotate_left
      ·simp only [Act.put, List.setIfInBounds_toArray, List.set_cons_zero, List.set_cons_succ, i64_w, i32_w]
       rfl
      refine take_ (i := 2) (N := some 34) (v := ?_) (a' := ?_) #[true, false, true, false, false, false, false, false, false] rfl rfl (take_ofW HT_.out HW_.out (by kernel_rfl)) (fun _ _ _ h => h) (Or.inl ⟨by rfl, ?_⟩) hHeld ?_ ?_
      rotate_left
      ·rintro w' ⟨s0, s1⟩
       go_simp
       with_reducible rfl
      rotate_left
      ·simp only [Act.put, List.setIfInBounds_toArray, List.set_cons_zero, List.set_cons_succ, i64_w, i32_w]
       rfl
      refine one_ (i := 1) (N := some 33) #[true, true, true, false, false, false, false, false, false] rfl rfl (one_of HT_.out (by kernel_rfl)) (by decide) (fun K hK => ?_)
      refine goes_ Try.func11 (by kernel_rfl) rfl #[.slice A0 l0.length c0] (by rfl) rfl rfl al_ ?_
      with_reducible refine (comfitlaw06_Of.calls kj5 _ _ l0 t265 _ ?side1 ?side2 A16.out).mono ?_
      (case side1 => exact kc_ (Kd.C_below HR0.out HB.out))
      (case side2 => exact HC0.out)
      rintro e w21 ⟨v266, rfl, ho0, hb⟩
      refine ⟨_, rfl, ?_⟩
      have n0_ := Aside0.mk (Kd.R_lower ho0 (below_size (hb_ HB.out)))
      have n1_ := Aside0.mk (bkb_ BK262.out hb)
      have n2_ := Aside0.mk (below_step (hb_ HB.out) hb)
      clear BK262
      clear HB
      have HO267 := n0_
      have BK262 := n1_
      have HB := n2_
      clear n0_ n1_ n2_
      (try clear hb)
      (try clear hb2)
      (try clear hk)
      (try clear hi)
      (try clear ho0)
      obtain ⟨Ao22, co22, eo22⟩ := Kd.R_slice HO267.out
      (first | subst eo22 | (injection eo22 with f1_ f2_ f3_; have f4_ := f1_.symm; have f5_ := f3_.symm; clear f1_ f2_ f3_; subst f4_; subst f5_))
      refine hK.out _ _ ⟨(blk_cell BK262.out 0).trans rfl, (blk_cell BK262.out 1).trans rfl⟩ (fun hHeld => ?_)
      clear hK K
      refine norm_ (a' := ?_) ?_ ?_
      rotate_left
      ·show Act.put _ (some 33) _ = _
       simp only [Act.put, List.setIfInBounds_toArray, List.set_cons_zero, List.set_cons_succ, i64_w, i32_w]
       rfl
      refine one_ (i := 3) (N := some 35) #[true, true, true, true, false, false, false, false, false] rfl rfl (one_of HT_.out (by kernel_rfl)) (by decide) (fun K hK => ?_)
      refine goes_ Try.func16 (by kernel_rfl) rfl #[.slice Ao22 t265.length co22, .agg #[.int .i64 a1_0, .int .i64 a1_1]] (by rfl) rfl rfl al_ ?_
      with_reducible refine (tags_Ends.calls kj5 _ _ t265 a1_0 a1_1 t268 t269 _ ?side1 ?side2 A17.out).mono ?_
      (case side1 => exact kc_ (Kd.R_reads' HO267.out).2.2)
      (case side2 => exact (Kd.R_reads' HO267.out).2.1)
      rintro e w23 ⟨rfl, hb⟩
      refine ⟨_, rfl, ?_⟩
      have n0_ := Aside0.mk (Kd.R_below (kr_ (HO267.out)) hb)
      have n1_ := Aside0.mk (bkb_ BK262.out hb)
      have n2_ := Aside0.mk (below_step (hb_ HB.out) hb)
      clear HO267
      clear BK262
      clear HB
      have HO267 := n0_
      have BK262 := n1_
      have HB := n2_
      clear n0_ n1_ n2_
      (try clear hb)
      (try clear hb2)
      (try clear hk)
      (try clear hi)
      refine hK.out _ _ ⟨(blk_cell BK262.out 0).trans rfl, (blk_cell BK262.out 1).trans rfl⟩ (fun hHeld => ?_)
      clear hK K
      refine norm_ (a' := ?_) ?_ ?_
      rotate_left
      ·show Act.put _ (some 35) _ = _
       simp only [Act.put, List.setIfInBounds_toArray, List.set_cons_zero, List.set_cons_succ, i64_w, i32_w]
       rfl
      refine pure_ (i := 4) (N := some 31) (v := ?_) (a' := ?_) #[true, true, true, true, true, false, false, false, false] rfl rfl (any_of HT_.out (by kernel_rfl)) (fun _ _ _ h => h) (Or.inl ⟨by rfl, ?_⟩) ?_ ?_
      rotate_left
      ·intro w'
       go_simp
       with_reducible rfl
      rotate_left
      ·simp only [Act.put, List.setIfInBounds_toArray, List.set_cons_zero, List.set_cons_succ, i64_w, i32_w]
       rfl
      refine pure_ (i := 5) (N := some 36) (v := ?_) (a' := ?_) #[true, true, true, true, true, true, false, false, false] rfl rfl (any_of HT_.out (by kernel_rfl)) (fun _ _ _ h => h) (Or.inl ⟨by rfl, ?_⟩) ?_ ?_
      rotate_left
      ·intro w'
       go_simp
       with_reducible rfl
      rotate_left
      ·simp only [Act.put, List.setIfInBounds_toArray, List.set_cons_zero, List.set_cons_succ, i64_w, i32_w]
       rfl
      refine pure_ (i := 6) (N := some 37) (v := ?_) (a' := ?_) #[true, true, true, true, true, true, true, false, false] rfl rfl (any_of HT_.out (by kernel_rfl)) (fun _ _ _ h => h) (Or.inl ⟨by rfl, ?_⟩) ?_ ?_
      rotate_left
      ·intro w'
       go_simp
       with_reducible rfl
      rotate_left
      ·simp only [Act.put, List.setIfInBounds_toArray, List.set_cons_zero, List.set_cons_succ, i64_w, i32_w]
       rfl
      refine pure_ (i := 7) (N := some 11) (v := ?_) (a' := ?_) #[true, true, true, true, true, true, true, true, false] rfl rfl (any_of HT_.out (by kernel_rfl)) (fun _ _ _ h => h) (Or.inl ⟨by rfl, ?_⟩) ?_ ?_
      rotate_left
      ·intro w'
       go_simp
       with_reducible rfl
      rotate_left
      ·simp only [Act.put, List.setIfInBounds_toArray, List.set_cons_zero, List.set_cons_succ, i64_w, i32_w]
       rfl
      refine pure_ (i := 8) (N := some 12) (v := ?_) (a' := ?_) #[true, true, true, true, true, true, true, true, true] rfl rfl (any_of HT_.out (by kernel_rfl)) (fun _ _ _ h => h) (Or.inl ⟨by rfl, ?_⟩) ?_ ?_
      rotate_left
      ·intro w'
       go_simp
       with_reducible rfl
      rotate_left
      ·simp only [Act.put, List.setIfInBounds_toArray, List.set_cons_zero, List.set_cons_succ, i64_w, i32_w]
       rfl
      refine done_ (done_of HT_.out (by kernel_rfl)) ?_
      try go_wp2_with (first | (go_at_call 14; (with_reducible refine (comfitlaw06_awake.calls kj5  t270 _ A19.out).mono ?_); rintro e w24 ⟨rfl, hb⟩; have n0_ := Aside0.mk (Kd.R_below (kr_ (HO267.out)) hb); have n1_ := Aside0.mk (bkb_ BK262.out hb); have n2_ := Aside0.mk (below_step (hb_ HB.out) hb); clear HO267; clear BK262; clear HB; have HO267 := n0_; have BK262 := n1_; have HB := n2_; clear n0_ n1_ n2_; (try clear hb); (try clear hb2); (try clear hk); (try clear hi)))
      go_ret
      exact ⟨by first | rfl | (simp [errW_none, errW_some] <;> rfl) | (simp [*, errW_none, errW_some] <;> rfl), hb_ HB.out⟩
    rw [if_neg c18] at H
    have c18b0 : (t269 == 2) = false := beq_eq_false_iff_ne.mpr c18
    have c18b1 : (t269 != 2) = true := bne_iff_ne.mpr c18
    as_aux_lemma =>
     obtain rfl := Option.some.inj H
     try go_wp2
     have n0_ := Aside0.mk (blk_drew BK262.out)
     have n1_ := Aside0.mk (below_drew1 HB.out)
     clear BK262
     clear HB
     have BK262 := n0_
     have HB := n1_
     clear n0_ n1_
     refine start_ (n := 9) (S := fun w' => w'.cell? ⟨gb262, 0, none⟩ = some (.int .i64 a1_0) ∧ w'.cell? ⟨gb262, 1, none⟩ = some (.int .i64 a1_1)) (ds := []) #[false, false, false, false, false, false, false, false, false] (by kernel_rfl) rfl rfl ⟨(blk_cell BK262.out 0).trans rfl, (blk_cell BK262.out 1).trans rfl⟩ (fun hHeld => ?_); refine with_tabW comfitlaw06_TagsMore.tab2 comfitlaw06_TagsMore.bits2 (fun HT_ HW_ => ?_)
     generalize wc.drew = w25 at BK262 HB hHeld ⊢
     refine pure_ (i := 0) (N := some 32) (v := ?_) (a' := ?_) #[true, false, false, false, false, false, false, false, false] rfl rfl (any_of HT_.out (by kernel_rfl)) (fun _ _ _ h => h) (Or.inl ⟨by rfl, ?_⟩) ?_ ?_
     rotate_left
     ·intro w'
      go_simp
      with_reducible rfl
     rotate_left
     ·simp only [Act.put, List.setIfInBounds_toArray, List.set_cons_zero, List.set_cons_succ, i64_w, i32_w]
      rfl
     refine take_ (i := 2) (N := some 34) (v := ?_) (a' := ?_) #[true, false, true, false, false, false, false, false, false] rfl rfl (take_ofW HT_.out HW_.out (by kernel_rfl)) (fun _ _ _ h => h) (Or.inl ⟨by rfl, ?_⟩) hHeld ?_ ?_
     rotate_left
     ·rintro w' ⟨s0, s1⟩
      go_simp
      with_reducible rfl
     rotate_left
     ·simp only [Act.put, List.setIfInBounds_toArray, List.set_cons_zero, List.set_cons_succ, i64_w, i32_w]
      rfl
     refine one_ (i := 1) (N := some 33) #[true, true, true, false, false, false, false, false, false] rfl rfl (one_of HT_.out (by kernel_rfl)) (by decide) (fun K hK => ?_)
     refine goes_ Try.func11 (by kernel_rfl) rfl #[.slice A0 l0.length c0] (by rfl) rfl rfl al_ ?_
     with_reducible refine (comfitlaw06_Of.calls kj5 _ _ l0 t265 _ ?side1 ?side2 A16.out).mono ?_
     (case side1 => exact kc_ (Kd.C_below HR0.out HB.out))
     (case side2 => exact HC0.out)
     rintro e w26 ⟨v266, rfl, ho0, hb⟩
     refine ⟨_, rfl, ?_⟩
     have n0_ := Aside0.mk (Kd.R_lower ho0 (below_size (hb_ HB.out)))
     have n1_ := Aside0.mk (bkb_ BK262.out hb)
     have n2_ := Aside0.mk (below_step (hb_ HB.out) hb)
     clear BK262
     clear HB
     have HO267 := n0_
     have BK262 := n1_
     have HB := n2_
     clear n0_ n1_ n2_
     (try clear hb)
     (try clear hb2)
     (try clear hk)
     (try clear hi)
     (try clear ho0)
     obtain ⟨Ao27, co27, eo27⟩ := Kd.R_slice HO267.out
     (first | subst eo27 | (injection eo27 with f1_ f2_ f3_; have f4_ := f1_.symm; have f5_ := f3_.symm; clear f1_ f2_ f3_; subst f4_; subst f5_))
     refine hK.out _ _ ⟨(blk_cell BK262.out 0).trans rfl, (blk_cell BK262.out 1).trans rfl⟩ (fun hHeld => ?_)
     clear hK K
     refine norm_ (a' := ?_) ?_ ?_
     rotate_left
     ·show Act.put _ (some 33) _ = _
      simp only [Act.put, List.setIfInBounds_toArray, List.set_cons_zero, List.set_cons_succ, i64_w, i32_w]
      rfl
     refine one_ (i := 3) (N := some 35) #[true, true, true, true, false, false, false, false, false] rfl rfl (one_of HT_.out (by kernel_rfl)) (by decide) (fun K hK => ?_)
     refine goes_ Try.func16 (by kernel_rfl) rfl #[.slice Ao27 t265.length co27, .agg #[.int .i64 a1_0, .int .i64 a1_1]] (by rfl) rfl rfl al_ ?_
     with_reducible refine (tags_Ends.calls kj5 _ _ t265 a1_0 a1_1 t268 t269 _ ?side1 ?side2 A17.out).mono ?_
     (case side1 => exact kc_ (Kd.R_reads' HO267.out).2.2)
     (case side2 => exact (Kd.R_reads' HO267.out).2.1)
     rintro e w28 ⟨rfl, hb⟩
     refine ⟨_, rfl, ?_⟩
     have n0_ := Aside0.mk (Kd.R_below (kr_ (HO267.out)) hb)
     have n1_ := Aside0.mk (bkb_ BK262.out hb)
     have n2_ := Aside0.mk (below_step (hb_ HB.out) hb)
     clear HO267
     clear BK262
     clear HB
     have HO267 := n0_
     have BK262 := n1_
     have HB := n2_
     clear n0_ n1_ n2_
     (try clear hb)
     (try clear hb2)
     (try clear hk)
     (try clear hi)
     refine hK.out _ _ ⟨(blk_cell BK262.out 0).trans rfl, (blk_cell BK262.out 1).trans rfl⟩ (fun hHeld => ?_)
     clear hK K
     refine norm_ (a' := ?_) ?_ ?_
     rotate_left
     ·show Act.put _ (some 35) _ = _
      simp only [Act.put, List.setIfInBounds_toArray, List.set_cons_zero, List.set_cons_succ, i64_w, i32_w]
      rfl
     refine pure_ (i := 4) (N := some 31) (v := ?_) (a' := ?_) #[true, true, true, true, true, false, false, false, false] rfl rfl (any_of HT_.out (by kernel_rfl)) (fun _ _ _ h => h) (Or.inl ⟨by rfl, ?_⟩) ?_ ?_
     rotate_left
     ·intro w'
      go_simp
      with_reducible rfl
     rotate_left
     ·simp only [Act.put, List.setIfInBounds_toArray, List.set_cons_zero, List.set_cons_succ, i64_w, i32_w]
      rfl
     refine pure_ (i := 5) (N := some 36) (v := ?_) (a' := ?_) #[true, true, true, true, true, true, false, false, false] rfl rfl (any_of HT_.out (by kernel_rfl)) (fun _ _ _ h => h) (Or.inl ⟨by rfl, ?_⟩) ?_ ?_
     rotate_left
     ·intro w'
      go_simp
      with_reducible rfl
     rotate_left
     ·simp only [Act.put, List.setIfInBounds_toArray, List.set_cons_zero, List.set_cons_succ, i64_w, i32_w]
      rfl
     refine pure_ (i := 6) (N := some 37) (v := ?_) (a' := ?_) #[true, true, true, true, true, true, true, false, false] rfl rfl (any_of HT_.out (by kernel_rfl)) (fun _ _ _ h => h) (Or.inl ⟨by rfl, ?_⟩) ?_ ?_
     rotate_left
     ·intro w'
      go_simp
      with_reducible rfl
     rotate_left
     ·simp only [Act.put, List.setIfInBounds_toArray, List.set_cons_zero, List.set_cons_succ, i64_w, i32_w]
      rfl
     refine pure_ (i := 7) (N := some 11) (v := ?_) (a' := ?_) #[true, true, true, true, true, true, true, true, false] rfl rfl (any_of HT_.out (by kernel_rfl)) (fun _ _ _ h => h) (Or.inl ⟨by rfl, ?_⟩) ?_ ?_
     rotate_left
     ·intro w'
      go_simp
      with_reducible rfl
     rotate_left
     ·simp only [Act.put, List.setIfInBounds_toArray, List.set_cons_zero, List.set_cons_succ, i64_w, i32_w]
      rfl
     refine pure_ (i := 8) (N := some 12) (v := ?_) (a' := ?_) #[true, true, true, true, true, true, true, true, true] rfl rfl (any_of HT_.out (by kernel_rfl)) (fun _ _ _ h => h) (Or.inl ⟨by rfl, ?_⟩) ?_ ?_
     rotate_left
     ·intro w'
      go_simp
      with_reducible rfl
     rotate_left
     ·simp only [Act.put, List.setIfInBounds_toArray, List.set_cons_zero, List.set_cons_succ, i64_w, i32_w]
      rfl
     refine done_ (done_of HT_.out (by kernel_rfl)) ?_
     try go_wp2
     go_ret
     exact ⟨by first | rfl | (simp [errW_none, errW_some] <;> rfl) | (simp [*, errW_none, errW_some] <;> rfl), hb_ HB.out⟩
   ·replace c15 := Bool.eq_false_iff.mpr c15
    subst c15
    have H1 : (if (wrap64 (Int.tmod (IntKind.u64.wrap (a2)) 2)) = 0 then ((comfitref06_Jars.f (wrap64 (a1_0 + (wrap64 (Int.tmod (IntKind.u64.wrap (a3)) 20)))) a1_1).bind fun t272 => (if t272 = true then (l0 kj5 l0 0 (wrap64 (Int.tmod (IntKind.u64.wrap (a3)) 20)) (wrap64 ((wrap64 (Int.tmod (IntKind.u64.wrap (a4)) 60)) + 1)) 0 a1_0 a1_1 (wrap64 (a1_0 + (wrap64 (Int.tmod (IntKind.u64.wrap (a3)) 20)))) a1_1) else ((comfitlaw06_awake.f kj5).bind fun t273 => (some t273)))) else (if (wrap64 (Int.tmod (IntKind.u64.wrap (a2)) 2)) = 1 then ((comfitref06_Jars.f a1_0 (wrap64 (a1_1 + (wrap64 (Int.tmod (IntKind.u64.wrap (a3)) 20))))).bind fun t299 => (if t299 = true then (l0 kj5 l0 1 (wrap64 (Int.tmod (IntKind.u64.wrap (a3)) 20)) (wrap64 ((wrap64 (Int.tmod (IntKind.u64.wrap (a4)) 60)) + 1)) 0 a1_0 a1_1 a1_0 (wrap64 (a1_1 + (wrap64 (Int.tmod (IntKind.u64.wrap (a3)) 20))))) else ((comfitlaw06_awake.f kj5).bind fun t300 => (some t300)))) else (none))) = some r := by rw [if_neg (show ¬ (false = true) by decide)] at H; exact H
    clear H
    have H := H1
    clear H1
    obtain ⟨iq29, hiq29⟩ : ∃ b_ : Int, (wrap64 (Int.tmod (IntKind.u64.wrap (a2)) 2)) = b_ := ⟨_, rfl⟩
    replace H : (if (iq29) = 0 then ((comfitref06_Jars.f (wrap64 (a1_0 + (wrap64 (Int.tmod (IntKind.u64.wrap (a3)) 20)))) a1_1).bind fun t272 => (if t272 = true then (l0 kj5 l0 0 (wrap64 (Int.tmod (IntKind.u64.wrap (a3)) 20)) (wrap64 ((wrap64 (Int.tmod (IntKind.u64.wrap (a4)) 60)) + 1)) 0 a1_0 a1_1 (wrap64 (a1_0 + (wrap64 (Int.tmod (IntKind.u64.wrap (a3)) 20)))) a1_1) else ((comfitlaw06_awake.f kj5).bind fun t273 => (some t273)))) else (if (iq29) = 1 then ((comfitref06_Jars.f a1_0 (wrap64 (a1_1 + (wrap64 (Int.tmod (IntKind.u64.wrap (a3)) 20))))).bind fun t299 => (if t299 = true then (l0 kj5 l0 1 (wrap64 (Int.tmod (IntKind.u64.wrap (a3)) 20)) (wrap64 ((wrap64 (Int.tmod (IntKind.u64.wrap (a4)) 60)) + 1)) 0 a1_0 a1_1 a1_0 (wrap64 (a1_1 + (wrap64 (Int.tmod (IntKind.u64.wrap (a3)) 20))))) else ((comfitlaw06_awake.f kj5).bind fun t300 => (some t300)))) else (none))) = some r := by first | (rw [hiq29] at H; exact H) | (simp only [hiq29] at H ⊢; exact H)
    (try rw [hiq29])
    have hiq29w : (IntKind.i64.wrap (Int.tmod (IntKind.u64.wrap (a2)) 2)) = iq29 := (i64_w _).trans hiq29
    have Niq29 := Aside0.mk hiq29.symm
    by_cases c30 : (iq29) = 0
    ·rw [if_pos c30] at H
     subst c30
     replace H := Option.bind_eq_some_iff.mp H
     obtain ⟨t272, A310, H⟩ := H
     replace H : (if t272 = true then (l0 kj5 l0 0 (wrap64 (Int.tmod (IntKind.u64.wrap (a3)) 20)) (wrap64 ((wrap64 (Int.tmod (IntKind.u64.wrap (a4)) 60)) + 1)) 0 a1_0 a1_1 (wrap64 (a1_0 + (wrap64 (Int.tmod (IntKind.u64.wrap (a3)) 20)))) a1_1) else ((comfitlaw06_awake.f kj5).bind fun t273 => (some t273))) = some r := H
     have A31 := Aside0.mk A310
     clear A310
     by_cases c32 : t272 = true
     ·subst c32
      have H1 : (l0 kj5 l0 0 (wrap64 (Int.tmod (IntKind.u64.wrap (a3)) 20)) (wrap64 ((wrap64 (Int.tmod (IntKind.u64.wrap (a4)) 60)) + 1)) 0 a1_0 a1_1 (wrap64 (a1_0 + (wrap64 (Int.tmod (IntKind.u64.wrap (a3)) 20)))) a1_1) = some r := by rw [if_pos rfl] at H; exact H
      clear H
      have H := H1
      clear H1
      have H' := Aside0.mk H
      clear H
      have hcz33_0 : wc.cell? ⟨gb262, 0, none⟩ = some (.int .i64 a1_0) := (blk_cell BK262.out 0).trans rfl
      have hcz33_1 : wc.cell? ⟨gb262, 1, none⟩ = some (.int .i64 a1_1) := (blk_cell BK262.out 1).trans rfl
      have hfz33_0 := blk_frozen BK262.out 0
      have hfz33_1 := blk_frozen BK262.out 1
      go_wp2_with (first | ((with_reducible refine gate_dst (N := 13) rfl ?_); (try (refine gate_guard (by rfl) ?_; dsimp only)); refine box_event ?hg (N := 13) ?hd (cs := #[.int .i64 0, .int .i64 0]) (t := 23) ?hr ?_; (case hd => rfl); (case hg => rfl); (case hr => first | (go_simp; done) | (go_simp; rfl)); intro gb271 hg w34 hbox hb; have n0_ := Aside0.mk (bkb_ BK262.out hb); have n1_ := Aside0.mk (below_step (hb_ HB.out) hb); have n2_ := Aside0.mk (hbox); have n3_ := Aside0.mk ((by rw [hg]; exact (below_size (hb_ HB.out)) : w.heap.size ≤ gb271)); have n4_ := Aside0.mk ((by rw [hg]; exact (below_size (hb_ HB.out)) : w.heap.size ≤ gb271)); have n5_ := Aside0.mk ((by rw [hg]; exact Nat.ne_of_lt (bkl_ BK262.out) : gb262 ≠ gb271)); have n6_ := Aside0.mk ((by rw [hg]; exact Nat.ne_of_gt (bkl_ BK262.out) : gb271 ≠ gb262)); clear BK262; clear HB; have BK262 := n0_; have HB := n1_; have BK271 := n2_; have GW271 := n3_; have GE271 := n4_; have NB262_271 := n5_; have NB271_262 := n6_; clear n0_ n1_ n2_ n3_ n4_ n5_ n6_; clear hb hbox hg; have hnb35 := NB271_262.out; have hnc35 := NB262_271.out; have hcz36_0 : w34.cell? ⟨gb271, 0, none⟩ = some (.int .i64 0) := (blk_cell BK271.out 0).trans rfl; have hcz36_1 : w34.cell? ⟨gb271, 1, none⟩ = some (.int .i64 0) := (blk_cell BK271.out 1).trans rfl; have hfz36_0 := blk_frozen BK271.out 0; have hfz36_1 := blk_frozen BK271.out 1) | ((with_reducible refine gate_callee (f := 13) rfl ?_); refine goesL_ (some 63) rfl rfl Try.func13 (by kernel_rfl) rfl #[.agg #[.int .i64 (wrap64 (a1_0 + (wrap64 (Int.tmod (IntKind.u64.wrap (a3)) 20)))), .int .i64 a1_1]] rfl al_ ?_; (with_reducible refine (comfitref06_Jars.calls (wrap64 (a1_0 + (wrap64 (Int.tmod (IntKind.u64.wrap (a3)) 20)))) a1_1 true _ A31.out).mono ?_); rintro e w37 ⟨rfl, hb⟩; refine ⟨_, rfl, ?_⟩; have n0_ := Aside0.mk (blk_below (g := gb262) (o := .cells #[.int .i64 a1_0, .int .i64 a1_1] 23 (0, 0)) (by (with_reducible repeat (first | refine blk_drewN ?_ _ | refine blk_drew ?_ | refine blk_alloc ?_ _)); refine blk_far ?_ NB262_271.out _; (with_reducible repeat (first | refine blk_drewN ?_ _ | refine blk_drew ?_ | refine blk_alloc ?_ _)); refine blk_far ?_ NB262_271.out _; (with_reducible repeat (first | refine blk_drewN ?_ _ | refine blk_drew ?_ | refine blk_alloc ?_ _)); refine blk_far ?_ NB262_271.out _; (with_reducible repeat (first | refine blk_drewN ?_ _ | refine blk_drew ?_ | refine blk_alloc ?_ _)); exact BK262.out) hb); have n1_ := Aside0.mk (blk_below (g := gb271) (o := .cells #[.int .i64 (wrap64 (a1_0 + (wrap64 (Int.tmod (IntKind.u64.wrap (a3)) 20)))), .int .i64 a1_1] 23 (0, 0)) (by (with_reducible repeat (first | refine blk_drewN ?_ _ | refine blk_drew ?_ | refine blk_alloc ?_ _)); refine blk_put (cs := #[.int .i64 a1_0, .int .i64 a1_1]) ?_ 0 _ rfl; (with_reducible repeat (first | refine blk_drewN ?_ _ | refine blk_drew ?_ | refine blk_alloc ?_ _)); refine blk_put (cs := #[.int .i64 a1_0, .int .i64 0]) ?_ 1 _ rfl; (with_reducible repeat (first | refine blk_drewN ?_ _ | refine blk_drew ?_ | refine blk_alloc ?_ _)); refine blk_put (cs := #[.int .i64 0, .int .i64 0]) ?_ 0 _ rfl; (with_reducible repeat (first | refine blk_drewN ?_ _ | refine blk_drew ?_ | refine blk_alloc ?_ _)); exact BK271.out) hb); have n2_ := Aside0.mk (below_step (hb_ HB.out) hb); clear BK262; clear BK271; clear HB; have BK262 := n0_; have BK271 := n1_; have HB := n2_; clear n0_ n1_ n2_; (try clear hb); (try clear hb2); (try clear hk); (try clear hi)))
      go_loopg [68] kj5 (fun kq v68 w' => ∃ (x68_2 : Int), v68 = .int .i64 x68_2 ∧ Aside0 (l0 kq l0 0 (wrap64 (Int.tmod (IntKind.u64.wrap (a3)) 20)) (wrap64 ((wrap64 (Int.tmod (IntKind.u64.wrap (a4)) 60)) + 1)) x68_2 a1_0 a1_1 (wrap64 (a1_0 + (wrap64 (Int.tmod (IntKind.u64.wrap (a3)) 20)))) a1_1 = some r) ∧ Aside0 (kq ≤ kj5) ∧ Aside0 (w'.heap[gb262]? = some (.cells #[.int .i64 a1_0, .int .i64 a1_1] 23 (0, 0))) ∧ Aside0 (w'.heap[gb271]? = some (.cells #[.int .i64 (wrap64 (a1_0 + (wrap64 (Int.tmod (IntKind.u64.wrap (a3)) 20)))), .int .i64 a1_1] 23 (0, 0))) ∧ Aside0 (Below w.heap.size w w'))
      case atStart => exact ⟨(0), (by first | rfl | (simp; done) | (simp [*]; done)), H', ⟨Nat.le_refl _⟩, ⟨bk_ BK262.out⟩, ⟨bk_ BK271.out⟩, ⟨hb_ HB.out⟩⟩
      case round =>
       clear H'
       try clear c1
       try clear p2
       try clear q2
       try clear c3
       try clear c4
       try clear p6
       try clear c9
       try clear c11
       try clear c12
       try clear c13
       try clear c15
       try clear c16
       try clear c18
       try clear c18b0
       try clear c18b1
       try clear q29
       try clear c30
       try clear c32
       try clear c35
       try clear hcz12_0
       try clear hcz12_1
       try clear hcz33_0
       try clear hcz33_1
       try clear hcz36_0
       try clear hcz36_1
       try clear hfz12_0
       try clear hfz12_1
       try clear hfz33_0
       try clear hfz33_1
       try clear hfz36_0
       try clear hfz36_1
       try clear p2
       obtain ⟨x68_2, rfl, HA, HK2, BK262, BK271, HB⟩ := hrel
       cases gk with
       | zero => exact absurd HA.out (by simp [l0])
       | succ k2 =>
        have H := HA.out
        clear HA
        simp only [l0] at H
        by_cases c38 : x68_2 < (wrap64 ((wrap64 (Int.tmod (IntKind.u64.wrap (a4)) 60)) + 1))
        ·rw [if_pos c38] at H
         have c38b0 : decide (x68_2 < (wrap64 ((wrap64 (Int.tmod (IntKind.u64.wrap (a4)) 60)) + 1))) = true := decide_eq_true c38
         clear c38
         replace H := Option.bind_eq_some_iff.mp H
         obtain ⟨t275, A390, H⟩ := H
         replace H : ((tags_Go.f k2 t275 a1_0 a1_1 x68_2).bind fun bt278 => ((comfitlaw06_Of.f k2 l0).bind fun t284 => ((tags_Go.f k2 t284 (wrap64 (a1_0 + (wrap64 (Int.tmod (IntKind.u64.wrap (a3)) 20)))) a1_1 x68_2).bind fun bt287 => (if bt278.2.2.2.2 = 0 then (if bt287.2.2.2.2 = 0 then (if bt278.1 < 0 then (j2 k2 l0 0 (wrap64 (Int.tmod (IntKind.u64.wrap (a3)) 20)) bt278.1 bt278.2.2.2.1 bt287.1 bt287.2.2.2.1 (wrap64 ((wrap64 (Int.tmod (IntKind.u64.wrap (a4)) 60)) + 1)) x68_2 true a1_0 a1_1 (wrap64 (a1_0 + (wrap64 (Int.tmod (IntKind.u64.wrap (a3)) 20)))) a1_1 bt278.2.1 bt278.2.2.1 bt287.2.1 bt287.2.2.1) else (j2 k2 l0 0 (wrap64 (Int.tmod (IntKind.u64.wrap (a3)) 20)) bt278.1 bt278.2.2.2.1 bt287.1 bt287.2.2.2.1 (wrap64 ((wrap64 (Int.tmod (IntKind.u64.wrap (a4)) 60)) + 1)) x68_2 (decide (bt278.1 ≥ (l0.length : Int))) a1_0 a1_1 (wrap64 (a1_0 + (wrap64 (Int.tmod (IntKind.u64.wrap (a3)) 20)))) a1_1 bt278.2.1 bt278.2.2.1 bt287.2.1 bt287.2.2.1)) else (j2 k2 l0 0 (wrap64 (Int.tmod (IntKind.u64.wrap (a3)) 20)) bt278.1 bt278.2.2.2.1 bt287.1 bt287.2.2.2.1 (wrap64 ((wrap64 (Int.tmod (IntKind.u64.wrap (a4)) 60)) + 1)) x68_2 true a1_0 a1_1 (wrap64 (a1_0 + (wrap64 (Int.tmod (IntKind.u64.wrap (a3)) 20)))) a1_1 bt278.2.1 bt278.2.2.1 bt287.2.1 bt287.2.2.1)) else (j2 k2 l0 0 (wrap64 (Int.tmod (IntKind.u64.wrap (a3)) 20)) bt278.1 bt278.2.2.2.1 bt287.1 bt287.2.2.2.1 (wrap64 ((wrap64 (Int.tmod (IntKind.u64.wrap (a4)) 60)) + 1)) x68_2 true a1_0 a1_1 (wrap64 (a1_0 + (wrap64 (Int.tmod (IntKind.u64.wrap (a3)) 20)))) a1_1 bt278.2.1 bt278.2.2.1 bt287.2.1 bt287.2.2.1))))) = some r := H
         have A39 := Aside0.mk A390
         clear A390
         replace H := Option.bind_eq_some_iff.mp H
         obtain ⟨⟨t278, t279, t280, t281, t282⟩, A400, H⟩ := H
         replace H : ((comfitlaw06_Of.f k2 l0).bind fun t284 => ((tags_Go.f k2 t284 (wrap64 (a1_0 + (wrap64 (Int.tmod (IntKind.u64.wrap (a3)) 20)))) a1_1 x68_2).bind fun bt287 => (if t282 = 0 then (if bt287.2.2.2.2 = 0 then (if t278 < 0 then (j2 k2 l0 0 (wrap64 (Int.tmod (IntKind.u64.wrap (a3)) 20)) t278 t281 bt287.1 bt287.2.2.2.1 (wrap64 ((wrap64 (Int.tmod (IntKind.u64.wrap (a4)) 60)) + 1)) x68_2 true a1_0 a1_1 (wrap64 (a1_0 + (wrap64 (Int.tmod (IntKind.u64.wrap (a3)) 20)))) a1_1 t279 t280 bt287.2.1 bt287.2.2.1) else (j2 k2 l0 0 (wrap64 (Int.tmod (IntKind.u64.wrap (a3)) 20)) t278 t281 bt287.1 bt287.2.2.2.1 (wrap64 ((wrap64 (Int.tmod (IntKind.u64.wrap (a4)) 60)) + 1)) x68_2 (decide (t278 ≥ (l0.length : Int))) a1_0 a1_1 (wrap64 (a1_0 + (wrap64 (Int.tmod (IntKind.u64.wrap (a3)) 20)))) a1_1 t279 t280 bt287.2.1 bt287.2.2.1)) else (j2 k2 l0 0 (wrap64 (Int.tmod (IntKind.u64.wrap (a3)) 20)) t278 t281 bt287.1 bt287.2.2.2.1 (wrap64 ((wrap64 (Int.tmod (IntKind.u64.wrap (a4)) 60)) + 1)) x68_2 true a1_0 a1_1 (wrap64 (a1_0 + (wrap64 (Int.tmod (IntKind.u64.wrap (a3)) 20)))) a1_1 t279 t280 bt287.2.1 bt287.2.2.1)) else (j2 k2 l0 0 (wrap64 (Int.tmod (IntKind.u64.wrap (a3)) 20)) t278 t281 bt287.1 bt287.2.2.2.1 (wrap64 ((wrap64 (Int.tmod (IntKind.u64.wrap (a4)) 60)) + 1)) x68_2 true a1_0 a1_1 (wrap64 (a1_0 + (wrap64 (Int.tmod (IntKind.u64.wrap (a3)) 20)))) a1_1 t279 t280 bt287.2.1 bt287.2.2.1)))) = some r := H
         have A40 := Aside0.mk A400
         clear A400
         replace H := Option.bind_eq_some_iff.mp H
         obtain ⟨t284, A410, H⟩ := H
         replace H : ((tags_Go.f k2 t284 (wrap64 (a1_0 + (wrap64 (Int.tmod (IntKind.u64.wrap (a3)) 20)))) a1_1 x68_2).bind fun bt287 => (if t282 = 0 then (if bt287.2.2.2.2 = 0 then (if t278 < 0 then (j2 k2 l0 0 (wrap64 (Int.tmod (IntKind.u64.wrap (a3)) 20)) t278 t281 bt287.1 bt287.2.2.2.1 (wrap64 ((wrap64 (Int.tmod (IntKind.u64.wrap (a4)) 60)) + 1)) x68_2 true a1_0 a1_1 (wrap64 (a1_0 + (wrap64 (Int.tmod (IntKind.u64.wrap (a3)) 20)))) a1_1 t279 t280 bt287.2.1 bt287.2.2.1) else (j2 k2 l0 0 (wrap64 (Int.tmod (IntKind.u64.wrap (a3)) 20)) t278 t281 bt287.1 bt287.2.2.2.1 (wrap64 ((wrap64 (Int.tmod (IntKind.u64.wrap (a4)) 60)) + 1)) x68_2 (decide (t278 ≥ (l0.length : Int))) a1_0 a1_1 (wrap64 (a1_0 + (wrap64 (Int.tmod (IntKind.u64.wrap (a3)) 20)))) a1_1 t279 t280 bt287.2.1 bt287.2.2.1)) else (j2 k2 l0 0 (wrap64 (Int.tmod (IntKind.u64.wrap (a3)) 20)) t278 t281 bt287.1 bt287.2.2.2.1 (wrap64 ((wrap64 (Int.tmod (IntKind.u64.wrap (a4)) 60)) + 1)) x68_2 true a1_0 a1_1 (wrap64 (a1_0 + (wrap64 (Int.tmod (IntKind.u64.wrap (a3)) 20)))) a1_1 t279 t280 bt287.2.1 bt287.2.2.1)) else (j2 k2 l0 0 (wrap64 (Int.tmod (IntKind.u64.wrap (a3)) 20)) t278 t281 bt287.1 bt287.2.2.2.1 (wrap64 ((wrap64 (Int.tmod (IntKind.u64.wrap (a4)) 60)) + 1)) x68_2 true a1_0 a1_1 (wrap64 (a1_0 + (wrap64 (Int.tmod (IntKind.u64.wrap (a3)) 20)))) a1_1 t279 t280 bt287.2.1 bt287.2.2.1))) = some r := H
         have A41 := Aside0.mk A410
         clear A410
         replace H := Option.bind_eq_some_iff.mp H
         obtain ⟨⟨t287, t288, t289, t290, t291⟩, A420, H⟩ := H
         replace H : (if t282 = 0 then (if t291 = 0 then (if t278 < 0 then (j2 k2 l0 0 (wrap64 (Int.tmod (IntKind.u64.wrap (a3)) 20)) t278 t281 t287 t290 (wrap64 ((wrap64 (Int.tmod (IntKind.u64.wrap (a4)) 60)) + 1)) x68_2 true a1_0 a1_1 (wrap64 (a1_0 + (wrap64 (Int.tmod (IntKind.u64.wrap (a3)) 20)))) a1_1 t279 t280 t288 t289) else (j2 k2 l0 0 (wrap64 (Int.tmod (IntKind.u64.wrap (a3)) 20)) t278 t281 t287 t290 (wrap64 ((wrap64 (Int.tmod (IntKind.u64.wrap (a4)) 60)) + 1)) x68_2 (decide (t278 ≥ (l0.length : Int))) a1_0 a1_1 (wrap64 (a1_0 + (wrap64 (Int.tmod (IntKind.u64.wrap (a3)) 20)))) a1_1 t279 t280 t288 t289)) else (j2 k2 l0 0 (wrap64 (Int.tmod (IntKind.u64.wrap (a3)) 20)) t278 t281 t287 t290 (wrap64 ((wrap64 (Int.tmod (IntKind.u64.wrap (a4)) 60)) + 1)) x68_2 true a1_0 a1_1 (wrap64 (a1_0 + (wrap64 (Int.tmod (IntKind.u64.wrap (a3)) 20)))) a1_1 t279 t280 t288 t289)) else (j2 k2 l0 0 (wrap64 (Int.tmod (IntKind.u64.wrap (a3)) 20)) t278 t281 t287 t290 (wrap64 ((wrap64 (Int.tmod (IntKind.u64.wrap (a4)) 60)) + 1)) x68_2 true a1_0 a1_1 (wrap64 (a1_0 + (wrap64 (Int.tmod (IntKind.u64.wrap (a3)) 20)))) a1_1 t279 t280 t288 t289)) = some r := H
         have A42 := Aside0.mk A420
         clear A420
         have HC43 := Aside0.mk H
         clear H
         try go_wp2
         have n0_ := Aside0.mk (blk_drew BK262.out)
         have n1_ := Aside0.mk (blk_drew BK271.out)
         have n2_ := Aside0.mk (below_drew1 HB.out)
         clear BK262
         clear BK271
         clear HB
         have BK262 := n0_
         have BK271 := n1_
         have HB := n2_
         clear n0_ n1_ n2_
         refine start_ (n := 15) (S := fun w' => w'.cell? ⟨gb262, 0, none⟩ = some (.int .i64 a1_0) ∧ w'.cell? ⟨gb262, 1, none⟩ = some (.int .i64 a1_1)) (ds := []) #[false, false, false, false, false, false, false, false, false, false, false, false, false, false, false] (by kernel_rfl) rfl rfl ⟨(blk_cell BK262.out 0).trans rfl, (blk_cell BK262.out 1).trans rfl⟩ (fun hHeld => ?_); refine with_tabW comfitlaw06_TagsMore.tab12 comfitlaw06_TagsMore.bits12 (fun HT_ HW_ => ?_)
         generalize wr.drew = w44 at BK262 BK271 HB hHeld ⊢
         refine pure_ (i := 0) (N := some 72) (v := ?_) (a' := ?_) #[true, false, false, false, false, false, false, false, false, false, false, false, false, false, false] rfl rfl (any_of HT_.out (by kernel_rfl)) (fun _ _ _ h => h) (Or.inl ⟨by rfl, ?_⟩) ?_ ?_
         rotate_left
         ·intro w'
          go_simp
          with_reducible rfl
         rotate_left
         ·simp only [Act.put, List.setIfInBounds_toArray, List.set_cons_zero, List.set_cons_succ, i64_w, i32_w]
          rfl
         refine pure_ (i := 3) (N := some 75) (v := ?_) (a' := ?_) #[true, false, false, true, false, false, false, false, false, false, false, false, false, false, false] rfl rfl (any_of HT_.out (by kernel_rfl)) (fun _ _ _ h => h) (Or.inl ⟨by rfl, ?_⟩) ?_ ?_
         rotate_left
         ·intro w'
          go_simp
          with_reducible rfl
         rotate_left
         ·simp only [Act.put, List.setIfInBounds_toArray, List.set_cons_zero, List.set_cons_succ, i64_w, i32_w]
          rfl
         refine take_ (i := 2) (N := some 74) (v := ?_) (a' := ?_) #[true, false, true, true, false, false, false, false, false, false, false, false, false, false, false] rfl rfl (take_ofW HT_.out HW_.out (by kernel_rfl)) (fun _ _ _ h => h) (Or.inl ⟨by rfl, ?_⟩) hHeld ?_ ?_
         rotate_left
         ·rintro w' ⟨s0, s1⟩
          go_simp
          with_reducible rfl
         rotate_left
         ·simp only [Act.put, List.setIfInBounds_toArray, List.set_cons_zero, List.set_cons_succ, i64_w, i32_w]
          rfl
         refine join_ (σ := Value × Nat) 4 #[true, true, true, true, true, true, true, true, true, true, true, false, false, false, false] (fun s_ => [(73, s_.1), (76, .tuple #[.int .i64 t278, .agg #[.int .i64 t279, .int .i64 t280], .int .i64 t281, .int .i64 t282]), (16, .pointer (some ⟨s_.2, 0, none⟩)), (71, .tuple #[.int .i64 t278, .agg #[.int .i64 t279, .int .i64 t280], .int .i64 t281, .int .i64 t282]), (77, .int .i64 t278), (78, .agg #[.int .i64 t279, .int .i64 t280]), (79, .int .i64 t281), (80, .int .i64 t282)]) (fun s_ w' => (w'.cell? ⟨gb262, 0, none⟩ = some (.int .i64 a1_0) ∧ w'.cell? ⟨gb262, 1, none⟩ = some (.int .i64 a1_1)) ∧ (Kd.R k57 57 w' w.heap.size (fun _ => True) s_.1 t275) ∧ (w'.heap[gb262]? = some (.cells #[.int .i64 a1_0, .int .i64 a1_1] 23 (0, 0))) ∧ (w'.heap[gb271]? = some (.cells #[.int .i64 (wrap64 (a1_0 + (wrap64 (Int.tmod (IntKind.u64.wrap (a3)) 20)))), .int .i64 a1_1] 23 (0, 0))) ∧ (w'.heap[s_.2]? = some (.cells #[.int .i64 0, .int .i64 0] 23 (0, 0))) ∧ (w.heap.size ≤ s_.2) ∧ (w.heap.size ≤ s_.2) ∧ (gb262 ≠ s_.2) ∧ (s_.2 ≠ gb262) ∧ (gb271 ≠ s_.2) ∧ (s_.2 ≠ gb271) ∧ (Below w.heap.size w w')) ?_ ?_
         rotate_left
         ·intro hCont
          refine two_ (i := 1) (j := 10) (Ni := some 73) (Nj := some 16) #[true, true, true, true, false, false, false, false, false, false, false, false, false, false, false] #[true, false, true, true, false, false, false, false, false, false, true, false, false, false, false] rfl rfl rfl rfl (two_of HT_.out (by kernel_rfl)) (by decide) (by decide) (fun K hK => ?_) (fun K hK => ?_)
          ·skip
           refine goes_ Try.func11 (by kernel_rfl) rfl #[.slice A0 l0.length c0] (by rfl) rfl rfl al_ ?_
           with_reducible refine (comfitlaw06_Of.calls k2 _ _ l0 t275 _ ?side1 ?side2 A39.out).mono ?_
           (case side1 => exact kc_ (Kd.C_below HR0.out HB.out))
           (case side2 => exact HC0.out)
           rintro e w45 ⟨v276, rfl, ho0, hb⟩
           refine ⟨_, rfl, ?_⟩
           have n0_ := Aside0.mk (Kd.R_lower ho0 (below_size (hb_ HB.out)))
           have n1_ := Aside0.mk (bkb_ BK262.out hb)
           have n2_ := Aside0.mk (bkb_ BK271.out hb)
           have n3_ := Aside0.mk (below_step (hb_ HB.out) hb)
           clear BK262
           clear BK271
           clear HB
           have HO277 := n0_
           have BK262 := n1_
           have BK271 := n2_
           have HB := n3_
           clear n0_ n1_ n2_ n3_
           (try clear hb)
           (try clear hb2)
           (try clear hk)
           (try clear hi)
           (try clear ho0)
           obtain ⟨Ao46, co46, eo46⟩ := Kd.R_slice HO277.out
           (first | subst eo46 | (injection eo46 with f1_ f2_ f3_; have f4_ := f1_.symm; have f5_ := f3_.symm; clear f1_ f2_ f3_; subst f4_; subst f5_))
           refine hK.out _ _ ⟨(blk_cell BK262.out 0).trans rfl, (blk_cell BK262.out 1).trans rfl⟩ (fun hHeld => ?_)
           clear hK K
           refine norm_ (a' := ?_) ?_ ?_
           rotate_left
           ·show Act.put _ (some 73) _ = _
            simp only [Act.put, List.setIfInBounds_toArray, List.set_cons_zero, List.set_cons_succ, i64_w, i32_w]
            rfl
           refine two_ (i := 4) (j := 10) (Ni := some 76) (Nj := some 16) #[true, true, true, true, true, false, false, false, false, false, false, false, false, false, false] #[true, true, true, true, false, false, false, false, false, false, true, false, false, false, false] rfl rfl rfl rfl (two_of HT_.out (by kernel_rfl)) (by decide) (by decide) (fun K hK => ?_) (fun K hK => ?_)
           ·skip
            refine goes_ Try.func10 (by kernel_rfl) rfl #[.slice Ao46 t275.length co46, .agg #[.int .i64 a1_0, .int .i64 a1_1], .int .i64 x68_2] (by rfl) rfl rfl al_ ?_
            with_reducible refine (tags_Go.calls k2 _ _ t275 a1_0 a1_1 x68_2 t278 t279 t280 t281 t282 _ ?side1 ?side2 A40.out).mono ?_
            (case side1 => exact kc_ (Kd.R_reads' HO277.out).2.2)
            (case side2 => exact (Kd.R_reads' HO277.out).2.1)
            rintro e w47 ⟨rfl, hb⟩
            refine ⟨_, rfl, ?_⟩
            have n0_ := Aside0.mk (Kd.R_below (kr_ (HO277.out)) hb)
            have n1_ := Aside0.mk (bkb_ BK262.out hb)
            have n2_ := Aside0.mk (bkb_ BK271.out hb)
            have n3_ := Aside0.mk (below_step (hb_ HB.out) hb)
            clear HO277
            clear BK262
            clear BK271
            clear HB
            have HO277 := n0_
            have BK262 := n1_
            have BK271 := n2_
            have HB := n3_
            clear n0_ n1_ n2_ n3_
            (try clear hb)
            (try clear hb2)
            (try clear hk)
            (try clear hi)
            refine hK.out _ _ ⟨(blk_cell BK262.out 0).trans rfl, (blk_cell BK262.out 1).trans rfl⟩ (fun hHeld => ?_)
            clear hK K
            refine norm_ (a' := ?_) ?_ ?_
            rotate_left
            ·show Act.put _ (some 76) _ = _
             simp only [Act.put, List.setIfInBounds_toArray, List.set_cons_zero, List.set_cons_succ, i64_w, i32_w]
             rfl
            refine pure_ (i := 5) (N := some 71) (v := ?_) (a' := ?_) #[true, true, true, true, true, true, false, false, false, false, false, false, false, false, false] rfl rfl (any_of HT_.out (by kernel_rfl)) (fun _ _ _ h => h) (Or.inl ⟨by rfl, ?_⟩) ?_ ?_
            rotate_left
            ·intro w'
             go_simp
             with_reducible rfl
            rotate_left
            ·simp only [Act.put, List.setIfInBounds_toArray, List.set_cons_zero, List.set_cons_succ, i64_w, i32_w]
             rfl
            refine pure_ (i := 6) (N := some 77) (v := ?_) (a' := ?_) #[true, true, true, true, true, true, true, false, false, false, false, false, false, false, false] rfl rfl (any_of HT_.out (by kernel_rfl)) (fun _ _ _ h => h) (Or.inl ⟨by rfl, ?_⟩) ?_ ?_
            rotate_left
            ·intro w'
             go_simp
             with_reducible rfl
            rotate_left
            ·simp only [Act.put, List.setIfInBounds_toArray, List.set_cons_zero, List.set_cons_succ, i64_w, i32_w]
             rfl
            refine pure_ (i := 7) (N := some 78) (v := ?_) (a' := ?_) #[true, true, true, true, true, true, true, true, false, false, false, false, false, false, false] rfl rfl (any_of HT_.out (by kernel_rfl)) (fun _ _ _ h => h) (Or.inl ⟨by rfl, ?_⟩) ?_ ?_
            rotate_left
            ·intro w'
             go_simp
             with_reducible rfl
            rotate_left
            ·simp only [Act.put, List.setIfInBounds_toArray, List.set_cons_zero, List.set_cons_succ, i64_w, i32_w]
             rfl
            refine pure_ (i := 8) (N := some 79) (v := ?_) (a' := ?_) #[true, true, true, true, true, true, true, true, true, false, false, false, false, false, false] rfl rfl (any_of HT_.out (by kernel_rfl)) (fun _ _ _ h => h) (Or.inl ⟨by rfl, ?_⟩) ?_ ?_
            rotate_left
            ·intro w'
             go_simp
             with_reducible rfl
            rotate_left
            ·simp only [Act.put, List.setIfInBounds_toArray, List.set_cons_zero, List.set_cons_succ, i64_w, i32_w]
             rfl
            refine pure_ (i := 9) (N := some 80) (v := ?_) (a' := ?_) #[true, true, true, true, true, true, true, true, true, true, false, false, false, false, false] rfl rfl (any_of HT_.out (by kernel_rfl)) (fun _ _ _ h => h) (Or.inl ⟨by rfl, ?_⟩) ?_ ?_
            rotate_left
            ·intro w'
             go_simp
             with_reducible rfl
            rotate_left
            ·simp only [Act.put, List.setIfInBounds_toArray, List.set_cons_zero, List.set_cons_succ, i64_w, i32_w]
             rfl
            refine one_ (i := 10) (N := some 16) #[true, true, true, true, true, true, true, true, true, true, true, false, false, false, false] rfl rfl (one_of HT_.out (by kernel_rfl)) (by decide) (fun K hK => ?_)
            refine box_step ?hg (N := 16) ?hd (cs := #[.int .i64 0, .int .i64 0]) (t := 23) ?hr ?_; (case hd => rfl); (case hg => rfl); (case hr => first | (go_simp; done) | (go_simp; rfl))
            intro gb283 hg w48 hbox hb
            have n0_ := Aside0.mk (Kd.R_below (kr_ (HO277.out)) hb)
            have n1_ := Aside0.mk (bkb_ BK262.out hb)
            have n2_ := Aside0.mk (bkb_ BK271.out hb)
            have n3_ := Aside0.mk (below_step (hb_ HB.out) hb)
            have n4_ := Aside0.mk (hbox)
            have n5_ := Aside0.mk ((by rw [hg]; exact (below_size (hb_ HB.out)) : w.heap.size ≤ gb283))
            have n6_ := Aside0.mk ((by rw [hg]; exact (below_size (hb_ HB.out)) : w.heap.size ≤ gb283))
            have n7_ := Aside0.mk ((by rw [hg]; exact Nat.ne_of_lt (bkl_ BK262.out) : gb262 ≠ gb283))
            have n8_ := Aside0.mk ((by rw [hg]; exact Nat.ne_of_gt (bkl_ BK262.out) : gb283 ≠ gb262))
            have n9_ := Aside0.mk ((by rw [hg]; exact Nat.ne_of_lt (bkl_ BK271.out) : gb271 ≠ gb283))
            have n10_ := Aside0.mk ((by rw [hg]; exact Nat.ne_of_gt (bkl_ BK271.out) : gb283 ≠ gb271))
            clear HO277
            clear BK262
            clear BK271
            clear HB
            have HO277 := n0_
            have BK262 := n1_
            have BK271 := n2_
            have HB := n3_
            have BK283 := n4_
            have GW283 := n5_
            have GE283 := n6_
            have NB262_283 := n7_
            have NB283_262 := n8_
            have NB271_283 := n9_
            have NB283_271 := n10_
            clear n0_ n1_ n2_ n3_ n4_ n5_ n6_ n7_ n8_ n9_ n10_
            clear hb hbox hg
            refine hK.out _ _ ⟨(blk_cell BK262.out 0).trans rfl, (blk_cell BK262.out 1).trans rfl⟩ (fun hHeld => ?_)
            clear hK K
            refine norm_ (a' := ?_) ?_ ?_
            rotate_left
            ·show Act.put _ (some 16) _ = _
             simp only [Act.put, List.setIfInBounds_toArray, List.set_cons_zero, List.set_cons_succ, i64_w, i32_w]
             rfl
            exact norm_ (by simp only [putAll, Act.put, List.setIfInBounds_toArray, List.set_cons_zero, List.set_cons_succ]) (hCont (.slice Ao46 t275.length co46, gb283) _ ⟨hHeld, (kr_ (HO277.out)), (bk_ BK262.out), (bk_ BK271.out), (bk_ BK283.out), GW283.out, GE283.out, NB262_283.out, NB283_262.out, NB271_283.out, NB283_271.out, (hb_ HB.out)⟩)
           ·skip
            refine box_step ?hg (N := 16) ?hd (cs := #[.int .i64 0, .int .i64 0]) (t := 23) ?hr ?_; (case hd => rfl); (case hg => rfl); (case hr => first | (go_simp; done) | (go_simp; rfl))
            intro gb283 hg w46 hbox hb
            have n0_ := Aside0.mk (Kd.R_below (kr_ (HO277.out)) hb)
            have n1_ := Aside0.mk (bkb_ BK262.out hb)
            have n2_ := Aside0.mk (bkb_ BK271.out hb)
            have n3_ := Aside0.mk (below_step (hb_ HB.out) hb)
            have n4_ := Aside0.mk (hbox)
            have n5_ := Aside0.mk ((by rw [hg]; exact (below_size (hb_ HB.out)) : w.heap.size ≤ gb283))
            have n6_ := Aside0.mk ((by rw [hg]; exact (below_size (hb_ HB.out)) : w.heap.size ≤ gb283))
            have n7_ := Aside0.mk ((by rw [hg]; exact Nat.ne_of_lt (bkl_ BK262.out) : gb262 ≠ gb283))
            have n8_ := Aside0.mk ((by rw [hg]; exact Nat.ne_of_gt (bkl_ BK262.out) : gb283 ≠ gb262))
            have n9_ := Aside0.mk ((by rw [hg]; exact Nat.ne_of_lt (bkl_ BK271.out) : gb271 ≠ gb283))
            have n10_ := Aside0.mk ((by rw [hg]; exact Nat.ne_of_gt (bkl_ BK271.out) : gb283 ≠ gb271))
            clear HO277
            clear BK262
            clear BK271
            clear HB
            have HO277 := n0_
            have BK262 := n1_
            have BK271 := n2_
            have HB := n3_
            have BK283 := n4_
            have GW283 := n5_
            have GE283 := n6_
            have NB262_283 := n7_
            have NB283_262 := n8_
            have NB271_283 := n9_
            have NB283_271 := n10_
            clear n0_ n1_ n2_ n3_ n4_ n5_ n6_ n7_ n8_ n9_ n10_
            clear hb hbox hg
            obtain ⟨Ao47, co47, eo47⟩ := Kd.R_slice HO277.out
            (first | subst eo47 | (injection eo47 with f1_ f2_ f3_; have f4_ := f1_.symm; have f5_ := f3_.symm; clear f1_ f2_ f3_; subst f4_; subst f5_))
            refine hK.out _ _ ⟨(blk_cell BK262.out 0).trans rfl, (blk_cell BK262.out 1).trans rfl⟩ (fun hHeld => ?_)
            clear hK K
            refine norm_ (a' := ?_) ?_ ?_
            rotate_left
            ·show Act.put _ (some 16) _ = _
             simp only [Act.put, List.setIfInBounds_toArray, List.set_cons_zero, List.set_cons_succ, i64_w, i32_w]
             rfl
            refine one_ (i := 4) (N := some 76) #[true, true, true, true, true, false, false, false, false, false, true, false, false, false, false] rfl rfl (one_of HT_.out (by kernel_rfl)) (by decide) (fun K hK => ?_)
            refine goes_ Try.func10 (by kernel_rfl) rfl #[.slice Ao47 t275.length co47, .agg #[.int .i64 a1_0, .int .i64 a1_1], .int .i64 x68_2] (by rfl) rfl rfl al_ ?_
            with_reducible refine (tags_Go.calls k2 _ _ t275 a1_0 a1_1 x68_2 t278 t279 t280 t281 t282 _ ?side1 ?side2 A40.out).mono ?_
            (case side1 => exact kc_ (Kd.R_reads' HO277.out).2.2)
            (case side2 => exact (Kd.R_reads' HO277.out).2.1)
            rintro e w48 ⟨rfl, hb⟩
            refine ⟨_, rfl, ?_⟩
            have n0_ := Aside0.mk (Kd.R_below (kr_ (HO277.out)) hb)
            have n1_ := Aside0.mk (bkb_ BK262.out hb)
            have n2_ := Aside0.mk (bkb_ BK271.out hb)
            have n3_ := Aside0.mk (bkb_ BK283.out hb)
            have n4_ := Aside0.mk (below_step (hb_ HB.out) hb)
            clear HO277
            clear BK262
            clear BK271
            clear BK283
            clear HB
            have HO277 := n0_
            have BK262 := n1_
            have BK271 := n2_
            have BK283 := n3_
            have HB := n4_
            clear n0_ n1_ n2_ n3_ n4_
            (try clear hb)
            (try clear hb2)
            (try clear hk)
            (try clear hi)
            refine hK.out _ _ ⟨(blk_cell BK262.out 0).trans rfl, (blk_cell BK262.out 1).trans rfl⟩ (fun hHeld => ?_)
            clear hK K
            refine norm_ (a' := ?_) ?_ ?_
            rotate_left
            ·show Act.put _ (some 76) _ = _
             simp only [Act.put, List.setIfInBounds_toArray, List.set_cons_zero, List.set_cons_succ, i64_w, i32_w]
             rfl
            refine pure_ (i := 5) (N := some 71) (v := ?_) (a' := ?_) #[true, true, true, true, true, true, false, false, false, false, true, false, false, false, false] rfl rfl (any_of HT_.out (by kernel_rfl)) (fun _ _ _ h => h) (Or.inl ⟨by rfl, ?_⟩) ?_ ?_
            rotate_left
            ·intro w'
             go_simp
             with_reducible rfl
            rotate_left
            ·simp only [Act.put, List.setIfInBounds_toArray, List.set_cons_zero, List.set_cons_succ, i64_w, i32_w]
             rfl
            refine pure_ (i := 6) (N := some 77) (v := ?_) (a' := ?_) #[true, true, true, true, true, true, true, false, false, false, true, false, false, false, false] rfl rfl (any_of HT_.out (by kernel_rfl)) (fun _ _ _ h => h) (Or.inl ⟨by rfl, ?_⟩) ?_ ?_
            rotate_left
            ·intro w'
             go_simp
             with_reducible rfl
            rotate_left
            ·simp only [Act.put, List.setIfInBounds_toArray, List.set_cons_zero, List.set_cons_succ, i64_w, i32_w]
             rfl
            refine pure_ (i := 7) (N := some 78) (v := ?_) (a' := ?_) #[true, true, true, true, true, true, true, true, false, false, true, false, false, false, false] rfl rfl (any_of HT_.out (by kernel_rfl)) (fun _ _ _ h => h) (Or.inl ⟨by rfl, ?_⟩) ?_ ?_
            rotate_left
            ·intro w'
             go_simp
             with_reducible rfl
            rotate_left
            ·simp only [Act.put, List.setIfInBounds_toArray, List.set_cons_zero, List.set_cons_succ, i64_w, i32_w]
             rfl
            refine pure_ (i := 8) (N := some 79) (v := ?_) (a' := ?_) #[true, true, true, true, true, true, true, true, true, false, true, false, false, false, false] rfl rfl (any_of HT_.out (by kernel_rfl)) (fun _ _ _ h => h) (Or.inl ⟨by rfl, ?_⟩) ?_ ?_
            rotate_left
            ·intro w'
             go_simp
             with_reducible rfl
            rotate_left
            ·simp only [Act.put, List.setIfInBounds_toArray, List.set_cons_zero, List.set_cons_succ, i64_w, i32_w]
             rfl
            refine pure_ (i := 9) (N := some 80) (v := ?_) (a' := ?_) #[true, true, true, true, true, true, true, true, true, true, true, false, false, false, false] rfl rfl (any_of HT_.out (by kernel_rfl)) (fun _ _ _ h => h) (Or.inl ⟨by rfl, ?_⟩) ?_ ?_
            rotate_left
            ·intro w'
             go_simp
             with_reducible rfl
            rotate_left
            ·simp only [Act.put, List.setIfInBounds_toArray, List.set_cons_zero, List.set_cons_succ, i64_w, i32_w]
             rfl
            exact norm_ (by simp only [putAll, Act.put, List.setIfInBounds_toArray, List.set_cons_zero, List.set_cons_succ]) (hCont (.slice Ao47 t275.length co47, gb283) _ ⟨hHeld, (kr_ (HO277.out)), (bk_ BK262.out), (bk_ BK271.out), (bk_ BK283.out), GW283.out, GE283.out, NB262_283.out, NB283_262.out, NB271_283.out, NB283_271.out, (hb_ HB.out)⟩)
          ·skip
           refine box_step ?hg (N := 16) ?hd (cs := #[.int .i64 0, .int .i64 0]) (t := 23) ?hr ?_; (case hd => rfl); (case hg => rfl); (case hr => first | (go_simp; done) | (go_simp; rfl))
           intro gb283 hg w45 hbox hb
           have n0_ := Aside0.mk (bkb_ BK262.out hb)
           have n1_ := Aside0.mk (bkb_ BK271.out hb)
           have n2_ := Aside0.mk (below_step (hb_ HB.out) hb)
           have n3_ := Aside0.mk (hbox)
           have n4_ := Aside0.mk ((by rw [hg]; exact (below_size (hb_ HB.out)) : w.heap.size ≤ gb283))
           have n5_ := Aside0.mk ((by rw [hg]; exact (below_size (hb_ HB.out)) : w.heap.size ≤ gb283))
           have n6_ := Aside0.mk ((by rw [hg]; exact Nat.ne_of_lt (bkl_ BK262.out) : gb262 ≠ gb283))
           have n7_ := Aside0.mk ((by rw [hg]; exact Nat.ne_of_gt (bkl_ BK262.out) : gb283 ≠ gb262))
           have n8_ := Aside0.mk ((by rw [hg]; exact Nat.ne_of_lt (bkl_ BK271.out) : gb271 ≠ gb283))
           have n9_ := Aside0.mk ((by rw [hg]; exact Nat.ne_of_gt (bkl_ BK271.out) : gb283 ≠ gb271))
           clear BK262
           clear BK271
           clear HB
           have BK262 := n0_
           have BK271 := n1_
           have HB := n2_
           have BK283 := n3_
           have GW283 := n4_
           have GE283 := n5_
           have NB262_283 := n6_
           have NB283_262 := n7_
           have NB271_283 := n8_
           have NB283_271 := n9_
           clear n0_ n1_ n2_ n3_ n4_ n5_ n6_ n7_ n8_ n9_
           clear hb hbox hg
           refine hK.out _ _ ⟨(blk_cell BK262.out 0).trans rfl, (blk_cell BK262.out 1).trans rfl⟩ (fun hHeld => ?_)
           clear hK K
           refine norm_ (a' := ?_) ?_ ?_
           rotate_left
           ·show Act.put _ (some 16) _ = _
            simp only [Act.put, List.setIfInBounds_toArray, List.set_cons_zero, List.set_cons_succ, i64_w, i32_w]
            rfl
           refine one_ (i := 1) (N := some 73) #[true, true, true, true, false, false, false, false, false, false, true, false, false, false, false] rfl rfl (one_of HT_.out (by kernel_rfl)) (by decide) (fun K hK => ?_)
           refine goes_ Try.func11 (by kernel_rfl) rfl #[.slice A0 l0.length c0] (by rfl) rfl rfl al_ ?_
           with_reducible refine (comfitlaw06_Of.calls k2 _ _ l0 t275 _ ?side1 ?side2 A39.out).mono ?_
           (case side1 => exact kc_ (Kd.C_below HR0.out HB.out))
           (case side2 => exact HC0.out)
           rintro e w46 ⟨v276, rfl, ho0, hb⟩
           refine ⟨_, rfl, ?_⟩
           have n0_ := Aside0.mk (Kd.R_lower ho0 (below_size (hb_ HB.out)))
           have n1_ := Aside0.mk (bkb_ BK262.out hb)
           have n2_ := Aside0.mk (bkb_ BK271.out hb)
           have n3_ := Aside0.mk (bkb_ BK283.out hb)
           have n4_ := Aside0.mk (below_step (hb_ HB.out) hb)
           clear BK262
           clear BK271
           clear BK283
           clear HB
           have HO277 := n0_
           have BK262 := n1_
           have BK271 := n2_
           have BK283 := n3_
           have HB := n4_
           clear n0_ n1_ n2_ n3_ n4_
           (try clear hb)
           (try clear hb2)
           (try clear hk)
           (try clear hi)
           (try clear ho0)
           obtain ⟨Ao47, co47, eo47⟩ := Kd.R_slice HO277.out
           (first | subst eo47 | (injection eo47 with f1_ f2_ f3_; have f4_ := f1_.symm; have f5_ := f3_.symm; clear f1_ f2_ f3_; subst f4_; subst f5_))
           refine hK.out _ _ ⟨(blk_cell BK262.out 0).trans rfl, (blk_cell BK262.out 1).trans rfl⟩ (fun hHeld => ?_)
           clear hK K
           refine norm_ (a' := ?_) ?_ ?_
           rotate_left
           ·show Act.put _ (some 73) _ = _
            simp only [Act.put, List.setIfInBounds_toArray, List.set_cons_zero, List.set_cons_succ, i64_w, i32_w]
            rfl
           refine one_ (i := 4) (N := some 76) #[true, true, true, true, true, false, false, false, false, false, true, false, false, false, false] rfl rfl (one_of HT_.out (by kernel_rfl)) (by decide) (fun K hK => ?_)
           refine goes_ Try.func10 (by kernel_rfl) rfl #[.slice Ao47 t275.length co47, .agg #[.int .i64 a1_0, .int .i64 a1_1], .int .i64 x68_2] (by rfl) rfl rfl al_ ?_
           with_reducible refine (tags_Go.calls k2 _ _ t275 a1_0 a1_1 x68_2 t278 t279 t280 t281 t282 _ ?side1 ?side2 A40.out).mono ?_
           (case side1 => exact kc_ (Kd.R_reads' HO277.out).2.2)
           (case side2 => exact (Kd.R_reads' HO277.out).2.1)
           rintro e w48 ⟨rfl, hb⟩
           refine ⟨_, rfl, ?_⟩
           have n0_ := Aside0.mk (Kd.R_below (kr_ (HO277.out)) hb)
           have n1_ := Aside0.mk (bkb_ BK262.out hb)
           have n2_ := Aside0.mk (bkb_ BK271.out hb)
           have n3_ := Aside0.mk (bkb_ BK283.out hb)
           have n4_ := Aside0.mk (below_step (hb_ HB.out) hb)
           clear HO277
           clear BK262
           clear BK271
           clear BK283
           clear HB
           have HO277 := n0_
           have BK262 := n1_
           have BK271 := n2_
           have BK283 := n3_
           have HB := n4_
           clear n0_ n1_ n2_ n3_ n4_
           (try clear hb)
           (try clear hb2)
           (try clear hk)
           (try clear hi)
           refine hK.out _ _ ⟨(blk_cell BK262.out 0).trans rfl, (blk_cell BK262.out 1).trans rfl⟩ (fun hHeld => ?_)
           clear hK K
           refine norm_ (a' := ?_) ?_ ?_
           rotate_left
           ·show Act.put _ (some 76) _ = _
            simp only [Act.put, List.setIfInBounds_toArray, List.set_cons_zero, List.set_cons_succ, i64_w, i32_w]
            rfl
           refine pure_ (i := 5) (N := some 71) (v := ?_) (a' := ?_) #[true, true, true, true, true, true, false, false, false, false, true, false, false, false, false] rfl rfl (any_of HT_.out (by kernel_rfl)) (fun _ _ _ h => h) (Or.inl ⟨by rfl, ?_⟩) ?_ ?_
           rotate_left
           ·intro w'
            go_simp
            with_reducible rfl
           rotate_left
           ·simp only [Act.put, List.setIfInBounds_toArray, List.set_cons_zero, List.set_cons_succ, i64_w, i32_w]
            rfl
           refine pure_ (i := 6) (N := some 77) (v := ?_) (a' := ?_) #[true, true, true, true, true, true, true, false, false, false, true, false, false, false, false] rfl rfl (any_of HT_.out (by kernel_rfl)) (fun _ _ _ h => h) (Or.inl ⟨by rfl, ?_⟩) ?_ ?_
           rotate_left
           ·intro w'
            go_simp
            with_reducible rfl
           rotate_left
           ·simp only [Act.put, List.setIfInBounds_toArray, List.set_cons_zero, List.set_cons_succ, i64_w, i32_w]
            rfl
           refine pure_ (i := 7) (N := some 78) (v := ?_) (a' := ?_) #[true, true, true, true, true, true, true, true, false, false, true, false, false, false, false] rfl rfl (any_of HT_.out (by kernel_rfl)) (fun _ _ _ h => h) (Or.inl ⟨by rfl, ?_⟩) ?_ ?_
           rotate_left
           ·intro w'
            go_simp
            with_reducible rfl
           rotate_left
           ·simp only [Act.put, List.setIfInBounds_toArray, List.set_cons_zero, List.set_cons_succ, i64_w, i32_w]
            rfl
           refine pure_ (i := 8) (N := some 79) (v := ?_) (a' := ?_) #[true, true, true, true, true, true, true, true, true, false, true, false, false, false, false] rfl rfl (any_of HT_.out (by kernel_rfl)) (fun _ _ _ h => h) (Or.inl ⟨by rfl, ?_⟩) ?_ ?_
           rotate_left
           ·intro w'
            go_simp
            with_reducible rfl
           rotate_left
           ·simp only [Act.put, List.setIfInBounds_toArray, List.set_cons_zero, List.set_cons_succ, i64_w, i32_w]
            rfl
           refine pure_ (i := 9) (N := some 80) (v := ?_) (a' := ?_) #[true, true, true, true, true, true, true, true, true, true, true, false, false, false, false] rfl rfl (any_of HT_.out (by kernel_rfl)) (fun _ _ _ h => h) (Or.inl ⟨by rfl, ?_⟩) ?_ ?_
           rotate_left
           ·intro w'
            go_simp
            with_reducible rfl
           rotate_left
           ·simp only [Act.put, List.setIfInBounds_toArray, List.set_cons_zero, List.set_cons_succ, i64_w, i32_w]
            rfl
           exact norm_ (by simp only [putAll, Act.put, List.setIfInBounds_toArray, List.set_cons_zero, List.set_cons_succ]) (hCont (.slice Ao47 t275.length co47, gb283) _ ⟨hHeld, (kr_ (HO277.out)), (bk_ BK262.out), (bk_ BK271.out), (bk_ BK283.out), GW283.out, GE283.out, NB262_283.out, NB283_262.out, NB271_283.out, NB283_271.out, (hb_ HB.out)⟩)
         rintro ⟨v276, gb283⟩ w49 ⟨hS_, h0_, h1_, h2_, h3_, h4_, h5_, h6_, h7_, h8_, h9_, h10_⟩
         have n0_ : Aside0 (Kd.R k57 57 w49 w.heap.size (fun _ => True) v276 t275) := ⟨h0_⟩
         have n1_ : Aside0 (w49.heap[gb262]? = some (.cells #[.int .i64 a1_0, .int .i64 a1_1] 23 (0, 0))) := ⟨h1_⟩
         have n2_ : Aside0 (w49.heap[gb271]? = some (.cells #[.int .i64 (wrap64 (a1_0 + (wrap64 (Int.tmod (IntKind.u64.wrap (a3)) 20)))), .int .i64 a1_1] 23 (0, 0))) := ⟨h2_⟩
         have n3_ : Aside0 (w49.heap[gb283]? = some (.cells #[.int .i64 0, .int .i64 0] 23 (0, 0))) := ⟨h3_⟩
         have n4_ : Aside0 (w.heap.size ≤ gb283) := ⟨h4_⟩
         have n5_ : Aside0 (w.heap.size ≤ gb283) := ⟨h5_⟩
         have n6_ : Aside0 (gb262 ≠ gb283) := ⟨h6_⟩
         have n7_ : Aside0 (gb283 ≠ gb262) := ⟨h7_⟩
         have n8_ : Aside0 (gb271 ≠ gb283) := ⟨h8_⟩
         have n9_ : Aside0 (gb283 ≠ gb271) := ⟨h9_⟩
         have n10_ : Aside0 (Below w.heap.size w w49) := ⟨h10_⟩
         clear BK262
         clear BK271
         clear HB
         clear h0_ h1_ h2_ h3_ h4_ h5_ h6_ h7_ h8_ h9_ h10_
         have HO277 := n0_
         have BK262 := n1_
         have BK271 := n2_
         have BK283 := n3_
         have GW283 := n4_
         have GE283 := n5_
         have NB262_283 := n6_
         have NB283_262 := n7_
         have NB271_283 := n8_
         have NB283_271 := n9_
         have HB := n10_
         clear n0_ n1_ n2_ n3_ n4_ n5_ n6_ n7_ n8_ n9_ n10_
         have hHeld : w49.cell? ⟨gb262, 0, none⟩ = some (.int .i64 a1_0) ∧ w49.cell? ⟨gb262, 1, none⟩ = some (.int .i64 a1_1) := hS_
         refine norm_ (a' := ?_) ?_ ?_
         rotate_left
         ·simp only [putAll, Act.put, List.setIfInBounds_toArray, List.set_cons_zero, List.set_cons_succ]
          rfl
         refine pure_ (i := 11) (N := some 15) (v := ?_) (a' := ?_) #[true, true, true, true, true, true, true, true, true, true, true, true, false, false, false] rfl rfl (any_of HT_.out (by kernel_rfl)) (fun _ _ _ h => h) (Or.inl ⟨by rfl, ?_⟩) ?_ ?_
         rotate_left
         ·intro w'
          go_simp
          with_reducible rfl
         rotate_left
         ·simp only [Act.put, List.setIfInBounds_toArray, List.set_cons_zero, List.set_cons_succ, i64_w, i32_w]
          rfl
         refine one_ (i := 12) (N := none) #[true, true, true, true, true, true, true, true, true, true, true, true, true, false, false] rfl rfl (one_of HT_.out (by kernel_rfl)) (by decide) (fun K hK => ?_)
         have hs50 : w49.cell? ⟨gb283, 0, none⟩ = some (.int .i64 0) := (blk_cell BK283.out 0).trans rfl
         have hfs50 := blk_frozen BK283.out 0
         have hns50_0 := NB262_283.out
         have hns50_1 := NB271_283.out
         have hms50_0 := NB283_262.out
         have hms50_1 := NB283_271.out
         have hs51 : w49.cell? ⟨gb283, 1, none⟩ = some (.int .i64 0) := (blk_cell BK283.out 1).trans rfl
         have hfs51 := blk_frozen BK283.out 1
         have hns51_0 := NB262_283.out
         have hns51_1 := NB271_283.out
         have hms51_0 := NB283_262.out
         have hms51_1 := NB283_271.out
         refine skip_ (w1 := ?_) (by rfl) rfl ?_ ?_
         rotate_left
         ·go_simp
          rfl
         refine hK.out _ _ ⟨((cell_far (p := ⟨gb283, _, none⟩) NB262_283.out _).trans (((cell_far (p := ⟨gb283, _, none⟩) NB262_283.out _).trans (hHeld.1)))), ((cell_far (p := ⟨gb283, _, none⟩) NB262_283.out _).trans (((cell_far (p := ⟨gb283, _, none⟩) NB262_283.out _).trans (hHeld.2))))⟩ (fun hHeld => ?_)
         clear hK K
         refine pure_ (i := 13) (N := some 17) (v := ?_) (a' := ?_) #[true, true, true, true, true, true, true, true, true, true, true, true, true, true, false] rfl rfl (any_of HT_.out (by kernel_rfl)) (fun _ _ _ h => h) (Or.inl ⟨by rfl, ?_⟩) ?_ ?_
         rotate_left
         ·intro w'
          go_simp
          with_reducible rfl
         rotate_left
         ·simp only [Act.put, List.setIfInBounds_toArray, List.set_cons_zero, List.set_cons_succ, i64_w, i32_w]
          rfl
         refine pure_ (i := 14) (N := some 18) (v := ?_) (a' := ?_) #[true, true, true, true, true, true, true, true, true, true, true, true, true, true, true] rfl rfl (any_of HT_.out (by kernel_rfl)) (fun _ _ _ h => h) (Or.inl ⟨by rfl, ?_⟩) ?_ ?_
         rotate_left
         ·intro w'
          go_simp
          with_reducible rfl
         rotate_left
         ·simp only [Act.put, List.setIfInBounds_toArray, List.set_cons_zero, List.set_cons_succ, i64_w, i32_w]
          rfl
         refine done_ (done_of HT_.out (by kernel_rfl)) ?_
         try go_wp2
         have n0_ : Aside0 (Kd.R k57 57 ((w49.setCell ⟨gb283, 0, none⟩ (.int .i64 t279)).setCell ⟨gb283, 1, none⟩ (.int .i64 t280)) w.heap.size (fun _ => True) v276 t275) := ⟨by (with_reducible repeat (first | apply Kd.R_alloc | apply Kd.R_drewN | apply Kd.R_drew)); exact Kd.R_mono (Kd.R_far (p := ⟨gb283, 1, none⟩) (Kd.R_far (p := ⟨gb283, 0, none⟩) (Kd.R_types HO277.out BK283.out (by decide)) (fun _ hk => hk.2) (.int .i64 t279)) (fun _ hk => hk.2) (.int .i64 t280)) (fun _ hk => trivial)⟩
         have n1_ : Aside0 (((w49.setCell ⟨gb283, 0, none⟩ (.int .i64 t279)).setCell ⟨gb283, 1, none⟩ (.int .i64 t280)).heap[gb262]? = some (.cells #[.int .i64 a1_0, .int .i64 a1_1] 23 (0, 0))) := ⟨bk_ (blk_far (bk_ (blk_far (bk_ BK262.out) NB262_283.out _)) NB262_283.out _)⟩
         have n2_ : Aside0 (((w49.setCell ⟨gb283, 0, none⟩ (.int .i64 t279)).setCell ⟨gb283, 1, none⟩ (.int .i64 t280)).heap[gb271]? = some (.cells #[.int .i64 (wrap64 (a1_0 + (wrap64 (Int.tmod (IntKind.u64.wrap (a3)) 20)))), .int .i64 a1_1] 23 (0, 0))) := ⟨bk_ (blk_far (bk_ (blk_far (bk_ BK271.out) NB271_283.out _)) NB271_283.out _)⟩
         have n3_ : Aside0 (((w49.setCell ⟨gb283, 0, none⟩ (.int .i64 t279)).setCell ⟨gb283, 1, none⟩ (.int .i64 t280)).heap[gb283]? = some (.cells #[.int .i64 t279, .int .i64 t280] 23 (0, 0))) := ⟨by (with_reducible repeat (first | refine blk_drewN ?_ _ | refine blk_drew ?_ | refine blk_alloc ?_ _)); refine blk_put (cs := #[.int .i64 t279, .int .i64 0]) ?_ 1 _ rfl; (with_reducible repeat (first | refine blk_drewN ?_ _ | refine blk_drew ?_ | refine blk_alloc ?_ _)); refine blk_put (cs := #[.int .i64 0, .int .i64 0]) ?_ 0 _ rfl; (with_reducible repeat (first | refine blk_drewN ?_ _ | refine blk_drew ?_ | refine blk_alloc ?_ _)); exact BK283.out⟩
         have n4_ : Aside0 (Below w.heap.size w ((w49.setCell ⟨gb283, 0, none⟩ (.int .i64 t279)).setCell ⟨gb283, 1, none⟩ (.int .i64 t280))) := ⟨hb_ HB.out⟩
         (try clear HO277)
         (try clear BK262)
         (try clear BK271)
         (try clear BK283)
         (try clear HB)
         generalize ((w49.setCell ⟨gb283, 0, none⟩ (.int .i64 t279)).setCell ⟨gb283, 1, none⟩ (.int .i64 t280)) = w52 at n0_ n1_ n2_ n3_ n4_ ⊢
         have HO277 := n0_
         have BK262 := n1_
         have BK271 := n2_
         have BK283 := n3_
         have HB := n4_
         clear n0_ n1_ n2_ n3_ n4_
         have n0_ := Aside0.mk (Kd.R_drew HO277.out)
         have n1_ := Aside0.mk (blk_drew BK262.out)
         have n2_ := Aside0.mk (blk_drew BK271.out)
         have n3_ := Aside0.mk (blk_drew BK283.out)
         have n4_ := Aside0.mk (below_drew1 HB.out)
         clear HO277
         clear BK262
         clear BK271
         clear BK283
         clear HB
         have HO277 := n0_
         have BK262 := n1_
         have BK271 := n2_
         have BK283 := n3_
         have HB := n4_
         clear n0_ n1_ n2_ n3_ n4_
         refine start_ (n := 15) (S := fun w' => w'.cell? ⟨gb271, 0, none⟩ = some (.int .i64 (wrap64 (a1_0 + (wrap64 (Int.tmod (IntKind.u64.wrap (a3)) 20))))) ∧ w'.cell? ⟨gb271, 1, none⟩ = some (.int .i64 a1_1)) (ds := []) #[false, false, false, false, false, false, false, false, false, false, false, false, false, false, false] (by kernel_rfl) rfl rfl ⟨(blk_cell BK271.out 0).trans rfl, (blk_cell BK271.out 1).trans rfl⟩ (fun hHeld => ?_); refine with_tabW comfitlaw06_TagsMore.tab13 comfitlaw06_TagsMore.bits13 (fun HT_ HW_ => ?_)
         generalize w52.drew = w53 at HO277 BK262 BK271 BK283 HB hHeld ⊢
         refine pure_ (i := 0) (N := some 82) (v := ?_) (a' := ?_) #[true, false, false, false, false, false, false, false, false, false, false, false, false, false, false] rfl rfl (any_of HT_.out (by kernel_rfl)) (fun _ _ _ h => h) (Or.inl ⟨by rfl, ?_⟩) ?_ ?_
         rotate_left
         ·intro w'
          go_simp
          with_reducible rfl
         rotate_left
         ·simp only [Act.put, List.setIfInBounds_toArray, List.set_cons_zero, List.set_cons_succ, i64_w, i32_w]
          rfl
         refine pure_ (i := 3) (N := some 85) (v := ?_) (a' := ?_) #[true, false, false, true, false, false, false, false, false, false, false, false, false, false, false] rfl rfl (any_of HT_.out (by kernel_rfl)) (fun _ _ _ h => h) (Or.inl ⟨by rfl, ?_⟩) ?_ ?_
         rotate_left
         ·intro w'
          go_simp
          with_reducible rfl
         rotate_left
         ·simp only [Act.put, List.setIfInBounds_toArray, List.set_cons_zero, List.set_cons_succ, i64_w, i32_w]
          rfl
         refine take_ (i := 2) (N := some 84) (v := ?_) (a' := ?_) #[true, false, true, true, false, false, false, false, false, false, false, false, false, false, false] rfl rfl (take_ofW HT_.out HW_.out (by kernel_rfl)) (fun _ _ _ h => h) (Or.inl ⟨by rfl, ?_⟩) hHeld ?_ ?_
         rotate_left
         ·rintro w' ⟨s0, s1⟩
          go_simp
          with_reducible rfl
         rotate_left
         ·simp only [Act.put, List.setIfInBounds_toArray, List.set_cons_zero, List.set_cons_succ, i64_w, i32_w]
          rfl
         refine join_ (σ := Value × Nat) 4 #[true, true, true, true, true, true, true, true, true, true, true, false, false, false, false] (fun s_ => [(83, s_.1), (86, .tuple #[.int .i64 t287, .agg #[.int .i64 t288, .int .i64 t289], .int .i64 t290, .int .i64 t291]), (20, .pointer (some ⟨s_.2, 0, none⟩)), (81, .tuple #[.int .i64 t287, .agg #[.int .i64 t288, .int .i64 t289], .int .i64 t290, .int .i64 t291]), (87, .int .i64 t287), (88, .agg #[.int .i64 t288, .int .i64 t289]), (89, .int .i64 t290), (90, .int .i64 t291)]) (fun s_ w' => (w'.cell? ⟨gb271, 0, none⟩ = some (.int .i64 (wrap64 (a1_0 + (wrap64 (Int.tmod (IntKind.u64.wrap (a3)) 20))))) ∧ w'.cell? ⟨gb271, 1, none⟩ = some (.int .i64 a1_1)) ∧ (Kd.R k57 57 w' w.heap.size (fun k_ => some k_ ≠ (s_.1 : Value).ownBlock) v276 t275) ∧ (Kd.R k57 57 w' w.heap.size (fun k_ => some k_ ≠ (v276 : Value).ownBlock) s_.1 t284) ∧ (w'.heap[gb262]? = some (.cells #[.int .i64 a1_0, .int .i64 a1_1] 23 (0, 0))) ∧ (w'.heap[gb271]? = some (.cells #[.int .i64 (wrap64 (a1_0 + (wrap64 (Int.tmod (IntKind.u64.wrap (a3)) 20)))), .int .i64 a1_1] 23 (0, 0))) ∧ (w'.heap[gb283]? = some (.cells #[.int .i64 t279, .int .i64 t280] 23 (0, 0))) ∧ (w'.heap[s_.2]? = some (.cells #[.int .i64 0, .int .i64 0] 23 (0, 0))) ∧ (w.heap.size ≤ s_.2) ∧ (w.heap.size ≤ s_.2) ∧ (gb262 ≠ s_.2) ∧ (s_.2 ≠ gb262) ∧ (gb271 ≠ s_.2) ∧ (s_.2 ≠ gb271) ∧ (gb283 ≠ s_.2) ∧ (s_.2 ≠ gb283) ∧ (Below w.heap.size w w')) ?_ ?_
         rotate_left
         ·intro hCont
          refine two_ (i := 1) (j := 10) (Ni := some 83) (Nj := some 20) #[true, true, true, true, false, false, false, false, false, false, false, false, false, false, false] #[true, false, true, true, false, false, false, false, false, false, true, false, false, false, false] rfl rfl rfl rfl (two_of HT_.out (by kernel_rfl)) (by decide) (by decide) (fun K hK => ?_) (fun K hK => ?_)
          ·skip
           refine goes_ Try.func11 (by kernel_rfl) rfl #[.slice A0 l0.length c0] (by rfl) rfl rfl al_ ?_
           with_reducible refine (comfitlaw06_Of.calls k2 _ _ l0 t284 _ ?side1 ?side2 A41.out).mono ?_
           (case side1 => exact kc_ (Kd.C_below HR0.out HB.out))
           (case side2 => exact HC0.out)
           rintro e w54 ⟨v285, rfl, ho0, hb⟩
           refine ⟨_, rfl, ?_⟩
           have n0_ := Aside0.mk (Kd.R_elder' (kr_ (HO277.out)) (Kd.R_base ho0) hb)
           have n1_ := Aside0.mk (Kd.R_lower (Kd.R_new' ho0 (Kd.R_lt (kr_ (HO277.out)))) (below_size (hb_ HB.out)))
           have n2_ := Aside0.mk (bkb_ BK262.out hb)
           have n3_ := Aside0.mk (bkb_ BK271.out hb)
           have n4_ := Aside0.mk (bkb_ BK283.out hb)
           have n5_ := Aside0.mk (below_step (hb_ HB.out) hb)
           clear HO277
           clear BK262
           clear BK271
           clear BK283
           clear HB
           have HO277 := n0_
           have HO286 := n1_
           have BK262 := n2_
           have BK271 := n3_
           have BK283 := n4_
           have HB := n5_
           clear n0_ n1_ n2_ n3_ n4_ n5_
           (try clear hb)
           (try clear hb2)
           (try clear hk)
           (try clear hi)
           (try clear ho0)
           obtain ⟨Ao55, co55, eo55⟩ := Kd.R_slice HO286.out
           (first | subst eo55 | (injection eo55 with f1_ f2_ f3_; have f4_ := f1_.symm; have f5_ := f3_.symm; clear f1_ f2_ f3_; subst f4_; subst f5_))
           refine hK.out _ _ ⟨(blk_cell BK271.out 0).trans rfl, (blk_cell BK271.out 1).trans rfl⟩ (fun hHeld => ?_)
           clear hK K
           refine norm_ (a' := ?_) ?_ ?_
           rotate_left
           ·show Act.put _ (some 83) _ = _
            simp only [Act.put, List.setIfInBounds_toArray, List.set_cons_zero, List.set_cons_succ, i64_w, i32_w]
            rfl
           refine two_ (i := 4) (j := 10) (Ni := some 86) (Nj := some 20) #[true, true, true, true, true, false, false, false, false, false, false, false, false, false, false] #[true, true, true, true, false, false, false, false, false, false, true, false, false, false, false] rfl rfl rfl rfl (two_of HT_.out (by kernel_rfl)) (by decide) (by decide) (fun K hK => ?_) (fun K hK => ?_)
           ·skip
            refine goes_ Try.func10 (by kernel_rfl) rfl #[.slice Ao55 t284.length co55, .agg #[.int .i64 (wrap64 (a1_0 + (wrap64 (Int.tmod (IntKind.u64.wrap (a3)) 20)))), .int .i64 a1_1], .int .i64 x68_2] (by rfl) rfl rfl al_ ?_
            with_reducible refine (tags_Go.calls k2 _ _ t284 (wrap64 (a1_0 + (wrap64 (Int.tmod (IntKind.u64.wrap (a3)) 20)))) a1_1 x68_2 t287 t288 t289 t290 t291 _ ?side1 ?side2 A42.out).mono ?_
            (case side1 => exact kc_ (Kd.R_reads' HO286.out).2.2)
            (case side2 => exact (Kd.R_reads' HO286.out).2.1)
            rintro e w56 ⟨rfl, hb⟩
            refine ⟨_, rfl, ?_⟩
            have n0_ := Aside0.mk (Kd.R_below (kr_ (HO277.out)) hb)
            have n1_ := Aside0.mk (Kd.R_below (kr_ (HO286.out)) hb)
            have n2_ := Aside0.mk (bkb_ BK262.out hb)
            have n3_ := Aside0.mk (bkb_ BK271.out hb)
            have n4_ := Aside0.mk (bkb_ BK283.out hb)
            have n5_ := Aside0.mk (below_step (hb_ HB.out) hb)
            clear HO277
            clear HO286
            clear BK262
            clear BK271
            clear BK283
            clear HB
            have HO277 := n0_
            have HO286 := n1_
            have BK262 := n2_
            have BK271 := n3_
            have BK283 := n4_
            have HB := n5_
            clear n0_ n1_ n2_ n3_ n4_ n5_
            (try clear hb)
            (try clear hb2)
            (try clear hk)
            (try clear hi)
            refine hK.out _ _ ⟨(blk_cell BK271.out 0).trans rfl, (blk_cell BK271.out 1).trans rfl⟩ (fun hHeld => ?_)
            clear hK K
            refine norm_ (a' := ?_) ?_ ?_
            rotate_left
            ·show Act.put _ (some 86) _ = _
             simp only [Act.put, List.setIfInBounds_toArray, List.set_cons_zero, List.set_cons_succ, i64_w, i32_w]
             rfl
            refine pure_ (i := 5) (N := some 81) (v := ?_) (a' := ?_) #[true, true, true, true, true, true, false, false, false, false, false, false, false, false, false] rfl rfl (any_of HT_.out (by kernel_rfl)) (fun _ _ _ h => h) (Or.inl ⟨by rfl, ?_⟩) ?_ ?_
            rotate_left
            ·intro w'
             go_simp
             with_reducible rfl
            rotate_left
            ·simp only [Act.put, List.setIfInBounds_toArray, List.set_cons_zero, List.set_cons_succ, i64_w, i32_w]
             rfl
            refine pure_ (i := 6) (N := some 87) (v := ?_) (a' := ?_) #[true, true, true, true, true, true, true, false, false, false, false, false, false, false, false] rfl rfl (any_of HT_.out (by kernel_rfl)) (fun _ _ _ h => h) (Or.inl ⟨by rfl, ?_⟩) ?_ ?_
            rotate_left
            ·intro w'
             go_simp
             with_reducible rfl
            rotate_left
            ·simp only [Act.put, List.setIfInBounds_toArray, List.set_cons_zero, List.set_cons_succ, i64_w, i32_w]
             rfl
            refine pure_ (i := 7) (N := some 88) (v := ?_) (a' := ?_) #[true, true, true, true, true, true, true, true, false, false, false, false, false, false, false] rfl rfl (any_of HT_.out (by kernel_rfl)) (fun _ _ _ h => h) (Or.inl ⟨by rfl, ?_⟩) ?_ ?_
            rotate_left
            ·intro w'
             go_simp
             with_reducible rfl
            rotate_left
            ·simp only [Act.put, List.setIfInBounds_toArray, List.set_cons_zero, List.set_cons_succ, i64_w, i32_w]
             rfl
            refine pure_ (i := 8) (N := some 89) (v := ?_) (a' := ?_) #[true, true, true, true, true, true, true, true, true, false, false, false, false, false, false] rfl rfl (any_of HT_.out (by kernel_rfl)) (fun _ _ _ h => h) (Or.inl ⟨by rfl, ?_⟩) ?_ ?_
            rotate_left
            ·intro w'
             go_simp
             with_reducible rfl
            rotate_left
            ·simp only [Act.put, List.setIfInBounds_toArray, List.set_cons_zero, List.set_cons_succ, i64_w, i32_w]
             rfl
            refine pure_ (i := 9) (N := some 90) (v := ?_) (a' := ?_) #[true, true, true, true, true, true, true, true, true, true, false, false, false, false, false] rfl rfl (any_of HT_.out (by kernel_rfl)) (fun _ _ _ h => h) (Or.inl ⟨by rfl, ?_⟩) ?_ ?_
            rotate_left
            ·intro w'
             go_simp
             with_reducible rfl
            rotate_left
            ·simp only [Act.put, List.setIfInBounds_toArray, List.set_cons_zero, List.set_cons_succ, i64_w, i32_w]
             rfl
            refine one_ (i := 10) (N := some 20) #[true, true, true, true, true, true, true, true, true, true, true, false, false, false, false] rfl rfl (one_of HT_.out (by kernel_rfl)) (by decide) (fun K hK => ?_)
            refine box_step ?hg (N := 20) ?hd (cs := #[.int .i64 0, .int .i64 0]) (t := 23) ?hr ?_; (case hd => rfl); (case hg => rfl); (case hr => first | (go_simp; done) | (go_simp; rfl))
            intro gb292 hg w57 hbox hb
            have n0_ := Aside0.mk (Kd.R_below (kr_ (HO277.out)) hb)
            have n1_ := Aside0.mk (Kd.R_below (kr_ (HO286.out)) hb)
            have n2_ := Aside0.mk (bkb_ BK262.out hb)
            have n3_ := Aside0.mk (bkb_ BK271.out hb)
            have n4_ := Aside0.mk (bkb_ BK283.out hb)
            have n5_ := Aside0.mk (below_step (hb_ HB.out) hb)
            have n6_ := Aside0.mk (hbox)
            have n7_ := Aside0.mk ((by rw [hg]; exact (below_size (hb_ HB.out)) : w.heap.size ≤ gb292))
            have n8_ := Aside0.mk ((by rw [hg]; exact (below_size (hb_ HB.out)) : w.heap.size ≤ gb292))
            have n9_ := Aside0.mk ((by rw [hg]; exact Nat.ne_of_lt (bkl_ BK262.out) : gb262 ≠ gb292))
            have n10_ := Aside0.mk ((by rw [hg]; exact Nat.ne_of_gt (bkl_ BK262.out) : gb292 ≠ gb262))
            have n11_ := Aside0.mk ((by rw [hg]; exact Nat.ne_of_lt (bkl_ BK271.out) : gb271 ≠ gb292))
            have n12_ := Aside0.mk ((by rw [hg]; exact Nat.ne_of_gt (bkl_ BK271.out) : gb292 ≠ gb271))
            have n13_ := Aside0.mk ((by rw [hg]; exact Nat.ne_of_lt (bkl_ BK283.out) : gb283 ≠ gb292))
            have n14_ := Aside0.mk ((by rw [hg]; exact Nat.ne_of_gt (bkl_ BK283.out) : gb292 ≠ gb283))
            clear HO277
            clear HO286
            clear BK262
            clear BK271
            clear BK283
            clear HB
            have HO277 := n0_
            have HO286 := n1_
            have BK262 := n2_
            have BK271 := n3_
            have BK283 := n4_
            have HB := n5_
            have BK292 := n6_
            have GW292 := n7_
            have GE292 := n8_
            have NB262_292 := n9_
            have NB292_262 := n10_
            have NB271_292 := n11_
            have NB292_271 := n12_
            have NB283_292 := n13_
            have NB292_283 := n14_
            clear n0_ n1_ n2_ n3_ n4_ n5_ n6_ n7_ n8_ n9_ n10_ n11_ n12_ n13_ n14_
            clear hb hbox hg
            refine hK.out _ _ ⟨(blk_cell BK271.out 0).trans rfl, (blk_cell BK271.out 1).trans rfl⟩ (fun hHeld => ?_)
            clear hK K
            refine norm_ (a' := ?_) ?_ ?_
            rotate_left
            ·show Act.put _ (some 20) _ = _
             simp only [Act.put, List.setIfInBounds_toArray, List.set_cons_zero, List.set_cons_succ, i64_w, i32_w]
             rfl
            exact norm_ (by simp only [putAll, Act.put, List.setIfInBounds_toArray, List.set_cons_zero, List.set_cons_succ]) (hCont (.slice Ao55 t284.length co55, gb292) _ ⟨hHeld, (by (with_reducible repeat (first | apply Kd.R_alloc | apply Kd.R_drewN | apply Kd.R_drew)); exact Kd.R_mono HO277.out (fun _ hk => hk.2)), (by (with_reducible repeat (first | apply Kd.R_alloc | apply Kd.R_drewN | apply Kd.R_drew)); exact Kd.R_mono HO286.out (fun _ hk => hk.2)), (bk_ BK262.out), (bk_ BK271.out), (bk_ BK283.out), (bk_ BK292.out), GW292.out, GE292.out, NB262_292.out, NB292_262.out, NB271_292.out, NB292_271.out, NB283_292.out, NB292_283.out, (hb_ HB.out)⟩)
           ·skip
            refine box_step ?hg (N := 20) ?hd (cs := #[.int .i64 0, .int .i64 0]) (t := 23) ?hr ?_; (case hd => rfl); (case hg => rfl); (case hr => first | (go_simp; done) | (go_simp; rfl))
            intro gb292 hg w55 hbox hb
            have n0_ := Aside0.mk (Kd.R_below (kr_ (HO277.out)) hb)
            have n1_ := Aside0.mk (Kd.R_below (kr_ (HO286.out)) hb)
            have n2_ := Aside0.mk (bkb_ BK262.out hb)
            have n3_ := Aside0.mk (bkb_ BK271.out hb)
            have n4_ := Aside0.mk (bkb_ BK283.out hb)
            have n5_ := Aside0.mk (below_step (hb_ HB.out) hb)
            have n6_ := Aside0.mk (hbox)
            have n7_ := Aside0.mk ((by rw [hg]; exact (below_size (hb_ HB.out)) : w.heap.size ≤ gb292))
            have n8_ := Aside0.mk ((by rw [hg]; exact (below_size (hb_ HB.out)) : w.heap.size ≤ gb292))
            have n9_ := Aside0.mk ((by rw [hg]; exact Nat.ne_of_lt (bkl_ BK262.out) : gb262 ≠ gb292))
            have n10_ := Aside0.mk ((by rw [hg]; exact Nat.ne_of_gt (bkl_ BK262.out) : gb292 ≠ gb262))
            have n11_ := Aside0.mk ((by rw [hg]; exact Nat.ne_of_lt (bkl_ BK271.out) : gb271 ≠ gb292))
            have n12_ := Aside0.mk ((by rw [hg]; exact Nat.ne_of_gt (bkl_ BK271.out) : gb292 ≠ gb271))
            have n13_ := Aside0.mk ((by rw [hg]; exact Nat.ne_of_lt (bkl_ BK283.out) : gb283 ≠ gb292))
            have n14_ := Aside0.mk ((by rw [hg]; exact Nat.ne_of_gt (bkl_ BK283.out) : gb292 ≠ gb283))
            clear HO277
            clear HO286
            clear BK262
            clear BK271
            clear BK283
            clear HB
            have HO277 := n0_
            have HO286 := n1_
            have BK262 := n2_
            have BK271 := n3_
            have BK283 := n4_
            have HB := n5_
            have BK292 := n6_
            have GW292 := n7_
            have GE292 := n8_
            have NB262_292 := n9_
            have NB292_262 := n10_
            have NB271_292 := n11_
            have NB292_271 := n12_
            have NB283_292 := n13_
            have NB292_283 := n14_
            clear n0_ n1_ n2_ n3_ n4_ n5_ n6_ n7_ n8_ n9_ n10_ n11_ n12_ n13_ n14_
            clear hb hbox hg
            obtain ⟨Ao56, co56, eo56⟩ := Kd.R_slice HO286.out
            (first | subst eo56 | (injection eo56 with f1_ f2_ f3_; have f4_ := f1_.symm; have f5_ := f3_.symm; clear f1_ f2_ f3_; subst f4_; subst f5_))
            refine hK.out _ _ ⟨(blk_cell BK271.out 0).trans rfl, (blk_cell BK271.out 1).trans rfl⟩ (fun hHeld => ?_)
            clear hK K
            refine norm_ (a' := ?_) ?_ ?_
            rotate_left
            ·show Act.put _ (some 20) _ = _
             simp only [Act.put, List.setIfInBounds_toArray, List.set_cons_zero, List.set_cons_succ, i64_w, i32_w]
             rfl
            refine one_ (i := 4) (N := some 86) #[true, true, true, true, true, false, false, false, false, false, true, false, false, false, false] rfl rfl (one_of HT_.out (by kernel_rfl)) (by decide) (fun K hK => ?_)
            refine goes_ Try.func10 (by kernel_rfl) rfl #[.slice Ao56 t284.length co56, .agg #[.int .i64 (wrap64 (a1_0 + (wrap64 (Int.tmod (IntKind.u64.wrap (a3)) 20)))), .int .i64 a1_1], .int .i64 x68_2] (by rfl) rfl rfl al_ ?_
            with_reducible refine (tags_Go.calls k2 _ _ t284 (wrap64 (a1_0 + (wrap64 (Int.tmod (IntKind.u64.wrap (a3)) 20)))) a1_1 x68_2 t287 t288 t289 t290 t291 _ ?side1 ?side2 A42.out).mono ?_
            (case side1 => exact kc_ (Kd.R_reads' HO286.out).2.2)
            (case side2 => exact (Kd.R_reads' HO286.out).2.1)
            rintro e w57 ⟨rfl, hb⟩
            refine ⟨_, rfl, ?_⟩
            have n0_ := Aside0.mk (Kd.R_below (kr_ (HO277.out)) hb)
            have n1_ := Aside0.mk (Kd.R_below (kr_ (HO286.out)) hb)
            have n2_ := Aside0.mk (bkb_ BK262.out hb)
            have n3_ := Aside0.mk (bkb_ BK271.out hb)
            have n4_ := Aside0.mk (bkb_ BK283.out hb)
            have n5_ := Aside0.mk (bkb_ BK292.out hb)
            have n6_ := Aside0.mk (below_step (hb_ HB.out) hb)
            clear HO277
            clear HO286
            clear BK262
            clear BK271
            clear BK283
            clear BK292
            clear HB
            have HO277 := n0_
            have HO286 := n1_
            have BK262 := n2_
            have BK271 := n3_
            have BK283 := n4_
            have BK292 := n5_
            have HB := n6_
            clear n0_ n1_ n2_ n3_ n4_ n5_ n6_
            (try clear hb)
            (try clear hb2)
            (try clear hk)
            (try clear hi)
            refine hK.out _ _ ⟨(blk_cell BK271.out 0).trans rfl, (blk_cell BK271.out 1).trans rfl⟩ (fun hHeld => ?_)
            clear hK K
            refine norm_ (a' := ?_) ?_ ?_
            rotate_left
            ·show Act.put _ (some 86) _ = _
             simp only [Act.put, List.setIfInBounds_toArray, List.set_cons_zero, List.set_cons_succ, i64_w, i32_w]
             rfl
            refine pure_ (i := 5) (N := some 81) (v := ?_) (a' := ?_) #[true, true, true, true, true, true, false, false, false, false, true, false, false, false, false] rfl rfl (any_of HT_.out (by kernel_rfl)) (fun _ _ _ h => h) (Or.inl ⟨by rfl, ?_⟩) ?_ ?_
            rotate_left
            ·intro w'
             go_simp
             with_reducible rfl
            rotate_left
            ·simp only [Act.put, List.setIfInBounds_toArray, List.set_cons_zero, List.set_cons_succ, i64_w, i32_w]
             rfl
            refine pure_ (i := 6) (N := some 87) (v := ?_) (a' := ?_) #[true, true, true, true, true, true, true, false, false, false, true, false, false, false, false] rfl rfl (any_of HT_.out (by kernel_rfl)) (fun _ _ _ h => h) (Or.inl ⟨by rfl, ?_⟩) ?_ ?_
            rotate_left
            ·intro w'
             go_simp
             with_reducible rfl
            rotate_left
            ·simp only [Act.put, List.setIfInBounds_toArray, List.set_cons_zero, List.set_cons_succ, i64_w, i32_w]
             rfl
            refine pure_ (i := 7) (N := some 88) (v := ?_) (a' := ?_) #[true, true, true, true, true, true, true, true, false, false, true, false, false, false, false] rfl rfl (any_of HT_.out (by kernel_rfl)) (fun _ _ _ h => h) (Or.inl ⟨by rfl, ?_⟩) ?_ ?_
            rotate_left
            ·intro w'
             go_simp
             with_reducible rfl
            rotate_left
            ·simp only [Act.put, List.setIfInBounds_toArray, List.set_cons_zero, List.set_cons_succ, i64_w, i32_w]
             rfl
            refine pure_ (i := 8) (N := some 89) (v := ?_) (a' := ?_) #[true, true, true, true, true, true, true, true, true, false, true, false, false, false, false] rfl rfl (any_of HT_.out (by kernel_rfl)) (fun _ _ _ h => h) (Or.inl ⟨by rfl, ?_⟩) ?_ ?_
            rotate_left
            ·intro w'
             go_simp
             with_reducible rfl
            rotate_left
            ·simp only [Act.put, List.setIfInBounds_toArray, List.set_cons_zero, List.set_cons_succ, i64_w, i32_w]
             rfl
            refine pure_ (i := 9) (N := some 90) (v := ?_) (a' := ?_) #[true, true, true, true, true, true, true, true, true, true, true, false, false, false, false] rfl rfl (any_of HT_.out (by kernel_rfl)) (fun _ _ _ h => h) (Or.inl ⟨by rfl, ?_⟩) ?_ ?_
            rotate_left
            ·intro w'
             go_simp
             with_reducible rfl
            rotate_left
            ·simp only [Act.put, List.setIfInBounds_toArray, List.set_cons_zero, List.set_cons_succ, i64_w, i32_w]
             rfl
            exact norm_ (by simp only [putAll, Act.put, List.setIfInBounds_toArray, List.set_cons_zero, List.set_cons_succ]) (hCont (.slice Ao56 t284.length co56, gb292) _ ⟨hHeld, (by (with_reducible repeat (first | apply Kd.R_alloc | apply Kd.R_drewN | apply Kd.R_drew)); exact Kd.R_mono HO277.out (fun _ hk => hk.2)), (by (with_reducible repeat (first | apply Kd.R_alloc | apply Kd.R_drewN | apply Kd.R_drew)); exact Kd.R_mono HO286.out (fun _ hk => hk.2)), (bk_ BK262.out), (bk_ BK271.out), (bk_ BK283.out), (bk_ BK292.out), GW292.out, GE292.out, NB262_292.out, NB292_262.out, NB271_292.out, NB292_271.out, NB283_292.out, NB292_283.out, (hb_ HB.out)⟩)
          ·skip
           refine box_step ?hg (N := 20) ?hd (cs := #[.int .i64 0, .int .i64 0]) (t := 23) ?hr ?_; (case hd => rfl); (case hg => rfl); (case hr => first | (go_simp; done) | (go_simp; rfl))
           intro gb292 hg w54 hbox hb
           have n0_ := Aside0.mk (Kd.R_below (kr_ (HO277.out)) hb)
           have n1_ := Aside0.mk (bkb_ BK262.out hb)
           have n2_ := Aside0.mk (bkb_ BK271.out hb)
           have n3_ := Aside0.mk (bkb_ BK283.out hb)
           have n4_ := Aside0.mk (below_step (hb_ HB.out) hb)
           have n5_ := Aside0.mk (hbox)
           have n6_ := Aside0.mk ((by rw [hg]; exact (below_size (hb_ HB.out)) : w.heap.size ≤ gb292))
           have n7_ := Aside0.mk ((by rw [hg]; exact (below_size (hb_ HB.out)) : w.heap.size ≤ gb292))
           have n8_ := Aside0.mk ((by rw [hg]; exact Nat.ne_of_lt (bkl_ BK262.out) : gb262 ≠ gb292))
           have n9_ := Aside0.mk ((by rw [hg]; exact Nat.ne_of_gt (bkl_ BK262.out) : gb292 ≠ gb262))
           have n10_ := Aside0.mk ((by rw [hg]; exact Nat.ne_of_lt (bkl_ BK271.out) : gb271 ≠ gb292))
           have n11_ := Aside0.mk ((by rw [hg]; exact Nat.ne_of_gt (bkl_ BK271.out) : gb292 ≠ gb271))
           have n12_ := Aside0.mk ((by rw [hg]; exact Nat.ne_of_lt (bkl_ BK283.out) : gb283 ≠ gb292))
           have n13_ := Aside0.mk ((by rw [hg]; exact Nat.ne_of_gt (bkl_ BK283.out) : gb292 ≠ gb283))
           clear HO277
           clear BK262
           clear BK271
           clear BK283
           clear HB
           have HO277 := n0_
           have BK262 := n1_
           have BK271 := n2_
           have BK283 := n3_
           have HB := n4_
           have BK292 := n5_
           have GW292 := n6_
           have GE292 := n7_
           have NB262_292 := n8_
           have NB292_262 := n9_
           have NB271_292 := n10_
           have NB292_271 := n11_
           have NB283_292 := n12_
           have NB292_283 := n13_
           clear n0_ n1_ n2_ n3_ n4_ n5_ n6_ n7_ n8_ n9_ n10_ n11_ n12_ n13_
           clear hb hbox hg
           refine hK.out _ _ ⟨(blk_cell BK271.out 0).trans rfl, (blk_cell BK271.out 1).trans rfl⟩ (fun hHeld => ?_)
           clear hK K
           refine norm_ (a' := ?_) ?_ ?_
           rotate_left
           ·show Act.put _ (some 20) _ = _
            simp only [Act.put, List.setIfInBounds_toArray, List.set_cons_zero, List.set_cons_succ, i64_w, i32_w]
            rfl
           refine one_ (i := 1) (N := some 83) #[true, true, true, true, false, false, false, false, false, false, true, false, false, false, false] rfl rfl (one_of HT_.out (by kernel_rfl)) (by decide) (fun K hK => ?_)
           refine goes_ Try.func11 (by kernel_rfl) rfl #[.slice A0 l0.length c0] (by rfl) rfl rfl al_ ?_
           with_reducible refine (comfitlaw06_Of.calls k2 _ _ l0 t284 _ ?side1 ?side2 A41.out).mono ?_
           (case side1 => exact kc_ (Kd.C_below HR0.out HB.out))
           (case side2 => exact HC0.out)
           rintro e w55 ⟨v285, rfl, ho0, hb⟩
           refine ⟨_, rfl, ?_⟩
           have n0_ := Aside0.mk (Kd.R_elder' (kr_ (HO277.out)) (Kd.R_base ho0) hb)
           have n1_ := Aside0.mk (Kd.R_lower (Kd.R_new' ho0 (Kd.R_lt (kr_ (HO277.out)))) (below_size (hb_ HB.out)))
           have n2_ := Aside0.mk (bkb_ BK262.out hb)
           have n3_ := Aside0.mk (bkb_ BK271.out hb)
           have n4_ := Aside0.mk (bkb_ BK283.out hb)
           have n5_ := Aside0.mk (bkb_ BK292.out hb)
           have n6_ := Aside0.mk (below_step (hb_ HB.out) hb)
           clear HO277
           clear BK262
           clear BK271
           clear BK283
           clear BK292
           clear HB
           have HO277 := n0_
           have HO286 := n1_
           have BK262 := n2_
           have BK271 := n3_
           have BK283 := n4_
           have BK292 := n5_
           have HB := n6_
           clear n0_ n1_ n2_ n3_ n4_ n5_ n6_
           (try clear hb)
           (try clear hb2)
           (try clear hk)
           (try clear hi)
           (try clear ho0)
           obtain ⟨Ao56, co56, eo56⟩ := Kd.R_slice HO286.out
           (first | subst eo56 | (injection eo56 with f1_ f2_ f3_; have f4_ := f1_.symm; have f5_ := f3_.symm; clear f1_ f2_ f3_; subst f4_; subst f5_))
           refine hK.out _ _ ⟨(blk_cell BK271.out 0).trans rfl, (blk_cell BK271.out 1).trans rfl⟩ (fun hHeld => ?_)
           clear hK K
           refine norm_ (a' := ?_) ?_ ?_
           rotate_left
           ·show Act.put _ (some 83) _ = _
            simp only [Act.put, List.setIfInBounds_toArray, List.set_cons_zero, List.set_cons_succ, i64_w, i32_w]
            rfl
           refine one_ (i := 4) (N := some 86) #[true, true, true, true, true, false, false, false, false, false, true, false, false, false, false] rfl rfl (one_of HT_.out (by kernel_rfl)) (by decide) (fun K hK => ?_)
           refine goes_ Try.func10 (by kernel_rfl) rfl #[.slice Ao56 t284.length co56, .agg #[.int .i64 (wrap64 (a1_0 + (wrap64 (Int.tmod (IntKind.u64.wrap (a3)) 20)))), .int .i64 a1_1], .int .i64 x68_2] (by rfl) rfl rfl al_ ?_
           with_reducible refine (tags_Go.calls k2 _ _ t284 (wrap64 (a1_0 + (wrap64 (Int.tmod (IntKind.u64.wrap (a3)) 20)))) a1_1 x68_2 t287 t288 t289 t290 t291 _ ?side1 ?side2 A42.out).mono ?_
           (case side1 => exact kc_ (Kd.R_reads' HO286.out).2.2)
           (case side2 => exact (Kd.R_reads' HO286.out).2.1)
           rintro e w57 ⟨rfl, hb⟩
           refine ⟨_, rfl, ?_⟩
           have n0_ := Aside0.mk (Kd.R_below (kr_ (HO277.out)) hb)
           have n1_ := Aside0.mk (Kd.R_below (kr_ (HO286.out)) hb)
           have n2_ := Aside0.mk (bkb_ BK262.out hb)
           have n3_ := Aside0.mk (bkb_ BK271.out hb)
           have n4_ := Aside0.mk (bkb_ BK283.out hb)
           have n5_ := Aside0.mk (bkb_ BK292.out hb)
           have n6_ := Aside0.mk (below_step (hb_ HB.out) hb)
           clear HO277
           clear HO286
           clear BK262
           clear BK271
           clear BK283
           clear BK292
           clear HB
           have HO277 := n0_
           have HO286 := n1_
           have BK262 := n2_
           have BK271 := n3_
           have BK283 := n4_
           have BK292 := n5_
           have HB := n6_
           clear n0_ n1_ n2_ n3_ n4_ n5_ n6_
           (try clear hb)
           (try clear hb2)
           (try clear hk)
           (try clear hi)
           refine hK.out _ _ ⟨(blk_cell BK271.out 0).trans rfl, (blk_cell BK271.out 1).trans rfl⟩ (fun hHeld => ?_)
           clear hK K
           refine norm_ (a' := ?_) ?_ ?_
           rotate_left
           ·show Act.put _ (some 86) _ = _
            simp only [Act.put, List.setIfInBounds_toArray, List.set_cons_zero, List.set_cons_succ, i64_w, i32_w]
            rfl
           refine pure_ (i := 5) (N := some 81) (v := ?_) (a' := ?_) #[true, true, true, true, true, true, false, false, false, false, true, false, false, false, false] rfl rfl (any_of HT_.out (by kernel_rfl)) (fun _ _ _ h => h) (Or.inl ⟨by rfl, ?_⟩) ?_ ?_
           rotate_left
           ·intro w'
            go_simp
            with_reducible rfl
           rotate_left
           ·simp only [Act.put, List.setIfInBounds_toArray, List.set_cons_zero, List.set_cons_succ, i64_w, i32_w]
            rfl
           refine pure_ (i := 6) (N := some 87) (v := ?_) (a' := ?_) #[true, true, true, true, true, true, true, false, false, false, true, false, false, false, false] rfl rfl (any_of HT_.out (by kernel_rfl)) (fun _ _ _ h => h) (Or.inl ⟨by rfl, ?_⟩) ?_ ?_
           rotate_left
           ·intro w'
            go_simp
            with_reducible rfl
           rotate_left
           ·simp only [Act.put, List.setIfInBounds_toArray, List.set_cons_zero, List.set_cons_succ, i64_w, i32_w]
            rfl
           refine pure_ (i := 7) (N := some 88) (v := ?_) (a' := ?_) #[true, true, true, true, true, true, true, true, false, false, true, false, false, false, false] rfl rfl (any_of HT_.out (by kernel_rfl)) (fun _ _ _ h => h) (Or.inl ⟨by rfl, ?_⟩) ?_ ?_
           rotate_left
           ·intro w'
            go_simp
            with_reducible rfl
           rotate_left
           ·simp only [Act.put, List.setIfInBounds_toArray, List.set_cons_zero, List.set_cons_succ, i64_w, i32_w]
            rfl
           refine pure_ (i := 8) (N := some 89) (v := ?_) (a' := ?_) #[true, true, true, true, true, true, true, true, true, false, true, false, false, false, false] rfl rfl (any_of HT_.out (by kernel_rfl)) (fun _ _ _ h => h) (Or.inl ⟨by rfl, ?_⟩) ?_ ?_
           rotate_left
           ·intro w'
            go_simp
            with_reducible rfl
           rotate_left
           ·simp only [Act.put, List.setIfInBounds_toArray, List.set_cons_zero, List.set_cons_succ, i64_w, i32_w]
            rfl
           refine pure_ (i := 9) (N := some 90) (v := ?_) (a' := ?_) #[true, true, true, true, true, true, true, true, true, true, true, false, false, false, false] rfl rfl (any_of HT_.out (by kernel_rfl)) (fun _ _ _ h => h) (Or.inl ⟨by rfl, ?_⟩) ?_ ?_
           rotate_left
           ·intro w'
            go_simp
            with_reducible rfl
           rotate_left
           ·simp only [Act.put, List.setIfInBounds_toArray, List.set_cons_zero, List.set_cons_succ, i64_w, i32_w]
            rfl
           exact norm_ (by simp only [putAll, Act.put, List.setIfInBounds_toArray, List.set_cons_zero, List.set_cons_succ]) (hCont (.slice Ao56 t284.length co56, gb292) _ ⟨hHeld, (by (with_reducible repeat (first | apply Kd.R_alloc | apply Kd.R_drewN | apply Kd.R_drew)); exact Kd.R_mono HO277.out (fun _ hk => hk.2)), (by (with_reducible repeat (first | apply Kd.R_alloc | apply Kd.R_drewN | apply Kd.R_drew)); exact Kd.R_mono HO286.out (fun _ hk => hk.2)), (bk_ BK262.out), (bk_ BK271.out), (bk_ BK283.out), (bk_ BK292.out), GW292.out, GE292.out, NB262_292.out, NB292_262.out, NB271_292.out, NB292_271.out, NB283_292.out, NB292_283.out, (hb_ HB.out)⟩)
         rintro ⟨v285, gb292⟩ w58 ⟨hS_, h0_, h1_, h2_, h3_, h4_, h5_, h6_, h7_, h8_, h9_, h10_, h11_, h12_, h13_, h14_⟩
         have n0_ : Aside0 (Kd.R k57 57 w58 w.heap.size (fun k_ => some k_ ≠ (v285 : Value).ownBlock) v276 t275) := ⟨h0_⟩
         have n1_ : Aside0 (Kd.R k57 57 w58 w.heap.size (fun k_ => some k_ ≠ (v276 : Value).ownBlock) v285 t284) := ⟨h1_⟩
         have n2_ : Aside0 (w58.heap[gb262]? = some (.cells #[.int .i64 a1_0, .int .i64 a1_1] 23 (0, 0))) := ⟨h2_⟩
         have n3_ : Aside0 (w58.heap[gb271]? = some (.cells #[.int .i64 (wrap64 (a1_0 + (wrap64 (Int.tmod (IntKind.u64.wrap (a3)) 20)))), .int .i64 a1_1] 23 (0, 0))) := ⟨h3_⟩
         have n4_ : Aside0 (w58.heap[gb283]? = some (.cells #[.int .i64 t279, .int .i64 t280] 23 (0, 0))) := ⟨h4_⟩
         have n5_ : Aside0 (w58.heap[gb292]? = some (.cells #[.int .i64 0, .int .i64 0] 23 (0, 0))) := ⟨h5_⟩
         have n6_ : Aside0 (w.heap.size ≤ gb292) := ⟨h6_⟩
         have n7_ : Aside0 (w.heap.size ≤ gb292) := ⟨h7_⟩
         have n8_ : Aside0 (gb262 ≠ gb292) := ⟨h8_⟩
         have n9_ : Aside0 (gb292 ≠ gb262) := ⟨h9_⟩
         have n10_ : Aside0 (gb271 ≠ gb292) := ⟨h10_⟩
         have n11_ : Aside0 (gb292 ≠ gb271) := ⟨h11_⟩
         have n12_ : Aside0 (gb283 ≠ gb292) := ⟨h12_⟩
         have n13_ : Aside0 (gb292 ≠ gb283) := ⟨h13_⟩
         have n14_ : Aside0 (Below w.heap.size w w58) := ⟨h14_⟩
         clear HO277
         clear BK262
         clear BK271
         clear BK283
         clear HB
         clear h0_ h1_ h2_ h3_ h4_ h5_ h6_ h7_ h8_ h9_ h10_ h11_ h12_ h13_ h14_
         have HO277 := n0_
         have HO286 := n1_
         have BK262 := n2_
         have BK271 := n3_
         have BK283 := n4_
         have BK292 := n5_
         have GW292 := n6_
         have GE292 := n7_
         have NB262_292 := n8_
         have NB292_262 := n9_
         have NB271_292 := n10_
         have NB292_271 := n11_
         have NB283_292 := n12_
         have NB292_283 := n13_
         have HB := n14_
         clear n0_ n1_ n2_ n3_ n4_ n5_ n6_ n7_ n8_ n9_ n10_ n11_ n12_ n13_ n14_
         have hHeld : w58.cell? ⟨gb271, 0, none⟩ = some (.int .i64 (wrap64 (a1_0 + (wrap64 (Int.tmod (IntKind.u64.wrap (a3)) 20))))) ∧ w58.cell? ⟨gb271, 1, none⟩ = some (.int .i64 a1_1) := hS_
         refine norm_ (a' := ?_) ?_ ?_
         rotate_left
         ·simp only [putAll, Act.put, List.setIfInBounds_toArray, List.set_cons_zero, List.set_cons_succ]
          rfl
         refine pure_ (i := 11) (N := some 19) (v := ?_) (a' := ?_) #[true, true, true, true, true, true, true, true, true, true, true, true, false, false, false] rfl rfl (any_of HT_.out (by kernel_rfl)) (fun _ _ _ h => h) (Or.inl ⟨by rfl, ?_⟩) ?_ ?_
         rotate_left
         ·intro w'
          go_simp
          with_reducible rfl
         rotate_left
         ·simp only [Act.put, List.setIfInBounds_toArray, List.set_cons_zero, List.set_cons_succ, i64_w, i32_w]
          rfl
         refine one_ (i := 12) (N := none) #[true, true, true, true, true, true, true, true, true, true, true, true, true, false, false] rfl rfl (one_of HT_.out (by kernel_rfl)) (by decide) (fun K hK => ?_)
         have hs59 : w58.cell? ⟨gb292, 0, none⟩ = some (.int .i64 0) := (blk_cell BK292.out 0).trans rfl
         have hfs59 := blk_frozen BK292.out 0
         have hns59_0 := NB262_292.out
         have hns59_1 := NB271_292.out
         have hns59_2 := NB283_292.out
         have hms59_0 := NB292_262.out
         have hms59_1 := NB292_271.out
         have hms59_2 := NB292_283.out
         have hs60 : w58.cell? ⟨gb292, 1, none⟩ = some (.int .i64 0) := (blk_cell BK292.out 1).trans rfl
         have hfs60 := blk_frozen BK292.out 1
         have hns60_0 := NB262_292.out
         have hns60_1 := NB271_292.out
         have hns60_2 := NB283_292.out
         have hms60_0 := NB292_262.out
         have hms60_1 := NB292_271.out
         have hms60_2 := NB292_283.out
         refine skip_ (w1 := ?_) (by rfl) rfl ?_ ?_
         rotate_left
         ·go_simp
          rfl
         refine hK.out _ _ ⟨((cell_far (p := ⟨gb292, _, none⟩) NB271_292.out _).trans (((cell_far (p := ⟨gb292, _, none⟩) NB271_292.out _).trans (hHeld.1)))), ((cell_far (p := ⟨gb292, _, none⟩) NB271_292.out _).trans (((cell_far (p := ⟨gb292, _, none⟩) NB271_292.out _).trans (hHeld.2))))⟩ (fun hHeld => ?_)
         clear hK K
         refine pure_ (i := 13) (N := some 21) (v := ?_) (a' := ?_) #[true, true, true, true, true, true, true, true, true, true, true, true, true, true, false] rfl rfl (any_of HT_.out (by kernel_rfl)) (fun _ _ _ h => h) (Or.inl ⟨by rfl, ?_⟩) ?_ ?_
         rotate_left
         ·intro w'
          go_simp
          with_reducible rfl
         rotate_left
         ·simp only [Act.put, List.setIfInBounds_toArray, List.set_cons_zero, List.set_cons_succ, i64_w, i32_w]
          rfl
         refine pure_ (i := 14) (N := some 22) (v := ?_) (a' := ?_) #[true, true, true, true, true, true, true, true, true, true, true, true, true, true, true] rfl rfl (any_of HT_.out (by kernel_rfl)) (fun _ _ _ h => h) (Or.inl ⟨by rfl, ?_⟩) ?_ ?_
         rotate_left
         ·intro w'
          go_simp
          with_reducible rfl
         rotate_left
         ·simp only [Act.put, List.setIfInBounds_toArray, List.set_cons_zero, List.set_cons_succ, i64_w, i32_w]
          rfl
         refine done_ (done_of HT_.out (by kernel_rfl)) ?_
         go_upto_region 14 with (fail)
         go_cut [106] (fun v106 wc => ∃ (kq : Nat) (x106_42 : Bool), v106 = .bool x106_42 ∧ Aside0 (j2 kq l0 0 (wrap64 (Int.tmod (IntKind.u64.wrap (a3)) 20)) t278 t281 t287 t290 (wrap64 ((wrap64 (Int.tmod (IntKind.u64.wrap (a4)) 60)) + 1)) x68_2 x106_42 a1_0 a1_1 (wrap64 (a1_0 + (wrap64 (Int.tmod (IntKind.u64.wrap (a3)) 20)))) a1_1 t279 t280 t288 t289 = some r) ∧ Aside0 (kq ≤ k2) ∧ Aside0 (wc.heap[gb262]? = some (.cells #[.int .i64 a1_0, .int .i64 a1_1] 23 (0, 0))) ∧ Aside0 (wc.heap[gb271]? = some (.cells #[.int .i64 (wrap64 (a1_0 + (wrap64 (Int.tmod (IntKind.u64.wrap (a3)) 20)))), .int .i64 a1_1] 23 (0, 0))) ∧ Aside0 (wc.heap[gb283]? = some (.cells #[.int .i64 t279, .int .i64 t280] 23 (0, 0))) ∧ Aside0 (wc.heap[gb292]? = some (.cells #[.int .i64 t288, .int .i64 t289] 23 (0, 0))) ∧ Aside0 (Below w.heap.size w wc))
         case first =>
          have H := HC43.out
          clear HC43
          by_cases c61 : t282 = 0
          ·rw [if_pos c61] at H
           have c61b0 : (t282 == 0) = true := beq_iff_eq.mpr c61
           have c61b1 : (t282 != 0) = false := bne_eq_false_iff_eq.mpr c61
           clear c61
           (first | rw [c61b0] | (simp only [i64_w, i32_w]; rw [c61b0]) | skip)
           by_cases c62 : t291 = 0
           ·rw [if_pos c62] at H
            have c62b0 : (t291 == 0) = true := beq_iff_eq.mpr c62
            have c62b1 : (t291 != 0) = false := bne_eq_false_iff_eq.mpr c62
            clear c62
            by_cases c63 : t278 < 0
            ·rw [if_pos c63] at H
             have c63b0 : decide (t278 < 0) = true := decide_eq_true c63
             clear c63
             as_aux_lemma =>
              have H' := Aside0.mk H
              clear H
              go_wp2
              go_meet
              case rel => (try rw [← Niq29.out]); exact ⟨_, (true), (by first | rfl | (simp; done) | (simp [*]; done)), H', ⟨by have := HJ5.out; have := HK2.out; first | omega | exact Nat.le_refl _⟩, ⟨bk_ (blk_far (bk_ (blk_far (bk_ BK262.out) NB262_292.out _)) NB262_292.out _)⟩, ⟨bk_ (blk_far (bk_ (blk_far (bk_ BK271.out) NB271_292.out _)) NB271_292.out _)⟩, ⟨bk_ (blk_far (bk_ (blk_far (bk_ BK283.out) NB283_292.out _)) NB283_292.out _)⟩, ⟨by (with_reducible repeat (first | refine blk_drewN ?_ _ | refine blk_drew ?_ | refine blk_alloc ?_ _)); refine blk_put (cs := #[.int .i64 t288, .int .i64 0]) ?_ 1 _ rfl; (with_reducible repeat (first | refine blk_drewN ?_ _ | refine blk_drew ?_ | refine blk_alloc ?_ _)); refine blk_put (cs := #[.int .i64 0, .int .i64 0]) ?_ 0 _ rfl; (with_reducible repeat (first | refine blk_drewN ?_ _ | refine blk_drew ?_ | refine blk_alloc ?_ _)); exact BK292.out⟩, ⟨hb_ HB.out⟩⟩
            rw [if_neg c63] at H
            have c63b0 : decide (t278 < 0) = false := decide_eq_false c63
            clear c63
            as_aux_lemma =>
             have H' := Aside0.mk H
             clear H
             go_wp2
             go_meet
             case rel => (try rw [← Niq29.out]); exact ⟨_, (decide (t278 ≥ (l0.length : Int))), (by first | rfl | (simp; done) | (simp [*]; done)), H', ⟨by have := HJ5.out; have := HK2.out; first | omega | exact Nat.le_refl _⟩, ⟨bk_ (blk_far (bk_ (blk_far (bk_ BK262.out) NB262_292.out _)) NB262_292.out _)⟩, ⟨bk_ (blk_far (bk_ (blk_far (bk_ BK271.out) NB271_292.out _)) NB271_292.out _)⟩, ⟨bk_ (blk_far (bk_ (blk_far (bk_ BK283.out) NB283_292.out _)) NB283_292.out _)⟩, ⟨by (with_reducible repeat (first | refine blk_drewN ?_ _ | refine blk_drew ?_ | refine blk_alloc ?_ _)); refine blk_put (cs := #[.int .i64 t288, .int .i64 0]) ?_ 1 _ rfl; (with_reducible repeat (first | refine blk_drewN ?_ _ | refine blk_drew ?_ | refine blk_alloc ?_ _)); refine blk_put (cs := #[.int .i64 0, .int .i64 0]) ?_ 0 _ rfl; (with_reducible repeat (first | refine blk_drewN ?_ _ | refine blk_drew ?_ | refine blk_alloc ?_ _)); exact BK292.out⟩, ⟨hb_ HB.out⟩⟩
           rw [if_neg c62] at H
           have c62b0 : (t291 == 0) = false := beq_eq_false_iff_ne.mpr c62
           have c62b1 : (t291 != 0) = true := bne_iff_ne.mpr c62
           as_aux_lemma =>
            have H' := Aside0.mk H
            clear H
            go_wp2
            go_meet
            case rel => (try rw [← Niq29.out]); exact ⟨_, (true), (by first | rfl | (simp; done) | (simp [*]; done)), H', ⟨by have := HJ5.out; have := HK2.out; first | omega | exact Nat.le_refl _⟩, ⟨bk_ (blk_far (bk_ (blk_far (bk_ BK262.out) NB262_292.out _)) NB262_292.out _)⟩, ⟨bk_ (blk_far (bk_ (blk_far (bk_ BK271.out) NB271_292.out _)) NB271_292.out _)⟩, ⟨bk_ (blk_far (bk_ (blk_far (bk_ BK283.out) NB283_292.out _)) NB283_292.out _)⟩, ⟨by (with_reducible repeat (first | refine blk_drewN ?_ _ | refine blk_drew ?_ | refine blk_alloc ?_ _)); refine blk_put (cs := #[.int .i64 t288, .int .i64 0]) ?_ 1 _ rfl; (with_reducible repeat (first | refine blk_drewN ?_ _ | refine blk_drew ?_ | refine blk_alloc ?_ _)); refine blk_put (cs := #[.int .i64 0, .int .i64 0]) ?_ 0 _ rfl; (with_reducible repeat (first | refine blk_drewN ?_ _ | refine blk_drew ?_ | refine blk_alloc ?_ _)); exact BK292.out⟩, ⟨hb_ HB.out⟩⟩
          rw [if_neg c61] at H
          have c61b0 : (t282 == 0) = false := beq_eq_false_iff_ne.mpr c61
          have c61b1 : (t282 != 0) = true := bne_iff_ne.mpr c61
          (first | rw [c61b0] | (simp only [i64_w, i32_w]; rw [c61b0]) | skip)
          as_aux_lemma =>
           have H' := Aside0.mk H
           clear H
           go_wp2
           go_meet
           case rel => (try rw [← Niq29.out]); exact ⟨_, (true), (by first | rfl | (simp; done) | (simp [*]; done)), H', ⟨by have := HJ5.out; have := HK2.out; first | omega | exact Nat.le_refl _⟩, ⟨bk_ (blk_far (bk_ (blk_far (bk_ BK262.out) NB262_292.out _)) NB262_292.out _)⟩, ⟨bk_ (blk_far (bk_ (blk_far (bk_ BK271.out) NB271_292.out _)) NB271_292.out _)⟩, ⟨bk_ (blk_far (bk_ (blk_far (bk_ BK283.out) NB283_292.out _)) NB283_292.out _)⟩, ⟨by (with_reducible repeat (first | refine blk_drewN ?_ _ | refine blk_drew ?_ | refine blk_alloc ?_ _)); refine blk_put (cs := #[.int .i64 t288, .int .i64 0]) ?_ 1 _ rfl; (with_reducible repeat (first | refine blk_drewN ?_ _ | refine blk_drew ?_ | refine blk_alloc ?_ _)); refine blk_put (cs := #[.int .i64 0, .int .i64 0]) ?_ 0 _ rfl; (with_reducible repeat (first | refine blk_drewN ?_ _ | refine blk_drew ?_ | refine blk_alloc ?_ _)); exact BK292.out⟩, ⟨hb_ HB.out⟩⟩
         case rest =>
          clear HC43
          try clear c1
          try clear p2
          try clear q2
          try clear c6
          try clear p6
          try clear c10
          try clear c11
          try clear q29
          try clear c61
          try clear c61b0
          try clear c61b1
          try clear c62
          try clear c62b0
          try clear c62b1
          try clear c63
          try clear c63b0
          obtain ⟨kq, x106_42, rfl, HA, HJ42, BK262, BK271, BK283, BK292, HB⟩ := hcut
          cases kq with
          | zero => exact absurd HA.out (by simp [j2])
          | succ kj42 =>
           have H := HA.out
           clear HA
           simp only [j2] at H
           by_cases c64 : x106_42 = true
           ·subst c64
            have H1 : (some false) = some r := by rw [if_pos rfl] at H; exact H
            clear H
            have H := H1
            clear H1
            as_aux_lemma =>
             obtain rfl := Option.some.inj H
             go_wp2
             go_ret
             exact ⟨by first | rfl | (simp [errW_none, errW_some] <;> rfl) | (simp [*, errW_none, errW_some] <;> rfl), hb_ HB.out⟩
           ·replace c64 := Bool.eq_false_iff.mpr c64
            subst c64
            have H1 : (if 0 = 0 then (if t278 = t287 then (if (!((wrap64 (t279 + (wrap64 (Int.tmod (IntKind.u64.wrap (a3)) 20)))) == t288) || (!(t280 == t289))) = true then (j3 kj42 l0 0 (wrap64 (Int.tmod (IntKind.u64.wrap (a3)) 20)) t278 (wrap64 ((wrap64 (Int.tmod (IntKind.u64.wrap (a4)) 60)) + 1)) x68_2 true a1_0 a1_1 (wrap64 (a1_0 + (wrap64 (Int.tmod (IntKind.u64.wrap (a3)) 20)))) a1_1 (wrap64 (t279 + (wrap64 (Int.tmod (IntKind.u64.wrap (a3)) 20)))) t280) else (j3 kj42 l0 0 (wrap64 (Int.tmod (IntKind.u64.wrap (a3)) 20)) t278 (wrap64 ((wrap64 (Int.tmod (IntKind.u64.wrap (a4)) 60)) + 1)) x68_2 (t281 != t290) a1_0 a1_1 (wrap64 (a1_0 + (wrap64 (Int.tmod (IntKind.u64.wrap (a3)) 20)))) a1_1 (wrap64 (t279 + (wrap64 (Int.tmod (IntKind.u64.wrap (a3)) 20)))) t280)) else (j3 kj42 l0 0 (wrap64 (Int.tmod (IntKind.u64.wrap (a3)) 20)) t278 (wrap64 ((wrap64 (Int.tmod (IntKind.u64.wrap (a4)) 60)) + 1)) x68_2 true a1_0 a1_1 (wrap64 (a1_0 + (wrap64 (Int.tmod (IntKind.u64.wrap (a3)) 20)))) a1_1 (wrap64 (t279 + (wrap64 (Int.tmod (IntKind.u64.wrap (a3)) 20)))) t280)) else (if 0 = 1 then (if t278 = t287 then (if (!(t279 == t288) || (!((wrap64 (t280 + (wrap64 (Int.tmod (IntKind.u64.wrap (a3)) 20)))) == t289))) = true then (j5 kj42 l0 1 (wrap64 (Int.tmod (IntKind.u64.wrap (a3)) 20)) t278 (wrap64 ((wrap64 (Int.tmod (IntKind.u64.wrap (a4)) 60)) + 1)) x68_2 true a1_0 a1_1 (wrap64 (a1_0 + (wrap64 (Int.tmod (IntKind.u64.wrap (a3)) 20)))) a1_1 t279 (wrap64 (t280 + (wrap64 (Int.tmod (IntKind.u64.wrap (a3)) 20))))) else (j5 kj42 l0 1 (wrap64 (Int.tmod (IntKind.u64.wrap (a3)) 20)) t278 (wrap64 ((wrap64 (Int.tmod (IntKind.u64.wrap (a4)) 60)) + 1)) x68_2 (t281 != t290) a1_0 a1_1 (wrap64 (a1_0 + (wrap64 (Int.tmod (IntKind.u64.wrap (a3)) 20)))) a1_1 t279 (wrap64 (t280 + (wrap64 (Int.tmod (IntKind.u64.wrap (a3)) 20)))))) else (j5 kj42 l0 1 (wrap64 (Int.tmod (IntKind.u64.wrap (a3)) 20)) t278 (wrap64 ((wrap64 (Int.tmod (IntKind.u64.wrap (a4)) 60)) + 1)) x68_2 true a1_0 a1_1 (wrap64 (a1_0 + (wrap64 (Int.tmod (IntKind.u64.wrap (a3)) 20)))) a1_1 t279 (wrap64 (t280 + (wrap64 (Int.tmod (IntKind.u64.wrap (a3)) 20)))))) else (none))) = some r := by rw [if_neg (show ¬ (false = true) by decide)] at H; exact H
            clear H
            have H := H1
            clear H1
            (first | rw [if_pos (show ((0 : Int) = (0 : Int)) by decide)] at H | rw [if_pos (show ((0 : Nat) = (0 : Nat)) by decide)] at H)
            have HC65 := Aside0.mk H
            clear H
            have hnb66 := NB283_262.out
            have hnc66 := NB262_283.out
            have hnb67 := NB283_271.out
            have hnc67 := NB271_283.out
            have hnb68 := NB283_292.out
            have hnc68 := NB292_283.out
            have hcz69_0 : wc.cell? ⟨gb283, 0, none⟩ = some (.int .i64 t279) := (blk_cell BK283.out 0).trans rfl
            have hcz69_1 : wc.cell? ⟨gb283, 1, none⟩ = some (.int .i64 t280) := (blk_cell BK283.out 1).trans rfl
            have hfz69_0 := blk_frozen BK283.out 0
            have hfz69_1 := blk_frozen BK283.out 1
            go_upto_region 17 with (fail)
            go_cut [125] (fun v125 wc => ∃ (kq : Nat) (x125_64 : Bool), v125 = .bool x125_64 ∧ Aside0 (j3 kq l0 0 (wrap64 (Int.tmod (IntKind.u64.wrap (a3)) 20)) t278 (wrap64 ((wrap64 (Int.tmod (IntKind.u64.wrap (a4)) 60)) + 1)) x68_2 x125_64 a1_0 a1_1 (wrap64 (a1_0 + (wrap64 (Int.tmod (IntKind.u64.wrap (a3)) 20)))) a1_1 (wrap64 (t279 + (wrap64 (Int.tmod (IntKind.u64.wrap (a3)) 20)))) t280 = some r) ∧ Aside0 (kq ≤ kj42) ∧ Aside0 (wc.heap[gb262]? = some (.cells #[.int .i64 a1_0, .int .i64 a1_1] 23 (0, 0))) ∧ Aside0 (wc.heap[gb271]? = some (.cells #[.int .i64 (wrap64 (a1_0 + (wrap64 (Int.tmod (IntKind.u64.wrap (a3)) 20)))), .int .i64 a1_1] 23 (0, 0))) ∧ Aside0 (wc.heap[gb283]? = some (.cells #[.int .i64 (wrap64 (t279 + (wrap64 (Int.tmod (IntKind.u64.wrap (a3)) 20)))), .int .i64 t280] 23 (0, 0))) ∧ Aside0 (wc.heap[gb292]? = some (.cells #[.int .i64 t288, .int .i64 t289] 23 (0, 0))) ∧ Aside0 (Below w.heap.size w wc))
            case first =>
             have H := HC65.out
             clear HC65
             by_cases c70 : t278 = t287
             ·rw [if_pos c70] at H
              have c70b0 : (t278 == t287) = true := beq_iff_eq.mpr c70
              have c70b1 : (t278 != t287) = false := bne_eq_false_iff_eq.mpr c70
              clear c70
              (first | rw [c70b0] | (simp only [i64_w, i32_w]; rw [c70b0]) | skip)
              by_cases c71 : (!((wrap64 (t279 + (wrap64 (Int.tmod (IntKind.u64.wrap (a3)) 20)))) == t288) || (!(t280 == t289))) = true
              ·rw [if_pos c71] at H
               have c71b0 : (!((wrap64 (t279 + (wrap64 (Int.tmod (IntKind.u64.wrap (a3)) 20)))) == t288) || (!(t280 == t289))) = true := c71
               clear c71
               as_aux_lemma =>
                have H' := Aside0.mk H
                clear H
                have hnb72 := NB283_262.out
                have hnc72 := NB262_283.out
                have hnb73 := NB283_271.out
                have hnc73 := NB271_283.out
                have hnb74 := NB283_292.out
                have hnc74 := NB292_283.out
                have hcz75_0 : wc.cell? ⟨gb283, 0, none⟩ = some (.int .i64 t279) := (blk_cell BK283.out 0).trans rfl
                have hcz75_1 : wc.cell? ⟨gb283, 1, none⟩ = some (.int .i64 t280) := (blk_cell BK283.out 1).trans rfl
                have hfz75_0 := blk_frozen BK283.out 0
                have hfz75_1 := blk_frozen BK283.out 1
                have hnb76 := NB292_262.out
                have hnc76 := NB262_292.out
                have hnb77 := NB292_271.out
                have hnc77 := NB271_292.out
                have hcz78_0 : wc.cell? ⟨gb292, 0, none⟩ = some (.int .i64 t288) := (blk_cell BK292.out 0).trans rfl
                have hcz78_1 : wc.cell? ⟨gb292, 1, none⟩ = some (.int .i64 t289) := (blk_cell BK292.out 1).trans rfl
                have hfz78_0 := blk_frozen BK292.out 0
                have hfz78_1 := blk_frozen BK292.out 1
                go_wp2
                go_meet
                case rel => (try rw [← Niq29.out]); exact ⟨_, (true), (by first | rfl | (simp; done) | (simp [*]; done)), H', ⟨by have := HJ5.out; have := HK2.out; have := HJ42.out; first | omega | exact Nat.le_refl _⟩, ⟨bk_ (blk_far (bk_ BK262.out) NB262_283.out _)⟩, ⟨bk_ (blk_far (bk_ BK271.out) NB271_283.out _)⟩, ⟨by (with_reducible repeat (first | refine blk_drewN ?_ _ | refine blk_drew ?_ | refine blk_alloc ?_ _)); refine blk_put (cs := #[.int .i64 t279, .int .i64 t280]) ?_ 0 _ rfl; (with_reducible repeat (first | refine blk_drewN ?_ _ | refine blk_drew ?_ | refine blk_alloc ?_ _)); exact BK283.out⟩, ⟨bk_ (blk_far (bk_ BK292.out) NB292_283.out _)⟩, ⟨hb_ HB.out⟩⟩
              rw [if_neg c71] at H
              have c71b0 : (!((wrap64 (t279 + (wrap64 (Int.tmod (IntKind.u64.wrap (a3)) 20)))) == t288) || (!(t280 == t289))) = false := by simpa using c71
              clear c71
              as_aux_lemma =>
               have H' := Aside0.mk H
               clear H
               have hnb79 := NB283_262.out
               have hnc79 := NB262_283.out
               have hnb80 := NB283_271.out
               have hnc80 := NB271_283.out
               have hnb81 := NB283_292.out
               have hnc81 := NB292_283.out
               have hcz82_0 : wc.cell? ⟨gb283, 0, none⟩ = some (.int .i64 t279) := (blk_cell BK283.out 0).trans rfl
               have hcz82_1 : wc.cell? ⟨gb283, 1, none⟩ = some (.int .i64 t280) := (blk_cell BK283.out 1).trans rfl
               have hfz82_0 := blk_frozen BK283.out 0
               have hfz82_1 := blk_frozen BK283.out 1
               have hnb83 := NB292_262.out
               have hnc83 := NB262_292.out
               have hnb84 := NB292_271.out
               have hnc84 := NB271_292.out
               have hcz85_0 : wc.cell? ⟨gb292, 0, none⟩ = some (.int .i64 t288) := (blk_cell BK292.out 0).trans rfl
               have hcz85_1 : wc.cell? ⟨gb292, 1, none⟩ = some (.int .i64 t289) := (blk_cell BK292.out 1).trans rfl
               have hfz85_0 := blk_frozen BK292.out 0
               have hfz85_1 := blk_frozen BK292.out 1
               go_wp2
               go_meet
               case rel => (try rw [← Niq29.out]); exact ⟨_, ((t281 != t290)), (by first | rfl | (simp; done) | (simp [*]; done)), H', ⟨by have := HJ5.out; have := HK2.out; have := HJ42.out; first | omega | exact Nat.le_refl _⟩, ⟨bk_ (blk_far (bk_ BK262.out) NB262_283.out _)⟩, ⟨bk_ (blk_far (bk_ BK271.out) NB271_283.out _)⟩, ⟨by (with_reducible repeat (first | refine blk_drewN ?_ _ | refine blk_drew ?_ | refine blk_alloc ?_ _)); refine blk_put (cs := #[.int .i64 t279, .int .i64 t280]) ?_ 0 _ rfl; (with_reducible repeat (first | refine blk_drewN ?_ _ | refine blk_drew ?_ | refine blk_alloc ?_ _)); exact BK283.out⟩, ⟨bk_ (blk_far (bk_ BK292.out) NB292_283.out _)⟩, ⟨hb_ HB.out⟩⟩
             rw [if_neg c70] at H
             have c70b0 : (t278 == t287) = false := beq_eq_false_iff_ne.mpr c70
             have c70b1 : (t278 != t287) = true := bne_iff_ne.mpr c70
             (first | rw [c70b0] | (simp only [i64_w, i32_w]; rw [c70b0]) | skip)
             as_aux_lemma =>
              have H' := Aside0.mk H
              clear H
              go_wp2
              go_meet
              case rel => (try rw [← Niq29.out]); exact ⟨_, (true), (by first | rfl | (simp; done) | (simp [*]; done)), H', ⟨by have := HJ5.out; have := HK2.out; have := HJ42.out; first | omega | exact Nat.le_refl _⟩, ⟨bk_ (blk_far (bk_ BK262.out) NB262_283.out _)⟩, ⟨bk_ (blk_far (bk_ BK271.out) NB271_283.out _)⟩, ⟨by (with_reducible repeat (first | refine blk_drewN ?_ _ | refine blk_drew ?_ | refine blk_alloc ?_ _)); refine blk_put (cs := #[.int .i64 t279, .int .i64 t280]) ?_ 0 _ rfl; (with_reducible repeat (first | refine blk_drewN ?_ _ | refine blk_drew ?_ | refine blk_alloc ?_ _)); exact BK283.out⟩, ⟨bk_ (blk_far (bk_ BK292.out) NB292_283.out _)⟩, ⟨hb_ HB.out⟩⟩
            case rest =>
             clear HC65
             try clear c1
             try clear p2
             try clear q2
             try clear c6
             try clear p6
             try clear c7
             try clear c8
             try clear c10
             try clear c11
             try clear q29
             try clear c61
             try clear c61b0
             try clear c61b1
             try clear c62
             try clear c62b0
             try clear c62b1
             try clear c63
             try clear c63b0
             try clear c64
             try clear p64
             try clear c66
             try clear c67
             try clear c68
             try clear c70
             try clear c70b0
             try clear c70b1
             try clear c71
             try clear c71b0
             try clear c72
             try clear c73
             try clear c74
             try clear c76
             try clear c77
             try clear c79
             try clear c80
             try clear c81
             try clear c83
             try clear c84
             try clear hcz69_0
             try clear hcz69_1
             try clear hcz75_0
             try clear hcz75_1
             try clear hcz78_0
             try clear hcz78_1
             try clear hcz82_0
             try clear hcz82_1
             try clear hcz85_0
             try clear hcz85_1
             try clear hfz69_0
             try clear hfz69_1
             try clear hfz75_0
             try clear hfz75_1
             try clear hfz78_0
             try clear hfz78_1
             try clear hfz82_0
             try clear hfz82_1
             try clear hfz85_0
             try clear hfz85_1
             try clear p2
             try clear p6
             try clear q2
             try clear q29
             obtain ⟨kq, x125_64, rfl, HA, HJ64, BK262, BK271, BK283, BK292, HB⟩ := hcut
             cases kq with
             | zero => exact absurd HA.out (by simp [j3])
             | succ kj64 =>
              have H := HA.out
              clear HA
              simp only [j3] at H
              by_cases c86 : x125_64 = true
              ·subst c86
               have H1 : (some false) = some r := by rw [if_pos rfl] at H; exact H
               clear H
               have H := H1
               clear H1
               as_aux_lemma =>
                obtain rfl := Option.some.inj H
                go_wp2
                go_ret
                exact ⟨by first | rfl | (simp [errW_none, errW_some] <;> rfl) | (simp [*, errW_none, errW_some] <;> rfl), hb_ HB.out⟩
              ·replace c86 := Bool.eq_false_iff.mpr c86
               subst c86
               have H1 : (if 0 ≤ t278 then (if t278 < (l0.length : Int) then (if ((rd_T39 l0 t278).f0) = 2 then (if ((rd_T39 l0 t278).f1) = 0 then (if 0 = 0 then (j4 kj64 l0 0 (wrap64 (Int.tmod (IntKind.u64.wrap (a3)) 20)) (wrap64 ((wrap64 (Int.tmod (IntKind.u64.wrap (a4)) 60)) + 1)) x68_2 ((wrap64 (t279 + (wrap64 (Int.tmod (IntKind.u64.wrap (a3)) 20)))) == (wrap64 (Int.tmod (IntKind.u64.wrap (a3)) 20))) a1_0 a1_1 (wrap64 (a1_0 + (wrap64 (Int.tmod (IntKind.u64.wrap (a3)) 20)))) a1_1) else (if 0 = 1 then (j4 kj64 l0 1 (wrap64 (Int.tmod (IntKind.u64.wrap (a3)) 20)) (wrap64 ((wrap64 (Int.tmod (IntKind.u64.wrap (a4)) 60)) + 1)) x68_2 (t280 == (wrap64 (Int.tmod (IntKind.u64.wrap (a3)) 20))) a1_0 a1_1 (wrap64 (a1_0 + (wrap64 (Int.tmod (IntKind.u64.wrap (a3)) 20)))) a1_1) else (none))) else (j4 kj64 l0 0 (wrap64 (Int.tmod (IntKind.u64.wrap (a3)) 20)) (wrap64 ((wrap64 (Int.tmod (IntKind.u64.wrap (a4)) 60)) + 1)) x68_2 false a1_0 a1_1 (wrap64 (a1_0 + (wrap64 (Int.tmod (IntKind.u64.wrap (a3)) 20)))) a1_1)) else (j4 kj64 l0 0 (wrap64 (Int.tmod (IntKind.u64.wrap (a3)) 20)) (wrap64 ((wrap64 (Int.tmod (IntKind.u64.wrap (a4)) 60)) + 1)) x68_2 false a1_0 a1_1 (wrap64 (a1_0 + (wrap64 (Int.tmod (IntKind.u64.wrap (a3)) 20)))) a1_1)) else (none)) else (none)) = some r := by rw [if_neg (show ¬ (false = true) by decide)] at H; exact H
               clear H
               have H := H1
               clear H1
               have HC87 := Aside0.mk H
               clear H
               go_upto_region 19 with (fail)
               go_cut [147] (fun v147 wc => ∃ (kq : Nat) (x147_86 : Bool), v147 = .bool x147_86 ∧ Aside0 (j4 kq l0 0 (wrap64 (Int.tmod (IntKind.u64.wrap (a3)) 20)) (wrap64 ((wrap64 (Int.tmod (IntKind.u64.wrap (a4)) 60)) + 1)) x68_2 x147_86 a1_0 a1_1 (wrap64 (a1_0 + (wrap64 (Int.tmod (IntKind.u64.wrap (a3)) 20)))) a1_1 = some r) ∧ Aside0 (kq ≤ kj64) ∧ Aside0 (wc.heap[gb262]? = some (.cells #[.int .i64 a1_0, .int .i64 a1_1] 23 (0, 0))) ∧ Aside0 (wc.heap[gb271]? = some (.cells #[.int .i64 (wrap64 (a1_0 + (wrap64 (Int.tmod (IntKind.u64.wrap (a3)) 20)))), .int .i64 a1_1] 23 (0, 0))) ∧ Aside0 (wc.heap[gb283]? = some (.cells #[.int .i64 (wrap64 (t279 + (wrap64 (Int.tmod (IntKind.u64.wrap (a3)) 20)))), .int .i64 t280] 23 (0, 0))) ∧ Aside0 (wc.heap[gb292]? = some (.cells #[.int .i64 t288, .int .i64 t289] 23 (0, 0))) ∧ Aside0 (Below w.heap.size w wc))
               case first =>
                have H := HC87.out
                clear HC87
                by_cases c88 : 0 ≤ t278
                ·rw [if_pos c88] at H
                 have c88b0 : decide (0 ≤ t278) = true := decide_eq_true c88
                 clear c88
                 (first | rw [c88b0] | (simp only [i64_w, i32_w]; rw [c88b0]) | skip)
                 by_cases c89 : t278 < (l0.length : Int)
                 ·rw [if_pos c89] at H
                  have c89b0 : decide (t278 < (l0.length : Int)) = true := decide_eq_true c89
                  clear c89
                  by_cases c90 : ((rd_T39 l0 t278).f0) = 2
                  ·rw [if_pos c90] at H
                   have c90b0 : (((rd_T39 l0 t278).f0) == 2) = true := beq_iff_eq.mpr c90
                   have c90b1 : (((rd_T39 l0 t278).f0) != 2) = false := bne_eq_false_iff_eq.mpr c90
                   clear c90
                   by_cases c91 : ((rd_T39 l0 t278).f1) = 0
                   ·rw [if_pos c91] at H
                    have c91b0 : (((rd_T39 l0 t278).f1) == 0) = true := beq_iff_eq.mpr c91
                    have c91b1 : (((rd_T39 l0 t278).f1) != 0) = false := bne_eq_false_iff_eq.mpr c91
                    clear c91
                    (first | rw [if_pos (show ((0 : Int) = (0 : Int)) by decide)] at H | rw [if_pos (show ((0 : Nat) = (0 : Nat)) by decide)] at H)
                    as_aux_lemma =>
                     have H' := Aside0.mk H
                     clear H
                     have p293 : 0 ≤ (t278 : Int) := of_decide_eq_true (by first | (with_reducible assumption) | assumption)
                     have q293 : t278 < (l0.length : Int) := of_decide_eq_true (by first | (with_reducible assumption) | assumption)
                     obtain ⟨ad293, e293, hx293_0, hx293_1, hx293_2, hx293_3⟩ := at_T39 HR0.out t278 p293 q293
                     (try rw [← Niq29.out] at hx293_0)
                     (try rw [← Niq29.out] at hx293_1)
                     (try rw [← Niq29.out] at hx293_2)
                     (try rw [← Niq29.out] at hx293_3)
                     cases e293
                     replace hx293_0 := (HB.out.cell (World.block_lt_of_cell? w _ hx293_0)).trans hx293_0
                     replace hx293_1 := (HB.out.cell (World.block_lt_of_cell? w _ hx293_1)).trans hx293_1
                     replace hx293_2 := (HB.out.cell (World.block_lt_of_cell? w _ hx293_2)).trans hx293_2
                     replace hx293_3 := (HB.out.cell (World.block_lt_of_cell? w _ hx293_3)).trans hx293_3
                     replace p293 := eq_true p293
                     replace q293 := eq_true q293
                     have p294 : 0 ≤ (t278 : Int) := of_decide_eq_true (by first | (with_reducible assumption) | assumption)
                     have q294 : t278 < (l0.length : Int) := of_decide_eq_true (by first | (with_reducible assumption) | assumption)
                     obtain ⟨ad294, e294, hx294_0, hx294_1, hx294_2, hx294_3⟩ := at_T39 HR0.out t278 p294 q294
                     (try rw [← Niq29.out] at hx294_0)
                     (try rw [← Niq29.out] at hx294_1)
                     (try rw [← Niq29.out] at hx294_2)
                     (try rw [← Niq29.out] at hx294_3)
                     obtain rfl : ad293 = ad294 := (by injection e294)
                     replace hx294_0 := (HB.out.cell (World.block_lt_of_cell? w _ hx294_0)).trans hx294_0
                     replace hx294_1 := (HB.out.cell (World.block_lt_of_cell? w _ hx294_1)).trans hx294_1
                     replace hx294_2 := (HB.out.cell (World.block_lt_of_cell? w _ hx294_2)).trans hx294_2
                     replace hx294_3 := (HB.out.cell (World.block_lt_of_cell? w _ hx294_3)).trans hx294_3
                     replace p294 := eq_true p294
                     replace q294 := eq_true q294
                     have hnb92 := NB283_262.out
                     have hnc92 := NB262_283.out
                     have hnb93 := NB283_271.out
                     have hnc93 := NB271_283.out
                     have hnb94 := NB283_292.out
                     have hnc94 := NB292_283.out
                     have hcz95_0 : wc.cell? ⟨gb283, 0, none⟩ = some (.int .i64 (wrap64 (t279 + (wrap64 (Int.tmod (IntKind.u64.wrap (a3)) 20))))) := (blk_cell BK283.out 0).trans rfl
                     have hcz95_1 : wc.cell? ⟨gb283, 1, none⟩ = some (.int .i64 t280) := (blk_cell BK283.out 1).trans rfl
                     have hfz95_0 := blk_frozen BK283.out 0
                     have hfz95_1 := blk_frozen BK283.out 1
                     go_wp2
                     go_meet
                     case rel => (try rw [← Niq29.out]); exact ⟨_, (((wrap64 (t279 + (wrap64 (Int.tmod (IntKind.u64.wrap (a3)) 20)))) == (wrap64 (Int.tmod (IntKind.u64.wrap (a3)) 20)))), (by first | rfl | (simp; done) | (simp [*]; done)), H', ⟨by have := HJ5.out; have := HK2.out; have := HJ42.out; have := HJ64.out; first | omega | exact Nat.le_refl _⟩, ⟨bk_ BK262.out⟩, ⟨bk_ BK271.out⟩, ⟨bk_ BK283.out⟩, ⟨bk_ BK292.out⟩, ⟨hb_ HB.out⟩⟩
                   rw [if_neg c91] at H
                   have c91b0 : (((rd_T39 l0 t278).f1) == 0) = false := beq_eq_false_iff_ne.mpr c91
                   have c91b1 : (((rd_T39 l0 t278).f1) != 0) = true := bne_iff_ne.mpr c91
                   as_aux_lemma =>
                    have H' := Aside0.mk H
                    clear H
                    have p293 : 0 ≤ (t278 : Int) := of_decide_eq_true (by first | (with_reducible assumption) | assumption)
                    have q293 : t278 < (l0.length : Int) := of_decide_eq_true (by first | (with_reducible assumption) | assumption)
                    obtain ⟨ad293, e293, hx293_0, hx293_1, hx293_2, hx293_3⟩ := at_T39 HR0.out t278 p293 q293
                    (try rw [← Niq29.out] at hx293_0)
                    (try rw [← Niq29.out] at hx293_1)
                    (try rw [← Niq29.out] at hx293_2)
                    (try rw [← Niq29.out] at hx293_3)
                    cases e293
                    replace hx293_0 := (HB.out.cell (World.block_lt_of_cell? w _ hx293_0)).trans hx293_0
                    replace hx293_1 := (HB.out.cell (World.block_lt_of_cell? w _ hx293_1)).trans hx293_1
                    replace hx293_2 := (HB.out.cell (World.block_lt_of_cell? w _ hx293_2)).trans hx293_2
                    replace hx293_3 := (HB.out.cell (World.block_lt_of_cell? w _ hx293_3)).trans hx293_3
                    replace p293 := eq_true p293
                    replace q293 := eq_true q293
                    have p294 : 0 ≤ (t278 : Int) := of_decide_eq_true (by first | (with_reducible assumption) | assumption)
                    have q294 : t278 < (l0.length : Int) := of_decide_eq_true (by first | (with_reducible assumption) | assumption)
                    obtain ⟨ad294, e294, hx294_0, hx294_1, hx294_2, hx294_3⟩ := at_T39 HR0.out t278 p294 q294
                    (try rw [← Niq29.out] at hx294_0)
                    (try rw [← Niq29.out] at hx294_1)
                    (try rw [← Niq29.out] at hx294_2)
                    (try rw [← Niq29.out] at hx294_3)
                    obtain rfl : ad293 = ad294 := (by injection e294)
                    replace hx294_0 := (HB.out.cell (World.block_lt_of_cell? w _ hx294_0)).trans hx294_0
                    replace hx294_1 := (HB.out.cell (World.block_lt_of_cell? w _ hx294_1)).trans hx294_1
                    replace hx294_2 := (HB.out.cell (World.block_lt_of_cell? w _ hx294_2)).trans hx294_2
                    replace hx294_3 := (HB.out.cell (World.block_lt_of_cell? w _ hx294_3)).trans hx294_3
                    replace p294 := eq_true p294
                    replace q294 := eq_true q294
                    go_wp2
                    go_meet
                    case rel => (try rw [← Niq29.out]); exact ⟨_, (false), (by first | rfl | (simp; done) | (simp [*]; done)), H', ⟨by have := HJ5.out; have := HK2.out; have := HJ42.out; have := HJ64.out; first | omega | exact Nat.le_refl _⟩, ⟨bk_ BK262.out⟩, ⟨bk_ BK271.out⟩, ⟨bk_ BK283.out⟩, ⟨bk_ BK292.out⟩, ⟨hb_ HB.out⟩⟩
                  rw [if_neg c90] at H
                  have c90b0 : (((rd_T39 l0 t278).f0) == 2) = false := beq_eq_false_iff_ne.mpr c90
                  have c90b1 : (((rd_T39 l0 t278).f0) != 2) = true := bne_iff_ne.mpr c90
                  as_aux_lemma =>
                   have H' := Aside0.mk H
                   clear H
                   have p293 : 0 ≤ (t278 : Int) := of_decide_eq_true (by first | (with_reducible assumption) | assumption)
                   have q293 : t278 < (l0.length : Int) := of_decide_eq_true (by first | (with_reducible assumption) | assumption)
                   obtain ⟨ad293, e293, hx293_0, hx293_1, hx293_2, hx293_3⟩ := at_T39 HR0.out t278 p293 q293
                   (try rw [← Niq29.out] at hx293_0)
                   (try rw [← Niq29.out] at hx293_1)
                   (try rw [← Niq29.out] at hx293_2)
                   (try rw [← Niq29.out] at hx293_3)
                   cases e293
                   replace hx293_0 := (HB.out.cell (World.block_lt_of_cell? w _ hx293_0)).trans hx293_0
                   replace hx293_1 := (HB.out.cell (World.block_lt_of_cell? w _ hx293_1)).trans hx293_1
                   replace hx293_2 := (HB.out.cell (World.block_lt_of_cell? w _ hx293_2)).trans hx293_2
                   replace hx293_3 := (HB.out.cell (World.block_lt_of_cell? w _ hx293_3)).trans hx293_3
                   replace p293 := eq_true p293
                   replace q293 := eq_true q293
                   go_wp2
                   go_meet
                   case rel => (try rw [← Niq29.out]); exact ⟨_, (false), (by first | rfl | (simp; done) | (simp [*]; done)), H', ⟨by have := HJ5.out; have := HK2.out; have := HJ42.out; have := HJ64.out; first | omega | exact Nat.le_refl _⟩, ⟨bk_ BK262.out⟩, ⟨bk_ BK271.out⟩, ⟨bk_ BK283.out⟩, ⟨bk_ BK292.out⟩, ⟨hb_ HB.out⟩⟩
                 rw [if_neg c89] at H
                 exact absurd H (by simp)
                rw [if_neg c88] at H
                exact absurd H (by simp)
               case rest =>
                clear HC87
                try clear c1
                try clear p2
                try clear q2
                try clear hx2
                try clear c6
                try clear p6
                try clear c7
                try clear c8
                try clear c9
                try clear c10
                try clear c11
                try clear p29
                try clear q29
                try clear hx29
                try clear c61
                try clear c61b0
                try clear c61b1
                try clear c62
                try clear c62b0
                try clear c62b1
                try clear c63
                try clear c63b0
                try clear c64
                try clear p64
                try clear c66
                try clear c67
                try clear c68
                try clear c70
                try clear c70b0
                try clear c70b1
                try clear c71
                try clear c71b0
                try clear c72
                try clear c73
                try clear c74
                try clear c76
                try clear c77
                try clear c79
                try clear c80
                try clear c81
                try clear c83
                try clear c84
                try clear c86
                try clear c88
                try clear c88b0
                try clear c89
                try clear c89b0
                try clear c90
                try clear c90b0
                try clear c90b1
                try clear c91
                try clear c91b0
                try clear c91b1
                try clear c92
                try clear c93
                try clear c94
                try clear hcz69_0
                try clear hcz69_1
                try clear hcz75_0
                try clear hcz75_1
                try clear hcz78_0
                try clear hcz78_1
                try clear hcz82_0
                try clear hcz82_1
                try clear hcz85_0
                try clear hcz85_1
                try clear hcz95_0
                try clear hcz95_1
                try clear hfz69_0
                try clear hfz69_1
                try clear hfz75_0
                try clear hfz75_1
                try clear hfz78_0
                try clear hfz78_1
                try clear hfz82_0
                try clear hfz82_1
                try clear hfz85_0
                try clear hfz85_1
                try clear hfz95_0
                try clear hfz95_1
                try clear hx293_0
                try clear hx293_1
                try clear hx293_2
                try clear hx293_3
                try clear hx294_0
                try clear hx294_1
                try clear hx294_2
                try clear hx294_3
                try clear p2
                try clear p293
                try clear p294
                try clear p6
                try clear p64
                try clear q2
                try clear q29
                try clear q293
                try clear q294
                obtain ⟨kq, x147_86, rfl, HA, HJ86, BK262, BK271, BK283, BK292, HB⟩ := hcut
                cases kq with
                | zero => exact absurd HA.out (by simp [j4])
                | succ kj86 =>
                 have H := HA.out
                 clear HA
                 simp only [j4] at H
                 by_cases c96 : x147_86 = true
                 ·subst c96
                  have H1 : ((comfitlaw06_awake.f kj86).bind fun t295 => (some t295)) = some r := by rw [if_pos rfl] at H; exact H
                  clear H
                  have H := H1
                  clear H1
                  replace H := Option.bind_eq_some_iff.mp H
                  obtain ⟨t295, A970, H⟩ := H
                  replace H : (some t295) = some r := H
                  have A97 := Aside0.mk A970
                  clear A970
                  as_aux_lemma =>
                   obtain rfl := Option.some.inj H
                   go_wp2_with (first | ((with_reducible refine gate_callee (f := 14) rfl ?_); refine goesL_ (some 148) rfl rfl Try.func14 (by kernel_rfl) rfl #[] rfl al_ ?_; (with_reducible refine (comfitlaw06_awake.calls kj86  t295 _ A97.out).mono ?_); rintro e w98 ⟨rfl, hb⟩; refine ⟨_, rfl, ?_⟩; have n0_ := Aside0.mk (bkb_ BK262.out hb); have n1_ := Aside0.mk (bkb_ BK271.out hb); have n2_ := Aside0.mk (bkb_ BK283.out hb); have n3_ := Aside0.mk (bkb_ BK292.out hb); have n4_ := Aside0.mk (below_step (hb_ HB.out) hb); clear BK262; clear BK271; clear BK283; clear BK292; clear HB; have BK262 := n0_; have BK271 := n1_; have BK283 := n2_; have BK292 := n3_; have HB := n4_; clear n0_ n1_ n2_ n3_ n4_; (try clear hb); (try clear hb2); (try clear hk); (try clear hi)))
                   go_ret
                   exact ⟨by first | rfl | (simp [errW_none, errW_some] <;> rfl) | (simp [*, errW_none, errW_some] <;> rfl), hb_ HB.out⟩
                 ·replace c96 := Bool.eq_false_iff.mpr c96
                  subst c96
                  have H1 : (l0 kj86 l0 0 (wrap64 (Int.tmod (IntKind.u64.wrap (a3)) 20)) (wrap64 ((wrap64 (Int.tmod (IntKind.u64.wrap (a4)) 60)) + 1)) (wrap64 (x68_2 + 1)) a1_0 a1_1 (wrap64 (a1_0 + (wrap64 (Int.tmod (IntKind.u64.wrap (a3)) 20)))) a1_1) = some r := by rw [if_neg (show ¬ (false = true) by decide)] at H; exact H
                  clear H
                  have H := H1
                  clear H1
                  as_aux_lemma =>
                   have H' := Aside0.mk H
                   clear H
                   go_wp2
                   go_roundg kj86
                   case measure => have := HJ5.out; have := HK2.out; have := HJ42.out; have := HJ64.out; have := HJ86.out; omega
                   case rel => (try rw [← Niq29.out]); exact ⟨(wrap64 (x68_2 + 1)), (by first | rfl | (simp; done) | (simp [*]; done)), H', ⟨by have := HJ5.out; have := HK2.out; have := HJ42.out; have := HJ64.out; have := HJ86.out; omega⟩, ⟨bk_ BK262.out⟩, ⟨bk_ BK271.out⟩, ⟨hb_ HB.out⟩⟩
        rw [if_neg c38] at H
        have c38b0 : decide (x68_2 < (wrap64 ((wrap64 (Int.tmod (IntKind.u64.wrap (a4)) 60)) + 1))) = false := decide_eq_false c38
        clear c38
        replace H := Option.bind_eq_some_iff.mp H
        obtain ⟨t274, A990, H⟩ := H
        replace H : (some t274) = some r := H
        have A99 := Aside0.mk A990
        clear A990
        as_aux_lemma =>
         obtain rfl := Option.some.inj H
         go_wp2_with (first | ((with_reducible refine gate_callee (f := 14) rfl ?_); refine goesL_ (some 150) rfl rfl Try.func14 (by kernel_rfl) rfl #[] rfl al_ ?_; (with_reducible refine (comfitlaw06_awake.calls k2  t274 _ A99.out).mono ?_); rintro e w100 ⟨rfl, hb⟩; refine ⟨_, rfl, ?_⟩; have n0_ := Aside0.mk (bkb_ BK262.out hb); have n1_ := Aside0.mk (bkb_ BK271.out hb); have n2_ := Aside0.mk (below_step (hb_ HB.out) hb); clear BK262; clear BK271; clear HB; have BK262 := n0_; have BK271 := n1_; have HB := n2_; clear n0_ n1_ n2_; (try clear hb); (try clear hb2); (try clear hk); (try clear hi)))
         go_ret
         exact ⟨by first | rfl | (simp [errW_none, errW_some] <;> rfl) | (simp [*, errW_none, errW_some] <;> rfl), hb_ HB.out⟩
     ·replace c32 := Bool.eq_false_iff.mpr c32
      subst c32
      have H1 : ((comfitlaw06_awake.f kj5).bind fun t273 => (some t273)) = some r := by rw [if_neg (show ¬ (false = true) by decide)] at H; exact H
      clear H
      have H := H1
      clear H1
      replace H := Option.bind_eq_some_iff.mp H
      obtain ⟨t273, A1010, H⟩ := H
      replace H : (some t273) = some r := H
      have A101 := Aside0.mk A1010
      clear A1010
      as_aux_lemma =>
       obtain rfl := Option.some.inj H
       have hcz102_0 : wc.cell? ⟨gb262, 0, none⟩ = some (.int .i64 a1_0) := (blk_cell BK262.out 0).trans rfl
       have hcz102_1 : wc.cell? ⟨gb262, 1, none⟩ = some (.int .i64 a1_1) := (blk_cell BK262.out 1).trans rfl
       have hfz102_0 := blk_frozen BK262.out 0
       have hfz102_1 := blk_frozen BK262.out 1
       go_wp2_with (first | ((with_reducible refine gate_dst (N := 13) rfl ?_); (try (refine gate_guard (by rfl) ?_; dsimp only)); refine box_event ?hg (N := 13) ?hd (cs := #[.int .i64 0, .int .i64 0]) (t := 23) ?hr ?_; (case hd => rfl); (case hg => rfl); (case hr => first | (go_simp; done) | (go_simp; rfl)); intro gb271 hg w103 hbox hb; have n0_ := Aside0.mk (bkb_ BK262.out hb); have n1_ := Aside0.mk (below_step (hb_ HB.out) hb); have n2_ := Aside0.mk (hbox); have n3_ := Aside0.mk ((by rw [hg]; exact (below_size (hb_ HB.out)) : w.heap.size ≤ gb271)); have n4_ := Aside0.mk ((by rw [hg]; exact (below_size (hb_ HB.out)) : w.heap.size ≤ gb271)); have n5_ := Aside0.mk ((by rw [hg]; exact Nat.ne_of_lt (bkl_ BK262.out) : gb262 ≠ gb271)); have n6_ := Aside0.mk ((by rw [hg]; exact Nat.ne_of_gt (bkl_ BK262.out) : gb271 ≠ gb262)); clear BK262; clear HB; have BK262 := n0_; have HB := n1_; have BK271 := n2_; have GW271 := n3_; have GE271 := n4_; have NB262_271 := n5_; have NB271_262 := n6_; clear n0_ n1_ n2_ n3_ n4_ n5_ n6_; clear hb hbox hg; have hnb104 := NB271_262.out; have hnc104 := NB262_271.out; have hcz105_0 : w103.cell? ⟨gb271, 0, none⟩ = some (.int .i64 0) := (blk_cell BK271.out 0).trans rfl; have hcz105_1 : w103.cell? ⟨gb271, 1, none⟩ = some (.int .i64 0) := (blk_cell BK271.out 1).trans rfl; have hfz105_0 := blk_frozen BK271.out 0; have hfz105_1 := blk_frozen BK271.out 1) | ((with_reducible refine gate_callee (f := 13) rfl ?_); refine goesL_ (some 63) rfl rfl Try.func13 (by kernel_rfl) rfl #[.agg #[.int .i64 (wrap64 (a1_0 + (wrap64 (Int.tmod (IntKind.u64.wrap (a3)) 20)))), .int .i64 a1_1]] rfl al_ ?_; (with_reducible refine (comfitref06_Jars.calls (wrap64 (a1_0 + (wrap64 (Int.tmod (IntKind.u64.wrap (a3)) 20)))) a1_1 false _ A31.out).mono ?_); rintro e w106 ⟨rfl, hb⟩; refine ⟨_, rfl, ?_⟩; have n0_ := Aside0.mk (blk_below (g := gb262) (o := .cells #[.int .i64 a1_0, .int .i64 a1_1] 23 (0, 0)) (by (with_reducible repeat (first | refine blk_drewN ?_ _ | refine blk_drew ?_ | refine blk_alloc ?_ _)); refine blk_far ?_ NB262_271.out _; (with_reducible repeat (first | refine blk_drewN ?_ _ | refine blk_drew ?_ | refine blk_alloc ?_ _)); refine blk_far ?_ NB262_271.out _; (with_reducible repeat (first | refine blk_drewN ?_ _ | refine blk_drew ?_ | refine blk_alloc ?_ _)); refine blk_far ?_ NB262_271.out _; (with_reducible repeat (first | refine blk_drewN ?_ _ | refine blk_drew ?_ | refine blk_alloc ?_ _)); exact BK262.out) hb); have n1_ := Aside0.mk (blk_below (g := gb271) (o := .cells #[.int .i64 (wrap64 (a1_0 + (wrap64 (Int.tmod (IntKind.u64.wrap (a3)) 20)))), .int .i64 a1_1] 23 (0, 0)) (by (with_reducible repeat (first | refine blk_drewN ?_ _ | refine blk_drew ?_ | refine blk_alloc ?_ _)); refine blk_put (cs := #[.int .i64 a1_0, .int .i64 a1_1]) ?_ 0 _ rfl; (with_reducible repeat (first | refine blk_drewN ?_ _ | refine blk_drew ?_ | refine blk_alloc ?_ _)); refine blk_put (cs := #[.int .i64 a1_0, .int .i64 0]) ?_ 1 _ rfl; (with_reducible repeat (first | refine blk_drewN ?_ _ | refine blk_drew ?_ | refine blk_alloc ?_ _)); refine blk_put (cs := #[.int .i64 0, .int .i64 0]) ?_ 0 _ rfl; (with_reducible repeat (first | refine blk_drewN ?_ _ | refine blk_drew ?_ | refine blk_alloc ?_ _)); exact BK271.out) hb); have n2_ := Aside0.mk (below_step (hb_ HB.out) hb); clear BK262; clear BK271; clear HB; have BK262 := n0_; have BK271 := n1_; have HB := n2_; clear n0_ n1_ n2_; (try clear hb); (try clear hb2); (try clear hk); (try clear hi)) | ((with_reducible refine gate_callee (f := 14) rfl ?_); refine goesL_ (some 65) rfl rfl Try.func14 (by kernel_rfl) rfl #[] rfl al_ ?_; (with_reducible refine (comfitlaw06_awake.calls kj5  t273 _ A101.out).mono ?_); rintro e w107 ⟨rfl, hb⟩; refine ⟨_, rfl, ?_⟩; have n0_ := Aside0.mk (bkb_ BK262.out hb); have n1_ := Aside0.mk (bkb_ BK271.out hb); have n2_ := Aside0.mk (below_step (hb_ HB.out) hb); clear BK262; clear BK271; clear HB; have BK262 := n0_; have BK271 := n1_; have HB := n2_; clear n0_ n1_ n2_; (try clear hb); (try clear hb2); (try clear hk); (try clear hi)))
       go_ret
       exact ⟨by first | rfl | (simp [errW_none, errW_some] <;> rfl) | (simp [*, errW_none, errW_some] <;> rfl), hb_ HB.out⟩
    ·rw [if_neg c30] at H
     have c30b0 : ((iq29) == 0) = false := beq_eq_false_iff_ne.mpr c30
     have c30b1 : ((iq29) != 0) = true := bne_iff_ne.mpr c30
     by_cases c108 : (iq29) = 1
     ·rw [if_pos c108] at H
      subst c108
      replace H := Option.bind_eq_some_iff.mp H
      obtain ⟨t299, A1090, H⟩ := H
      replace H : (if t299 = true then (l0 kj5 l0 1 (wrap64 (Int.tmod (IntKind.u64.wrap (a3)) 20)) (wrap64 ((wrap64 (Int.tmod (IntKind.u64.wrap (a4)) 60)) + 1)) 0 a1_0 a1_1 a1_0 (wrap64 (a1_1 + (wrap64 (Int.tmod (IntKind.u64.wrap (a3)) 20))))) else ((comfitlaw06_awake.f kj5).bind fun t300 => (some t300))) = some r := H
      have A109 := Aside0.mk A1090
      clear A1090
      by_cases c110 : t299 = true
      ·subst c110
       have H1 : (l0 kj5 l0 1 (wrap64 (Int.tmod (IntKind.u64.wrap (a3)) 20)) (wrap64 ((wrap64 (Int.tmod (IntKind.u64.wrap (a4)) 60)) + 1)) 0 a1_0 a1_1 a1_0 (wrap64 (a1_1 + (wrap64 (Int.tmod (IntKind.u64.wrap (a3)) 20))))) = some r := by rw [if_pos rfl] at H; exact H
       clear H
       have H := H1
       clear H1
       have H' := Aside0.mk H
       clear H
       have hcz111_0 : wc.cell? ⟨gb262, 0, none⟩ = some (.int .i64 a1_0) := (blk_cell BK262.out 0).trans rfl
       have hcz111_1 : wc.cell? ⟨gb262, 1, none⟩ = some (.int .i64 a1_1) := (blk_cell BK262.out 1).trans rfl
       have hfz111_0 := blk_frozen BK262.out 0
       have hfz111_1 := blk_frozen BK262.out 1
       go_wp2_with (first | ((with_reducible refine gate_dst (N := 13) rfl ?_); (try (refine gate_guard (by rfl) ?_; dsimp only)); refine box_event ?hg (N := 13) ?hd (cs := #[.int .i64 0, .int .i64 0]) (t := 23) ?hr ?_; (case hd => rfl); (case hg => rfl); (case hr => first | (go_simp; done) | (go_simp; rfl)); intro gb271 hg w112 hbox hb; have n0_ := Aside0.mk (bkb_ BK262.out hb); have n1_ := Aside0.mk (below_step (hb_ HB.out) hb); have n2_ := Aside0.mk (hbox); have n3_ := Aside0.mk ((by rw [hg]; exact (below_size (hb_ HB.out)) : w.heap.size ≤ gb271)); have n4_ := Aside0.mk ((by rw [hg]; exact (below_size (hb_ HB.out)) : w.heap.size ≤ gb271)); have n5_ := Aside0.mk ((by rw [hg]; exact Nat.ne_of_lt (bkl_ BK262.out) : gb262 ≠ gb271)); have n6_ := Aside0.mk ((by rw [hg]; exact Nat.ne_of_gt (bkl_ BK262.out) : gb271 ≠ gb262)); clear BK262; clear HB; have BK262 := n0_; have HB := n1_; have BK271 := n2_; have GW271 := n3_; have GE271 := n4_; have NB262_271 := n5_; have NB271_262 := n6_; clear n0_ n1_ n2_ n3_ n4_ n5_ n6_; clear hb hbox hg; have hnb113 := NB271_262.out; have hnc113 := NB262_271.out; have hcz114_0 : w112.cell? ⟨gb271, 0, none⟩ = some (.int .i64 0) := (blk_cell BK271.out 0).trans rfl; have hcz114_1 : w112.cell? ⟨gb271, 1, none⟩ = some (.int .i64 0) := (blk_cell BK271.out 1).trans rfl; have hfz114_0 := blk_frozen BK271.out 0; have hfz114_1 := blk_frozen BK271.out 1) | ((with_reducible refine gate_callee (f := 13) rfl ?_); refine goesL_ (some 63) rfl rfl Try.func13 (by kernel_rfl) rfl #[.agg #[.int .i64 a1_0, .int .i64 (wrap64 (a1_1 + (wrap64 (Int.tmod (IntKind.u64.wrap (a3)) 20))))]] rfl al_ ?_; (with_reducible refine (comfitref06_Jars.calls a1_0 (wrap64 (a1_1 + (wrap64 (Int.tmod (IntKind.u64.wrap (a3)) 20)))) true _ A109.out).mono ?_); rintro e w115 ⟨rfl, hb⟩; refine ⟨_, rfl, ?_⟩; have n0_ := Aside0.mk (blk_below (g := gb262) (o := .cells #[.int .i64 a1_0, .int .i64 a1_1] 23 (0, 0)) (by (with_reducible repeat (first | refine blk_drewN ?_ _ | refine blk_drew ?_ | refine blk_alloc ?_ _)); refine blk_far ?_ NB262_271.out _; (with_reducible repeat (first | refine blk_drewN ?_ _ | refine blk_drew ?_ | refine blk_alloc ?_ _)); refine blk_far ?_ NB262_271.out _; (with_reducible repeat (first | refine blk_drewN ?_ _ | refine blk_drew ?_ | refine blk_alloc ?_ _)); refine blk_far ?_ NB262_271.out _; (with_reducible repeat (first | refine blk_drewN ?_ _ | refine blk_drew ?_ | refine blk_alloc ?_ _)); exact BK262.out) hb); have n1_ := Aside0.mk (blk_below (g := gb271) (o := .cells #[.int .i64 a1_0, .int .i64 (wrap64 (a1_1 + (wrap64 (Int.tmod (IntKind.u64.wrap (a3)) 20))))] 23 (0, 0)) (by (with_reducible repeat (first | refine blk_drewN ?_ _ | refine blk_drew ?_ | refine blk_alloc ?_ _)); refine blk_put (cs := #[.int .i64 a1_0, .int .i64 a1_1]) ?_ 1 _ rfl; (with_reducible repeat (first | refine blk_drewN ?_ _ | refine blk_drew ?_ | refine blk_alloc ?_ _)); refine blk_put (cs := #[.int .i64 a1_0, .int .i64 0]) ?_ 1 _ rfl; (with_reducible repeat (first | refine blk_drewN ?_ _ | refine blk_drew ?_ | refine blk_alloc ?_ _)); refine blk_put (cs := #[.int .i64 0, .int .i64 0]) ?_ 0 _ rfl; (with_reducible repeat (first | refine blk_drewN ?_ _ | refine blk_drew ?_ | refine blk_alloc ?_ _)); exact BK271.out) hb); have n2_ := Aside0.mk (below_step (hb_ HB.out) hb); clear BK262; clear BK271; clear HB; have BK262 := n0_; have BK271 := n1_; have HB := n2_; clear n0_ n1_ n2_; (try clear hb); (try clear hb2); (try clear hk); (try clear hi)))
       go_loopg [68] kj5 (fun kq v68 w' => ∃ (x68_2 : Int), v68 = .int .i64 x68_2 ∧ Aside0 (l0 kq l0 1 (wrap64 (Int.tmod (IntKind.u64.wrap (a3)) 20)) (wrap64 ((wrap64 (Int.tmod (IntKind.u64.wrap (a4)) 60)) + 1)) x68_2 a1_0 a1_1 a1_0 (wrap64 (a1_1 + (wrap64 (Int.tmod (IntKind.u64.wrap (a3)) 20)))) = some r) ∧ Aside0 (kq ≤ kj5) ∧ Aside0 (w'.heap[gb262]? = some (.cells #[.int .i64 a1_0, .int .i64 a1_1] 23 (0, 0))) ∧ Aside0 (w'.heap[gb271]? = some (.cells #[.int .i64 a1_0, .int .i64 (wrap64 (a1_1 + (wrap64 (Int.tmod (IntKind.u64.wrap (a3)) 20))))] 23 (0, 0))) ∧ Aside0 (Below w.heap.size w w'))
       case atStart => exact ⟨(0), (by first | rfl | (simp; done) | (simp [*]; done)), H', ⟨Nat.le_refl _⟩, ⟨bk_ BK262.out⟩, ⟨bk_ BK271.out⟩, ⟨hb_ HB.out⟩⟩
       case round =>
        clear H'
        try clear c1
        try clear p2
        try clear q2
        try clear hx2
        try clear c3
        try clear c6
        try clear p6
        try clear c7
        try clear c8
        try clear c9
        try clear c10
        try clear c11
        try clear c13
        try clear c14
        try clear p29
        try clear q29
        try clear hx29
        try clear c30
        try clear c30b0
        try clear c30b1
        try clear c32
        try clear c38
        try clear c38b0
        try clear c61
        try clear c61b0
        try clear c61b1
        try clear c62
        try clear c62b0
        try clear c62b1
        try clear c63
        try clear c63b0
        try clear c64
        try clear p64
        try clear c66
        try clear c67
        try clear c68
        try clear c70
        try clear c70b0
        try clear c70b1
        try clear c71
        try clear c71b0
        try clear c72
        try clear c73
        try clear c74
        try clear c76
        try clear c77
        try clear c79
        try clear c80
        try clear c81
        try clear c83
        try clear c84
        try clear c86
        try clear c88
        try clear c88b0
        try clear c89
        try clear c89b0
        try clear c90
        try clear c90b0
        try clear c90b1
        try clear c91
        try clear c91b0
        try clear c91b1
        try clear c92
        try clear c93
        try clear c94
        try clear c96
        try clear c104
        try clear c108
        try clear c110
        try clear c113
        try clear hcz102_0
        try clear hcz102_1
        try clear hcz105_0
        try clear hcz105_1
        try clear hcz111_0
        try clear hcz111_1
        try clear hcz114_0
        try clear hcz114_1
        try clear hcz69_0
        try clear hcz69_1
        try clear hcz75_0
        try clear hcz75_1
        try clear hcz78_0
        try clear hcz78_1
        try clear hcz82_0
        try clear hcz82_1
        try clear hcz85_0
        try clear hcz85_1
        try clear hcz95_0
        try clear hcz95_1
        try clear hfz102_0
        try clear hfz102_1
        try clear hfz105_0
        try clear hfz105_1
        try clear hfz111_0
        try clear hfz111_1
        try clear hfz114_0
        try clear hfz114_1
        try clear hfz69_0
        try clear hfz69_1
        try clear hfz75_0
        try clear hfz75_1
        try clear hfz78_0
        try clear hfz78_1
        try clear hfz82_0
        try clear hfz82_1
        try clear hfz85_0
        try clear hfz85_1
        try clear hfz95_0
        try clear hfz95_1
        try clear hx293_0
        try clear hx293_1
        try clear hx293_2
        try clear hx293_3
        try clear hx294_0
        try clear hx294_1
        try clear hx294_2
        try clear hx294_3
        try clear p2
        try clear p29
        try clear p293
        try clear p294
        try clear p6
        try clear p64
        try clear q2
        try clear q29
        try clear q293
        try clear q294
        obtain ⟨x68_2, rfl, HA, HK2, BK262, BK271, HB⟩ := hrel
        cases gk with
        | zero => exact absurd HA.out (by simp [l0])
        | succ k2 =>
         have H := HA.out
         clear HA
         simp only [l0] at H
         by_cases c116 : x68_2 < (wrap64 ((wrap64 (Int.tmod (IntKind.u64.wrap (a4)) 60)) + 1))
         ·rw [if_pos c116] at H
          have c116b0 : decide (x68_2 < (wrap64 ((wrap64 (Int.tmod (IntKind.u64.wrap (a4)) 60)) + 1))) = true := decide_eq_true c116
          clear c116
          replace H := Option.bind_eq_some_iff.mp H
          obtain ⟨t275, A1170, H⟩ := H
          replace H : ((tags_Go.f k2 t275 a1_0 a1_1 x68_2).bind fun bt278 => ((comfitlaw06_Of.f k2 l0).bind fun t284 => ((tags_Go.f k2 t284 a1_0 (wrap64 (a1_1 + (wrap64 (Int.tmod (IntKind.u64.wrap (a3)) 20)))) x68_2).bind fun bt287 => (if bt278.2.2.2.2 = 0 then (if bt287.2.2.2.2 = 0 then (if bt278.1 < 0 then (j2 k2 l0 1 (wrap64 (Int.tmod (IntKind.u64.wrap (a3)) 20)) bt278.1 bt278.2.2.2.1 bt287.1 bt287.2.2.2.1 (wrap64 ((wrap64 (Int.tmod (IntKind.u64.wrap (a4)) 60)) + 1)) x68_2 true a1_0 a1_1 a1_0 (wrap64 (a1_1 + (wrap64 (Int.tmod (IntKind.u64.wrap (a3)) 20)))) bt278.2.1 bt278.2.2.1 bt287.2.1 bt287.2.2.1) else (j2 k2 l0 1 (wrap64 (Int.tmod (IntKind.u64.wrap (a3)) 20)) bt278.1 bt278.2.2.2.1 bt287.1 bt287.2.2.2.1 (wrap64 ((wrap64 (Int.tmod (IntKind.u64.wrap (a4)) 60)) + 1)) x68_2 (decide (bt278.1 ≥ (l0.length : Int))) a1_0 a1_1 a1_0 (wrap64 (a1_1 + (wrap64 (Int.tmod (IntKind.u64.wrap (a3)) 20)))) bt278.2.1 bt278.2.2.1 bt287.2.1 bt287.2.2.1)) else (j2 k2 l0 1 (wrap64 (Int.tmod (IntKind.u64.wrap (a3)) 20)) bt278.1 bt278.2.2.2.1 bt287.1 bt287.2.2.2.1 (wrap64 ((wrap64 (Int.tmod (IntKind.u64.wrap (a4)) 60)) + 1)) x68_2 true a1_0 a1_1 a1_0 (wrap64 (a1_1 + (wrap64 (Int.tmod (IntKind.u64.wrap (a3)) 20)))) bt278.2.1 bt278.2.2.1 bt287.2.1 bt287.2.2.1)) else (j2 k2 l0 1 (wrap64 (Int.tmod (IntKind.u64.wrap (a3)) 20)) bt278.1 bt278.2.2.2.1 bt287.1 bt287.2.2.2.1 (wrap64 ((wrap64 (Int.tmod (IntKind.u64.wrap (a4)) 60)) + 1)) x68_2 true a1_0 a1_1 a1_0 (wrap64 (a1_1 + (wrap64 (Int.tmod (IntKind.u64.wrap (a3)) 20)))) bt278.2.1 bt278.2.2.1 bt287.2.1 bt287.2.2.1))))) = some r := H
          have A117 := Aside0.mk A1170
          clear A1170
          replace H := Option.bind_eq_some_iff.mp H
          obtain ⟨⟨t278, t279, t280, t281, t282⟩, A1180, H⟩ := H
          replace H : ((comfitlaw06_Of.f k2 l0).bind fun t284 => ((tags_Go.f k2 t284 a1_0 (wrap64 (a1_1 + (wrap64 (Int.tmod (IntKind.u64.wrap (a3)) 20)))) x68_2).bind fun bt287 => (if t282 = 0 then (if bt287.2.2.2.2 = 0 then (if t278 < 0 then (j2 k2 l0 1 (wrap64 (Int.tmod (IntKind.u64.wrap (a3)) 20)) t278 t281 bt287.1 bt287.2.2.2.1 (wrap64 ((wrap64 (Int.tmod (IntKind.u64.wrap (a4)) 60)) + 1)) x68_2 true a1_0 a1_1 a1_0 (wrap64 (a1_1 + (wrap64 (Int.tmod (IntKind.u64.wrap (a3)) 20)))) t279 t280 bt287.2.1 bt287.2.2.1) else (j2 k2 l0 1 (wrap64 (Int.tmod (IntKind.u64.wrap (a3)) 20)) t278 t281 bt287.1 bt287.2.2.2.1 (wrap64 ((wrap64 (Int.tmod (IntKind.u64.wrap (a4)) 60)) + 1)) x68_2 (decide (t278 ≥ (l0.length : Int))) a1_0 a1_1 a1_0 (wrap64 (a1_1 + (wrap64 (Int.tmod (IntKind.u64.wrap (a3)) 20)))) t279 t280 bt287.2.1 bt287.2.2.1)) else (j2 k2 l0 1 (wrap64 (Int.tmod (IntKind.u64.wrap (a3)) 20)) t278 t281 bt287.1 bt287.2.2.2.1 (wrap64 ((wrap64 (Int.tmod (IntKind.u64.wrap (a4)) 60)) + 1)) x68_2 true a1_0 a1_1 a1_0 (wrap64 (a1_1 + (wrap64 (Int.tmod (IntKind.u64.wrap (a3)) 20)))) t279 t280 bt287.2.1 bt287.2.2.1)) else (j2 k2 l0 1 (wrap64 (Int.tmod (IntKind.u64.wrap (a3)) 20)) t278 t281 bt287.1 bt287.2.2.2.1 (wrap64 ((wrap64 (Int.tmod (IntKind.u64.wrap (a4)) 60)) + 1)) x68_2 true a1_0 a1_1 a1_0 (wrap64 (a1_1 + (wrap64 (Int.tmod (IntKind.u64.wrap (a3)) 20)))) t279 t280 bt287.2.1 bt287.2.2.1)))) = some r := H
          have A118 := Aside0.mk A1180
          clear A1180
          replace H := Option.bind_eq_some_iff.mp H
          obtain ⟨t284, A1190, H⟩ := H
          replace H : ((tags_Go.f k2 t284 a1_0 (wrap64 (a1_1 + (wrap64 (Int.tmod (IntKind.u64.wrap (a3)) 20)))) x68_2).bind fun bt287 => (if t282 = 0 then (if bt287.2.2.2.2 = 0 then (if t278 < 0 then (j2 k2 l0 1 (wrap64 (Int.tmod (IntKind.u64.wrap (a3)) 20)) t278 t281 bt287.1 bt287.2.2.2.1 (wrap64 ((wrap64 (Int.tmod (IntKind.u64.wrap (a4)) 60)) + 1)) x68_2 true a1_0 a1_1 a1_0 (wrap64 (a1_1 + (wrap64 (Int.tmod (IntKind.u64.wrap (a3)) 20)))) t279 t280 bt287.2.1 bt287.2.2.1) else (j2 k2 l0 1 (wrap64 (Int.tmod (IntKind.u64.wrap (a3)) 20)) t278 t281 bt287.1 bt287.2.2.2.1 (wrap64 ((wrap64 (Int.tmod (IntKind.u64.wrap (a4)) 60)) + 1)) x68_2 (decide (t278 ≥ (l0.length : Int))) a1_0 a1_1 a1_0 (wrap64 (a1_1 + (wrap64 (Int.tmod (IntKind.u64.wrap (a3)) 20)))) t279 t280 bt287.2.1 bt287.2.2.1)) else (j2 k2 l0 1 (wrap64 (Int.tmod (IntKind.u64.wrap (a3)) 20)) t278 t281 bt287.1 bt287.2.2.2.1 (wrap64 ((wrap64 (Int.tmod (IntKind.u64.wrap (a4)) 60)) + 1)) x68_2 true a1_0 a1_1 a1_0 (wrap64 (a1_1 + (wrap64 (Int.tmod (IntKind.u64.wrap (a3)) 20)))) t279 t280 bt287.2.1 bt287.2.2.1)) else (j2 k2 l0 1 (wrap64 (Int.tmod (IntKind.u64.wrap (a3)) 20)) t278 t281 bt287.1 bt287.2.2.2.1 (wrap64 ((wrap64 (Int.tmod (IntKind.u64.wrap (a4)) 60)) + 1)) x68_2 true a1_0 a1_1 a1_0 (wrap64 (a1_1 + (wrap64 (Int.tmod (IntKind.u64.wrap (a3)) 20)))) t279 t280 bt287.2.1 bt287.2.2.1))) = some r := H
          have A119 := Aside0.mk A1190
          clear A1190
          replace H := Option.bind_eq_some_iff.mp H
          obtain ⟨⟨t287, t288, t289, t290, t291⟩, A1200, H⟩ := H
          replace H : (if t282 = 0 then (if t291 = 0 then (if t278 < 0 then (j2 k2 l0 1 (wrap64 (Int.tmod (IntKind.u64.wrap (a3)) 20)) t278 t281 t287 t290 (wrap64 ((wrap64 (Int.tmod (IntKind.u64.wrap (a4)) 60)) + 1)) x68_2 true a1_0 a1_1 a1_0 (wrap64 (a1_1 + (wrap64 (Int.tmod (IntKind.u64.wrap (a3)) 20)))) t279 t280 t288 t289) else (j2 k2 l0 1 (wrap64 (Int.tmod (IntKind.u64.wrap (a3)) 20)) t278 t281 t287 t290 (wrap64 ((wrap64 (Int.tmod (IntKind.u64.wrap (a4)) 60)) + 1)) x68_2 (decide (t278 ≥ (l0.length : Int))) a1_0 a1_1 a1_0 (wrap64 (a1_1 + (wrap64 (Int.tmod (IntKind.u64.wrap (a3)) 20)))) t279 t280 t288 t289)) else (j2 k2 l0 1 (wrap64 (Int.tmod (IntKind.u64.wrap (a3)) 20)) t278 t281 t287 t290 (wrap64 ((wrap64 (Int.tmod (IntKind.u64.wrap (a4)) 60)) + 1)) x68_2 true a1_0 a1_1 a1_0 (wrap64 (a1_1 + (wrap64 (Int.tmod (IntKind.u64.wrap (a3)) 20)))) t279 t280 t288 t289)) else (j2 k2 l0 1 (wrap64 (Int.tmod (IntKind.u64.wrap (a3)) 20)) t278 t281 t287 t290 (wrap64 ((wrap64 (Int.tmod (IntKind.u64.wrap (a4)) 60)) + 1)) x68_2 true a1_0 a1_1 a1_0 (wrap64 (a1_1 + (wrap64 (Int.tmod (IntKind.u64.wrap (a3)) 20)))) t279 t280 t288 t289)) = some r := H
          have A120 := Aside0.mk A1200
          clear A1200
          have HC121 := Aside0.mk H
          clear H
          try go_wp2
          have n0_ := Aside0.mk (blk_drew BK262.out)
          have n1_ := Aside0.mk (blk_drew BK271.out)
          have n2_ := Aside0.mk (below_drew1 HB.out)
          clear BK262
          clear BK271
          clear HB
          have BK262 := n0_
          have BK271 := n1_
          have HB := n2_
          clear n0_ n1_ n2_
          refine start_ (n := 15) (S := fun w' => w'.cell? ⟨gb262, 0, none⟩ = some (.int .i64 a1_0) ∧ w'.cell? ⟨gb262, 1, none⟩ = some (.int .i64 a1_1)) (ds := []) #[false, false, false, false, false, false, false, false, false, false, false, false, false, false, false] (by kernel_rfl) rfl rfl ⟨(blk_cell BK262.out 0).trans rfl, (blk_cell BK262.out 1).trans rfl⟩ (fun hHeld => ?_); refine with_tabW comfitlaw06_TagsMore.tab12 comfitlaw06_TagsMore.bits12 (fun HT_ HW_ => ?_)
          generalize wr.drew = w122 at BK262 BK271 HB hHeld ⊢
          refine pure_ (i := 0) (N := some 72) (v := ?_) (a' := ?_) #[true, false, false, false, false, false, false, false, false, false, false, false, false, false, false] rfl rfl (any_of HT_.out (by kernel_rfl)) (fun _ _ _ h => h) (Or.inl ⟨by rfl, ?_⟩) ?_ ?_
          rotate_left
          ·intro w'
           go_simp
           with_reducible rfl
          rotate_left
          ·simp only [Act.put, List.setIfInBounds_toArray, List.set_cons_zero, List.set_cons_succ, i64_w, i32_w]
           rfl
          refine pure_ (i := 3) (N := some 75) (v := ?_) (a' := ?_) #[true, false, false, true, false, false, false, false, false, false, false, false, false, false, false] rfl rfl (any_of HT_.out (by kernel_rfl)) (fun _ _ _ h => h) (Or.inl ⟨by rfl, ?_⟩) ?_ ?_
          rotate_left
          ·intro w'
           go_simp
           with_reducible rfl
          rotate_left
          ·simp only [Act.put, List.setIfInBounds_toArray, List.set_cons_zero, List.set_cons_succ, i64_w, i32_w]
           rfl
          refine take_ (i := 2) (N := some 74) (v := ?_) (a' := ?_) #[true, false, true, true, false, false, false, false, false, false, false, false, false, false, false] rfl rfl (take_ofW HT_.out HW_.out (by kernel_rfl)) (fun _ _ _ h => h) (Or.inl ⟨by rfl, ?_⟩) hHeld ?_ ?_
          rotate_left
          ·rintro w' ⟨s0, s1⟩
           go_simp
           with_reducible rfl
          rotate_left
          ·simp only [Act.put, List.setIfInBounds_toArray, List.set_cons_zero, List.set_cons_succ, i64_w, i32_w]
           rfl
          refine join_ (σ := Value × Nat) 4 #[true, true, true, true, true, true, true, true, true, true, true, false, false, false, false] (fun s_ => [(73, s_.1), (76, .tuple #[.int .i64 t278, .agg #[.int .i64 t279, .int .i64 t280], .int .i64 t281, .int .i64 t282]), (16, .pointer (some ⟨s_.2, 0, none⟩)), (71, .tuple #[.int .i64 t278, .agg #[.int .i64 t279, .int .i64 t280], .int .i64 t281, .int .i64 t282]), (77, .int .i64 t278), (78, .agg #[.int .i64 t279, .int .i64 t280]), (79, .int .i64 t281), (80, .int .i64 t282)]) (fun s_ w' => (w'.cell? ⟨gb262, 0, none⟩ = some (.int .i64 a1_0) ∧ w'.cell? ⟨gb262, 1, none⟩ = some (.int .i64 a1_1)) ∧ (Kd.R k57 57 w' w.heap.size (fun _ => True) s_.1 t275) ∧ (w'.heap[gb262]? = some (.cells #[.int .i64 a1_0, .int .i64 a1_1] 23 (0, 0))) ∧ (w'.heap[gb271]? = some (.cells #[.int .i64 a1_0, .int .i64 (wrap64 (a1_1 + (wrap64 (Int.tmod (IntKind.u64.wrap (a3)) 20))))] 23 (0, 0))) ∧ (w'.heap[s_.2]? = some (.cells #[.int .i64 0, .int .i64 0] 23 (0, 0))) ∧ (w.heap.size ≤ s_.2) ∧ (w.heap.size ≤ s_.2) ∧ (gb262 ≠ s_.2) ∧ (s_.2 ≠ gb262) ∧ (gb271 ≠ s_.2) ∧ (s_.2 ≠ gb271) ∧ (Below w.heap.size w w')) ?_ ?_
          rotate_left
          ·intro hCont
           refine two_ (i := 1) (j := 10) (Ni := some 73) (Nj := some 16) #[true, true, true, true, false, false, false, false, false, false, false, false, false, false, false] #[true, false, true, true, false, false, false, false, false, false, true, false, false, false, false] rfl rfl rfl rfl (two_of HT_.out (by kernel_rfl)) (by decide) (by decide) (fun K hK => ?_) (fun K hK => ?_)
           ·skip
            refine goes_ Try.func11 (by kernel_rfl) rfl #[.slice A0 l0.length c0] (by rfl) rfl rfl al_ ?_
            with_reducible refine (comfitlaw06_Of.calls k2 _ _ l0 t275 _ ?side1 ?side2 A117.out).mono ?_
            (case side1 => exact kc_ (Kd.C_below HR0.out HB.out))
            (case side2 => exact HC0.out)
            rintro e w123 ⟨v276, rfl, ho0, hb⟩
            refine ⟨_, rfl, ?_⟩
            have n0_ := Aside0.mk (Kd.R_lower ho0 (below_size (hb_ HB.out)))
            have n1_ := Aside0.mk (bkb_ BK262.out hb)
            have n2_ := Aside0.mk (bkb_ BK271.out hb)
            have n3_ := Aside0.mk (below_step (hb_ HB.out) hb)
            clear BK262
            clear BK271
            clear HB
            have HO277 := n0_
            have BK262 := n1_
            have BK271 := n2_
            have HB := n3_
            clear n0_ n1_ n2_ n3_
            (try clear hb)
            (try clear hb2)
            (try clear hk)
            (try clear hi)
            (try clear ho0)
            obtain ⟨Ao124, co124, eo124⟩ := Kd.R_slice HO277.out
            (first | subst eo124 | (injection eo124 with f1_ f2_ f3_; have f4_ := f1_.symm; have f5_ := f3_.symm; clear f1_ f2_ f3_; subst f4_; subst f5_))
            refine hK.out _ _ ⟨(blk_cell BK262.out 0).trans rfl, (blk_cell BK262.out 1).trans rfl⟩ (fun hHeld => ?_)
            clear hK K
            refine norm_ (a' := ?_) ?_ ?_
            rotate_left
            ·show Act.put _ (some 73) _ = _
             simp only [Act.put, List.setIfInBounds_toArray, List.set_cons_zero, List.set_cons_succ, i64_w, i32_w]
             rfl
            refine two_ (i := 4) (j := 10) (Ni := some 76) (Nj := some 16) #[true, true, true, true, true, false, false, false, false, false, false, false, false, false, false] #[true, true, true, true, false, false, false, false, false, false, true, false, false, false, false] rfl rfl rfl rfl (two_of HT_.out (by kernel_rfl)) (by decide) (by decide) (fun K hK => ?_) (fun K hK => ?_)
            ·skip
             refine goes_ Try.func10 (by kernel_rfl) rfl #[.slice Ao124 t275.length co124, .agg #[.int .i64 a1_0, .int .i64 a1_1], .int .i64 x68_2] (by rfl) rfl rfl al_ ?_
             with_reducible refine (tags_Go.calls k2 _ _ t275 a1_0 a1_1 x68_2 t278 t279 t280 t281 t282 _ ?side1 ?side2 A118.out).mono ?_
             (case side1 => exact kc_ (Kd.R_reads' HO277.out).2.2)
             (case side2 => exact (Kd.R_reads' HO277.out).2.1)
             rintro e w125 ⟨rfl, hb⟩
             refine ⟨_, rfl, ?_⟩
             have n0_ := Aside0.mk (Kd.R_below (kr_ (HO277.out)) hb)
             have n1_ := Aside0.mk (bkb_ BK262.out hb)
             have n2_ := Aside0.mk (bkb_ BK271.out hb)
             have n3_ := Aside0.mk (below_step (hb_ HB.out) hb)
             clear HO277
             clear BK262
             clear BK271
             clear HB
             have HO277 := n0_
             have BK262 := n1_
             have BK271 := n2_
             have HB := n3_
             clear n0_ n1_ n2_ n3_
             (try clear hb)
             (try clear hb2)
             (try clear hk)
             (try clear hi)
             refine hK.out _ _ ⟨(blk_cell BK262.out 0).trans rfl, (blk_cell BK262.out 1).trans rfl⟩ (fun hHeld => ?_)
             clear hK K
             refine norm_ (a' := ?_) ?_ ?_
             rotate_left
             ·show Act.put _ (some 76) _ = _
              simp only [Act.put, List.setIfInBounds_toArray, List.set_cons_zero, List.set_cons_succ, i64_w, i32_w]
              rfl
             refine pure_ (i := 5) (N := some 71) (v := ?_) (a' := ?_) #[true, true, true, true, true, true, false, false, false, false, false, false, false, false, false] rfl rfl (any_of HT_.out (by kernel_rfl)) (fun _ _ _ h => h) (Or.inl ⟨by rfl, ?_⟩) ?_ ?_
             rotate_left
             ·intro w'
              go_simp
              with_reducible rfl
             rotate_left
             ·simp only [Act.put, List.setIfInBounds_toArray, List.set_cons_zero, List.set_cons_succ, i64_w, i32_w]
              rfl
             refine pure_ (i := 6) (N := some 77) (v := ?_) (a' := ?_) #[true, true, true, true, true, true, true, false, false, false, false, false, false, false, false] rfl rfl (any_of HT_.out (by kernel_rfl)) (fun _ _ _ h => h) (Or.inl ⟨by rfl, ?_⟩) ?_ ?_
             rotate_left
             ·intro w'
              go_simp
              with_reducible rfl
             rotate_left
             ·simp only [Act.put, List.setIfInBounds_toArray, List.set_cons_zero, List.set_cons_succ, i64_w, i32_w]
              rfl
             refine pure_ (i := 7) (N := some 78) (v := ?_) (a' := ?_) #[true, true, true, true, true, true, true, true, false, false, false, false, false, false, false] rfl rfl (any_of HT_.out (by kernel_rfl)) (fun _ _ _ h => h) (Or.inl ⟨by rfl, ?_⟩) ?_ ?_
             rotate_left
             ·intro w'
              go_simp
              with_reducible rfl
             rotate_left
             ·simp only [Act.put, List.setIfInBounds_toArray, List.set_cons_zero, List.set_cons_succ, i64_w, i32_w]
              rfl
             refine pure_ (i := 8) (N := some 79) (v := ?_) (a' := ?_) #[true, true, true, true, true, true, true, true, true, false, false, false, false, false, false] rfl rfl (any_of HT_.out (by kernel_rfl)) (fun _ _ _ h => h) (Or.inl ⟨by rfl, ?_⟩) ?_ ?_
             rotate_left
             ·intro w'
              go_simp
              with_reducible rfl
             rotate_left
             ·simp only [Act.put, List.setIfInBounds_toArray, List.set_cons_zero, List.set_cons_succ, i64_w, i32_w]
              rfl
             refine pure_ (i := 9) (N := some 80) (v := ?_) (a' := ?_) #[true, true, true, true, true, true, true, true, true, true, false, false, false, false, false] rfl rfl (any_of HT_.out (by kernel_rfl)) (fun _ _ _ h => h) (Or.inl ⟨by rfl, ?_⟩) ?_ ?_
             rotate_left
             ·intro w'
              go_simp
              with_reducible rfl
             rotate_left
             ·simp only [Act.put, List.setIfInBounds_toArray, List.set_cons_zero, List.set_cons_succ, i64_w, i32_w]
              rfl
             refine one_ (i := 10) (N := some 16) #[true, true, true, true, true, true, true, true, true, true, true, false, false, false, false] rfl rfl (one_of HT_.out (by kernel_rfl)) (by decide) (fun K hK => ?_)
             refine box_step ?hg (N := 16) ?hd (cs := #[.int .i64 0, .int .i64 0]) (t := 23) ?hr ?_; (case hd => rfl); (case hg => rfl); (case hr => first | (go_simp; done) | (go_simp; rfl))
             intro gb283 hg w126 hbox hb
             have n0_ := Aside0.mk (Kd.R_below (kr_ (HO277.out)) hb)
             have n1_ := Aside0.mk (bkb_ BK262.out hb)
             have n2_ := Aside0.mk (bkb_ BK271.out hb)
             have n3_ := Aside0.mk (below_step (hb_ HB.out) hb)
             have n4_ := Aside0.mk (hbox)
             have n5_ := Aside0.mk ((by rw [hg]; exact (below_size (hb_ HB.out)) : w.heap.size ≤ gb283))
             have n6_ := Aside0.mk ((by rw [hg]; exact (below_size (hb_ HB.out)) : w.heap.size ≤ gb283))
             have n7_ := Aside0.mk ((by rw [hg]; exact Nat.ne_of_lt (bkl_ BK262.out) : gb262 ≠ gb283))
             have n8_ := Aside0.mk ((by rw [hg]; exact Nat.ne_of_gt (bkl_ BK262.out) : gb283 ≠ gb262))
             have n9_ := Aside0.mk ((by rw [hg]; exact Nat.ne_of_lt (bkl_ BK271.out) : gb271 ≠ gb283))
             have n10_ := Aside0.mk ((by rw [hg]; exact Nat.ne_of_gt (bkl_ BK271.out) : gb283 ≠ gb271))
             clear HO277
             clear BK262
             clear BK271
             clear HB
             have HO277 := n0_
             have BK262 := n1_
             have BK271 := n2_
             have HB := n3_
             have BK283 := n4_
             have GW283 := n5_
             have GE283 := n6_
             have NB262_283 := n7_
             have NB283_262 := n8_
             have NB271_283 := n9_
             have NB283_271 := n10_
             clear n0_ n1_ n2_ n3_ n4_ n5_ n6_ n7_ n8_ n9_ n10_
             clear hb hbox hg
             refine hK.out _ _ ⟨(blk_cell BK262.out 0).trans rfl, (blk_cell BK262.out 1).trans rfl⟩ (fun hHeld => ?_)
             clear hK K
             refine norm_ (a' := ?_) ?_ ?_
             rotate_left
             ·show Act.put _ (some 16) _ = _
              simp only [Act.put, List.setIfInBounds_toArray, List.set_cons_zero, List.set_cons_succ, i64_w, i32_w]
              rfl
             exact norm_ (by simp only [putAll, Act.put, List.setIfInBounds_toArray, List.set_cons_zero, List.set_cons_succ]) (hCont (.slice Ao124 t275.length co124, gb283) _ ⟨hHeld, (kr_ (HO277.out)), (bk_ BK262.out), (bk_ BK271.out), (bk_ BK283.out), GW283.out, GE283.out, NB262_283.out, NB283_262.out, NB271_283.out, NB283_271.out, (hb_ HB.out)⟩)
            ·skip
             refine box_step ?hg (N := 16) ?hd (cs := #[.int .i64 0, .int .i64 0]) (t := 23) ?hr ?_; (case hd => rfl); (case hg => rfl); (case hr => first | (go_simp; done) | (go_simp; rfl))
             intro gb283 hg w124 hbox hb
             have n0_ := Aside0.mk (Kd.R_below (kr_ (HO277.out)) hb)
             have n1_ := Aside0.mk (bkb_ BK262.out hb)
             have n2_ := Aside0.mk (bkb_ BK271.out hb)
             have n3_ := Aside0.mk (below_step (hb_ HB.out) hb)
             have n4_ := Aside0.mk (hbox)
             have n5_ := Aside0.mk ((by rw [hg]; exact (below_size (hb_ HB.out)) : w.heap.size ≤ gb283))
             have n6_ := Aside0.mk ((by rw [hg]; exact (below_size (hb_ HB.out)) : w.heap.size ≤ gb283))
             have n7_ := Aside0.mk ((by rw [hg]; exact Nat.ne_of_lt (bkl_ BK262.out) : gb262 ≠ gb283))
             have n8_ := Aside0.mk ((by rw [hg]; exact Nat.ne_of_gt (bkl_ BK262.out) : gb283 ≠ gb262))
             have n9_ := Aside0.mk ((by rw [hg]; exact Nat.ne_of_lt (bkl_ BK271.out) : gb271 ≠ gb283))
             have n10_ := Aside0.mk ((by rw [hg]; exact Nat.ne_of_gt (bkl_ BK271.out) : gb283 ≠ gb271))
             clear HO277
             clear BK262
             clear BK271
             clear HB
             have HO277 := n0_
             have BK262 := n1_
             have BK271 := n2_
             have HB := n3_
             have BK283 := n4_
             have GW283 := n5_
             have GE283 := n6_
             have NB262_283 := n7_
             have NB283_262 := n8_
             have NB271_283 := n9_
             have NB283_271 := n10_
             clear n0_ n1_ n2_ n3_ n4_ n5_ n6_ n7_ n8_ n9_ n10_
             clear hb hbox hg
             obtain ⟨Ao125, co125, eo125⟩ := Kd.R_slice HO277.out
             (first | subst eo125 | (injection eo125 with f1_ f2_ f3_; have f4_ := f1_.symm; have f5_ := f3_.symm; clear f1_ f2_ f3_; subst f4_; subst f5_))
             refine hK.out _ _ ⟨(blk_cell BK262.out 0).trans rfl, (blk_cell BK262.out 1).trans rfl⟩ (fun hHeld => ?_)
             clear hK K
             refine norm_ (a' := ?_) ?_ ?_
             rotate_left
             ·show Act.put _ (some 16) _ = _
              simp only [Act.put, List.setIfInBounds_toArray, List.set_cons_zero, List.set_cons_succ, i64_w, i32_w]
              rfl
             refine one_ (i := 4) (N := some 76) #[true, true, true, true, true, false, false, false, false, false, true, false, false, false, false] rfl rfl (one_of HT_.out (by kernel_rfl)) (by decide) (fun K hK => ?_)
             refine goes_ Try.func10 (by kernel_rfl) rfl #[.slice Ao125 t275.length co125, .agg #[.int .i64 a1_0, .int .i64 a1_1], .int .i64 x68_2] (by rfl) rfl rfl al_ ?_
             with_reducible refine (tags_Go.calls k2 _ _ t275 a1_0 a1_1 x68_2 t278 t279 t280 t281 t282 _ ?side1 ?side2 A118.out).mono ?_
             (case side1 => exact kc_ (Kd.R_reads' HO277.out).2.2)
             (case side2 => exact (Kd.R_reads' HO277.out).2.1)
             rintro e w126 ⟨rfl, hb⟩
             refine ⟨_, rfl, ?_⟩
             have n0_ := Aside0.mk (Kd.R_below (kr_ (HO277.out)) hb)
             have n1_ := Aside0.mk (bkb_ BK262.out hb)
             have n2_ := Aside0.mk (bkb_ BK271.out hb)
             have n3_ := Aside0.mk (bkb_ BK283.out hb)
             have n4_ := Aside0.mk (below_step (hb_ HB.out) hb)
             clear HO277
             clear BK262
             clear BK271
             clear BK283
             clear HB
             have HO277 := n0_
             have BK262 := n1_
             have BK271 := n2_
             have BK283 := n3_
             have HB := n4_
             clear n0_ n1_ n2_ n3_ n4_
             (try clear hb)
             (try clear hb2)
             (try clear hk)
             (try clear hi)
             refine hK.out _ _ ⟨(blk_cell BK262.out 0).trans rfl, (blk_cell BK262.out 1).trans rfl⟩ (fun hHeld => ?_)
             clear hK K
             refine norm_ (a' := ?_) ?_ ?_
             rotate_left
             ·show Act.put _ (some 76) _ = _
              simp only [Act.put, List.setIfInBounds_toArray, List.set_cons_zero, List.set_cons_succ, i64_w, i32_w]
              rfl
             refine pure_ (i := 5) (N := some 71) (v := ?_) (a' := ?_) #[true, true, true, true, true, true, false, false, false, false, true, false, false, false, false] rfl rfl (any_of HT_.out (by kernel_rfl)) (fun _ _ _ h => h) (Or.inl ⟨by rfl, ?_⟩) ?_ ?_
             rotate_left
             ·intro w'
              go_simp
              with_reducible rfl
             rotate_left
             ·simp only [Act.put, List.setIfInBounds_toArray, List.set_cons_zero, List.set_cons_succ, i64_w, i32_w]
              rfl
             refine pure_ (i := 6) (N := some 77) (v := ?_) (a' := ?_) #[true, true, true, true, true, true, true, false, false, false, true, false, false, false, false] rfl rfl (any_of HT_.out (by kernel_rfl)) (fun _ _ _ h => h) (Or.inl ⟨by rfl, ?_⟩) ?_ ?_
             rotate_left
             ·intro w'
              go_simp
              with_reducible rfl
             rotate_left
             ·simp only [Act.put, List.setIfInBounds_toArray, List.set_cons_zero, List.set_cons_succ, i64_w, i32_w]
              rfl
             refine pure_ (i := 7) (N := some 78) (v := ?_) (a' := ?_) #[true, true, true, true, true, true, true, true, false, false, true, false, false, false, false] rfl rfl (any_of HT_.out (by kernel_rfl)) (fun _ _ _ h => h) (Or.inl ⟨by rfl, ?_⟩) ?_ ?_
             rotate_left
             ·intro w'
              go_simp
              with_reducible rfl
             rotate_left
             ·simp only [Act.put, List.setIfInBounds_toArray, List.set_cons_zero, List.set_cons_succ, i64_w, i32_w]
              rfl
             refine pure_ (i := 8) (N := some 79) (v := ?_) (a' := ?_) #[true, true, true, true, true, true, true, true, true, false, true, false, false, false, false] rfl rfl (any_of HT_.out (by kernel_rfl)) (fun _ _ _ h => h) (Or.inl ⟨by rfl, ?_⟩) ?_ ?_
             rotate_left
             ·intro w'
              go_simp
              with_reducible rfl
             rotate_left
             ·simp only [Act.put, List.setIfInBounds_toArray, List.set_cons_zero, List.set_cons_succ, i64_w, i32_w]
              rfl
             refine pure_ (i := 9) (N := some 80) (v := ?_) (a' := ?_) #[true, true, true, true, true, true, true, true, true, true, true, false, false, false, false] rfl rfl (any_of HT_.out (by kernel_rfl)) (fun _ _ _ h => h) (Or.inl ⟨by rfl, ?_⟩) ?_ ?_
             rotate_left
             ·intro w'
              go_simp
              with_reducible rfl
             rotate_left
             ·simp only [Act.put, List.setIfInBounds_toArray, List.set_cons_zero, List.set_cons_succ, i64_w, i32_w]
              rfl
             exact norm_ (by simp only [putAll, Act.put, List.setIfInBounds_toArray, List.set_cons_zero, List.set_cons_succ]) (hCont (.slice Ao125 t275.length co125, gb283) _ ⟨hHeld, (kr_ (HO277.out)), (bk_ BK262.out), (bk_ BK271.out), (bk_ BK283.out), GW283.out, GE283.out, NB262_283.out, NB283_262.out, NB271_283.out, NB283_271.out, (hb_ HB.out)⟩)
           ·skip
            refine box_step ?hg (N := 16) ?hd (cs := #[.int .i64 0, .int .i64 0]) (t := 23) ?hr ?_; (case hd => rfl); (case hg => rfl); (case hr => first | (go_simp; done) | (go_simp; rfl))
            intro gb283 hg w123 hbox hb
            have n0_ := Aside0.mk (bkb_ BK262.out hb)
            have n1_ := Aside0.mk (bkb_ BK271.out hb)
            have n2_ := Aside0.mk (below_step (hb_ HB.out) hb)
            have n3_ := Aside0.mk (hbox)
            have n4_ := Aside0.mk ((by rw [hg]; exact (below_size (hb_ HB.out)) : w.heap.size ≤ gb283))
            have n5_ := Aside0.mk ((by rw [hg]; exact (below_size (hb_ HB.out)) : w.heap.size ≤ gb283))
            have n6_ := Aside0.mk ((by rw [hg]; exact Nat.ne_of_lt (bkl_ BK262.out) : gb262 ≠ gb283))
            have n7_ := Aside0.mk ((by rw [hg]; exact Nat.ne_of_gt (bkl_ BK262.out) : gb283 ≠ gb262))
            have n8_ := Aside0.mk ((by rw [hg]; exact Nat.ne_of_lt (bkl_ BK271.out) : gb271 ≠ gb283))
            have n9_ := Aside0.mk ((by rw [hg]; exact Nat.ne_of_gt (bkl_ BK271.out) : gb283 ≠ gb271))
            clear BK262
            clear BK271
            clear HB
            have BK262 := n0_
            have BK271 := n1_
            have HB := n2_
            have BK283 := n3_
            have GW283 := n4_
            have GE283 := n5_
            have NB262_283 := n6_
            have NB283_262 := n7_
            have NB271_283 := n8_
            have NB283_271 := n9_
            clear n0_ n1_ n2_ n3_ n4_ n5_ n6_ n7_ n8_ n9_
            clear hb hbox hg
            refine hK.out _ _ ⟨(blk_cell BK262.out 0).trans rfl, (blk_cell BK262.out 1).trans rfl⟩ (fun hHeld => ?_)
            clear hK K
            refine norm_ (a' := ?_) ?_ ?_
            rotate_left
            ·show Act.put _ (some 16) _ = _
             simp only [Act.put, List.setIfInBounds_toArray, List.set_cons_zero, List.set_cons_succ, i64_w, i32_w]
             rfl
            refine one_ (i := 1) (N := some 73) #[true, true, true, true, false, false, false, false, false, false, true, false, false, false, false] rfl rfl (one_of HT_.out (by kernel_rfl)) (by decide) (fun K hK => ?_)
            refine goes_ Try.func11 (by kernel_rfl) rfl #[.slice A0 l0.length c0] (by rfl) rfl rfl al_ ?_
            with_reducible refine (comfitlaw06_Of.calls k2 _ _ l0 t275 _ ?side1 ?side2 A117.out).mono ?_
            (case side1 => exact kc_ (Kd.C_below HR0.out HB.out))
            (case side2 => exact HC0.out)
            rintro e w124 ⟨v276, rfl, ho0, hb⟩
            refine ⟨_, rfl, ?_⟩
            have n0_ := Aside0.mk (Kd.R_lower ho0 (below_size (hb_ HB.out)))
            have n1_ := Aside0.mk (bkb_ BK262.out hb)
            have n2_ := Aside0.mk (bkb_ BK271.out hb)
            have n3_ := Aside0.mk (bkb_ BK283.out hb)
            have n4_ := Aside0.mk (below_step (hb_ HB.out) hb)
            clear BK262
            clear BK271
            clear BK283
            clear HB
            have HO277 := n0_
            have BK262 := n1_
            have BK271 := n2_
            have BK283 := n3_
            have HB := n4_
            clear n0_ n1_ n2_ n3_ n4_
            (try clear hb)
            (try clear hb2)
            (try clear hk)
            (try clear hi)
            (try clear ho0)
            obtain ⟨Ao125, co125, eo125⟩ := Kd.R_slice HO277.out
            (first | subst eo125 | (injection eo125 with f1_ f2_ f3_; have f4_ := f1_.symm; have f5_ := f3_.symm; clear f1_ f2_ f3_; subst f4_; subst f5_))
            refine hK.out _ _ ⟨(blk_cell BK262.out 0).trans rfl, (blk_cell BK262.out 1).trans rfl⟩ (fun hHeld => ?_)
            clear hK K
            refine norm_ (a' := ?_) ?_ ?_
            rotate_left
            ·show Act.put _ (some 73) _ = _
             simp only [Act.put, List.setIfInBounds_toArray, List.set_cons_zero, List.set_cons_succ, i64_w, i32_w]
             rfl
            refine one_ (i := 4) (N := some 76) #[true, true, true, true, true, false, false, false, false, false, true, false, false, false, false] rfl rfl (one_of HT_.out (by kernel_rfl)) (by decide) (fun K hK => ?_)
            refine goes_ Try.func10 (by kernel_rfl) rfl #[.slice Ao125 t275.length co125, .agg #[.int .i64 a1_0, .int .i64 a1_1], .int .i64 x68_2] (by rfl) rfl rfl al_ ?_
            with_reducible refine (tags_Go.calls k2 _ _ t275 a1_0 a1_1 x68_2 t278 t279 t280 t281 t282 _ ?side1 ?side2 A118.out).mono ?_
            (case side1 => exact kc_ (Kd.R_reads' HO277.out).2.2)
            (case side2 => exact (Kd.R_reads' HO277.out).2.1)
            rintro e w126 ⟨rfl, hb⟩
            refine ⟨_, rfl, ?_⟩
            have n0_ := Aside0.mk (Kd.R_below (kr_ (HO277.out)) hb)
            have n1_ := Aside0.mk (bkb_ BK262.out hb)
            have n2_ := Aside0.mk (bkb_ BK271.out hb)
            have n3_ := Aside0.mk (bkb_ BK283.out hb)
            have n4_ := Aside0.mk (below_step (hb_ HB.out) hb)
            clear HO277
            clear BK262
            clear BK271
            clear BK283
            clear HB
            have HO277 := n0_
            have BK262 := n1_
            have BK271 := n2_
            have BK283 := n3_
            have HB := n4_
            clear n0_ n1_ n2_ n3_ n4_
            (try clear hb)
            (try clear hb2)
            (try clear hk)
            (try clear hi)
            refine hK.out _ _ ⟨(blk_cell BK262.out 0).trans rfl, (blk_cell BK262.out 1).trans rfl⟩ (fun hHeld => ?_)
            clear hK K
            refine norm_ (a' := ?_) ?_ ?_
            rotate_left
            ·show Act.put _ (some 76) _ = _
             simp only [Act.put, List.setIfInBounds_toArray, List.set_cons_zero, List.set_cons_succ, i64_w, i32_w]
             rfl
            refine pure_ (i := 5) (N := some 71) (v := ?_) (a' := ?_) #[true, true, true, true, true, true, false, false, false, false, true, false, false, false, false] rfl rfl (any_of HT_.out (by kernel_rfl)) (fun _ _ _ h => h) (Or.inl ⟨by rfl, ?_⟩) ?_ ?_
            rotate_left
            ·intro w'
             go_simp
             with_reducible rfl
            rotate_left
            ·simp only [Act.put, List.setIfInBounds_toArray, List.set_cons_zero, List.set_cons_succ, i64_w, i32_w]
             rfl
            refine pure_ (i := 6) (N := some 77) (v := ?_) (a' := ?_) #[true, true, true, true, true, true, true, false, false, false, true, false, false, false, false] rfl rfl (any_of HT_.out (by kernel_rfl)) (fun _ _ _ h => h) (Or.inl ⟨by rfl, ?_⟩) ?_ ?_
            rotate_left
            ·intro w'
             go_simp
             with_reducible rfl
            rotate_left
            ·simp only [Act.put, List.setIfInBounds_toArray, List.set_cons_zero, List.set_cons_succ, i64_w, i32_w]
             rfl
            refine pure_ (i := 7) (N := some 78) (v := ?_) (a' := ?_) #[true, true, true, true, true, true, true, true, false, false, true, false, false, false, false] rfl rfl (any_of HT_.out (by kernel_rfl)) (fun _ _ _ h => h) (Or.inl ⟨by rfl, ?_⟩) ?_ ?_
            rotate_left
            ·intro w'
             go_simp
             with_reducible rfl
            rotate_left
            ·simp only [Act.put, List.setIfInBounds_toArray, List.set_cons_zero, List.set_cons_succ, i64_w, i32_w]
             rfl
            refine pure_ (i := 8) (N := some 79) (v := ?_) (a' := ?_) #[true, true, true, true, true, true, true, true, true, false, true, false, false, false, false] rfl rfl (any_of HT_.out (by kernel_rfl)) (fun _ _ _ h => h) (Or.inl ⟨by rfl, ?_⟩) ?_ ?_
            rotate_left
            ·intro w'
             go_simp
             with_reducible rfl
            rotate_left
            ·simp only [Act.put, List.setIfInBounds_toArray, List.set_cons_zero, List.set_cons_succ, i64_w, i32_w]
             rfl
            refine pure_ (i := 9) (N := some 80) (v := ?_) (a' := ?_) #[true, true, true, true, true, true, true, true, true, true, true, false, false, false, false] rfl rfl (any_of HT_.out (by kernel_rfl)) (fun _ _ _ h => h) (Or.inl ⟨by rfl, ?_⟩) ?_ ?_
            rotate_left
            ·intro w'
             go_simp
             with_reducible rfl
            rotate_left
            ·simp only [Act.put, List.setIfInBounds_toArray, List.set_cons_zero, List.set_cons_succ, i64_w, i32_w]
             rfl
            exact norm_ (by simp only [putAll, Act.put, List.setIfInBounds_toArray, List.set_cons_zero, List.set_cons_succ]) (hCont (.slice Ao125 t275.length co125, gb283) _ ⟨hHeld, (kr_ (HO277.out)), (bk_ BK262.out), (bk_ BK271.out), (bk_ BK283.out), GW283.out, GE283.out, NB262_283.out, NB283_262.out, NB271_283.out, NB283_271.out, (hb_ HB.out)⟩)
          rintro ⟨v276, gb283⟩ w127 ⟨hS_, h0_, h1_, h2_, h3_, h4_, h5_, h6_, h7_, h8_, h9_, h10_⟩
          have n0_ : Aside0 (Kd.R k57 57 w127 w.heap.size (fun _ => True) v276 t275) := ⟨h0_⟩
          have n1_ : Aside0 (w127.heap[gb262]? = some (.cells #[.int .i64 a1_0, .int .i64 a1_1] 23 (0, 0))) := ⟨h1_⟩
          have n2_ : Aside0 (w127.heap[gb271]? = some (.cells #[.int .i64 a1_0, .int .i64 (wrap64 (a1_1 + (wrap64 (Int.tmod (IntKind.u64.wrap (a3)) 20))))] 23 (0, 0))) := ⟨h2_⟩
          have n3_ : Aside0 (w127.heap[gb283]? = some (.cells #[.int .i64 0, .int .i64 0] 23 (0, 0))) := ⟨h3_⟩
          have n4_ : Aside0 (w.heap.size ≤ gb283) := ⟨h4_⟩
          have n5_ : Aside0 (w.heap.size ≤ gb283) := ⟨h5_⟩
          have n6_ : Aside0 (gb262 ≠ gb283) := ⟨h6_⟩
          have n7_ : Aside0 (gb283 ≠ gb262) := ⟨h7_⟩
          have n8_ : Aside0 (gb271 ≠ gb283) := ⟨h8_⟩
          have n9_ : Aside0 (gb283 ≠ gb271) := ⟨h9_⟩
          have n10_ : Aside0 (Below w.heap.size w w127) := ⟨h10_⟩
          clear BK262
          clear BK271
          clear HB
          clear h0_ h1_ h2_ h3_ h4_ h5_ h6_ h7_ h8_ h9_ h10_
          have HO277 := n0_
          have BK262 := n1_
          have BK271 := n2_
          have BK283 := n3_
          have GW283 := n4_
          have GE283 := n5_
          have NB262_283 := n6_
          have NB283_262 := n7_
          have NB271_283 := n8_
          have NB283_271 := n9_
          have HB := n10_
          clear n0_ n1_ n2_ n3_ n4_ n5_ n6_ n7_ n8_ n9_ n10_
          have hHeld : w127.cell? ⟨gb262, 0, none⟩ = some (.int .i64 a1_0) ∧ w127.cell? ⟨gb262, 1, none⟩ = some (.int .i64 a1_1) := hS_
          refine norm_ (a' := ?_) ?_ ?_
          rotate_left
          ·simp only [putAll, Act.put, List.setIfInBounds_toArray, List.set_cons_zero, List.set_cons_succ]
           rfl
          refine pure_ (i := 11) (N := some 15) (v := ?_) (a' := ?_) #[true, true, true, true, true, true, true, true, true, true, true, true, false, false, false] rfl rfl (any_of HT_.out (by kernel_rfl)) (fun _ _ _ h => h) (Or.inl ⟨by rfl, ?_⟩) ?_ ?_
          rotate_left
          ·intro w'
           go_simp
           with_reducible rfl
          rotate_left
          ·simp only [Act.put, List.setIfInBounds_toArray, List.set_cons_zero, List.set_cons_succ, i64_w, i32_w]
           rfl
          refine one_ (i := 12) (N := none) #[true, true, true, true, true, true, true, true, true, true, true, true, true, false, false] rfl rfl (one_of HT_.out (by kernel_rfl)) (by decide) (fun K hK => ?_)
          have hs128 : w127.cell? ⟨gb283, 0, none⟩ = some (.int .i64 0) := (blk_cell BK283.out 0).trans rfl
          have hfs128 := blk_frozen BK283.out 0
          have hns128_0 := NB262_283.out
          have hns128_1 := NB271_283.out
          have hms128_0 := NB283_262.out
          have hms128_1 := NB283_271.out
          have hs129 : w127.cell? ⟨gb283, 1, none⟩ = some (.int .i64 0) := (blk_cell BK283.out 1).trans rfl
          have hfs129 := blk_frozen BK283.out 1
          have hns129_0 := NB262_283.out
          have hns129_1 := NB271_283.out
          have hms129_0 := NB283_262.out
          have hms129_1 := NB283_271.out
          refine skip_ (w1 := ?_) (by rfl) rfl ?_ ?_
          rotate_left
          ·go_simp
           rfl
          refine hK.out _ _ ⟨((cell_far (p := ⟨gb283, _, none⟩) NB262_283.out _).trans (((cell_far (p := ⟨gb283, _, none⟩) NB262_283.out _).trans (hHeld.1)))), ((cell_far (p := ⟨gb283, _, none⟩) NB262_283.out _).trans (((cell_far (p := ⟨gb283, _, none⟩) NB262_283.out _).trans (hHeld.2))))⟩ (fun hHeld => ?_)
          clear hK K
          refine pure_ (i := 13) (N := some 17) (v := ?_) (a' := ?_) #[true, true, true, true, true, true, true, true, true, true, true, true, true, true, false] rfl rfl (any_of HT_.out (by kernel_rfl)) (fun _ _ _ h => h) (Or.inl ⟨by rfl, ?_⟩) ?_ ?_
          rotate_left
          ·intro w'
           go_simp
           with_reducible rfl
          rotate_left
          ·simp only [Act.put, List.setIfInBounds_toArray, List.set_cons_zero, List.set_cons_succ, i64_w, i32_w]
           rfl
          refine pure_ (i := 14) (N := some 18) (v := ?_) (a' := ?_) #[true, true, true, true, true, true, true, true, true, true, true, true, true, true, true] rfl rfl (any_of HT_.out (by kernel_rfl)) (fun _ _ _ h => h) (Or.inl ⟨by rfl, ?_⟩) ?_ ?_
          rotate_left
          ·intro w'
           go_simp
           with_reducible rfl
          rotate_left
          ·simp only [Act.put, List.setIfInBounds_toArray, List.set_cons_zero, List.set_cons_succ, i64_w, i32_w]
           rfl
          refine done_ (done_of HT_.out (by kernel_rfl)) ?_
          try go_wp2
          have n0_ : Aside0 (Kd.R k57 57 ((w127.setCell ⟨gb283, 0, none⟩ (.int .i64 t279)).setCell ⟨gb283, 1, none⟩ (.int .i64 t280)) w.heap.size (fun _ => True) v276 t275) := ⟨by (with_reducible repeat (first | apply Kd.R_alloc | apply Kd.R_drewN | apply Kd.R_drew)); exact Kd.R_mono (Kd.R_far (p := ⟨gb283, 1, none⟩) (Kd.R_far (p := ⟨gb283, 0, none⟩) (Kd.R_types HO277.out BK283.out (by decide)) (fun _ hk => hk.2) (.int .i64 t279)) (fun _ hk => hk.2) (.int .i64 t280)) (fun _ hk => trivial)⟩
          have n1_ : Aside0 (((w127.setCell ⟨gb283, 0, none⟩ (.int .i64 t279)).setCell ⟨gb283, 1, none⟩ (.int .i64 t280)).heap[gb262]? = some (.cells #[.int .i64 a1_0, .int .i64 a1_1] 23 (0, 0))) := ⟨bk_ (blk_far (bk_ (blk_far (bk_ BK262.out) NB262_283.out _)) NB262_283.out _)⟩
          have n2_ : Aside0 (((w127.setCell ⟨gb283, 0, none⟩ (.int .i64 t279)).setCell ⟨gb283, 1, none⟩ (.int .i64 t280)).heap[gb271]? = some (.cells #[.int .i64 a1_0, .int .i64 (wrap64 (a1_1 + (wrap64 (Int.tmod (IntKind.u64.wrap (a3)) 20))))] 23 (0, 0))) := ⟨bk_ (blk_far (bk_ (blk_far (bk_ BK271.out) NB271_283.out _)) NB271_283.out _)⟩
          have n3_ : Aside0 (((w127.setCell ⟨gb283, 0, none⟩ (.int .i64 t279)).setCell ⟨gb283, 1, none⟩ (.int .i64 t280)).heap[gb283]? = some (.cells #[.int .i64 t279, .int .i64 t280] 23 (0, 0))) := ⟨by (with_reducible repeat (first | refine blk_drewN ?_ _ | refine blk_drew ?_ | refine blk_alloc ?_ _)); refine blk_put (cs := #[.int .i64 t279, .int .i64 0]) ?_ 1 _ rfl; (with_reducible repeat (first | refine blk_drewN ?_ _ | refine blk_drew ?_ | refine blk_alloc ?_ _)); refine blk_put (cs := #[.int .i64 0, .int .i64 0]) ?_ 0 _ rfl; (with_reducible repeat (first | refine blk_drewN ?_ _ | refine blk_drew ?_ | refine blk_alloc ?_ _)); exact BK283.out⟩
          have n4_ : Aside0 (Below w.heap.size w ((w127.setCell ⟨gb283, 0, none⟩ (.int .i64 t279)).setCell ⟨gb283, 1, none⟩ (.int .i64 t280))) := ⟨hb_ HB.out⟩
          (try clear HO277)
          (try clear BK262)
          (try clear BK271)
          (try clear BK283)
          (try clear HB)
          generalize ((w127.setCell ⟨gb283, 0, none⟩ (.int .i64 t279)).setCell ⟨gb283, 1, none⟩ (.int .i64 t280)) = w130 at n0_ n1_ n2_ n3_ n4_ ⊢
          have HO277 := n0_
          have BK262 := n1_
          have BK271 := n2_
          have BK283 := n3_
          have HB := n4_
          clear n0_ n1_ n2_ n3_ n4_
          have n0_ := Aside0.mk (Kd.R_drew HO277.out)
          have n1_ := Aside0.mk (blk_drew BK262.out)
          have n2_ := Aside0.mk (blk_drew BK271.out)
          have n3_ := Aside0.mk (blk_drew BK283.out)
          have n4_ := Aside0.mk (below_drew1 HB.out)
          clear HO277
          clear BK262
          clear BK271
          clear BK283
          clear HB
          have HO277 := n0_
          have BK262 := n1_
          have BK271 := n2_
          have BK283 := n3_
          have HB := n4_
          clear n0_ n1_ n2_ n3_ n4_
          refine start_ (n := 15) (S := fun w' => w'.cell? ⟨gb271, 0, none⟩ = some (.int .i64 a1_0) ∧ w'.cell? ⟨gb271, 1, none⟩ = some (.int .i64 (wrap64 (a1_1 + (wrap64 (Int.tmod (IntKind.u64.wrap (a3)) 20)))))) (ds := []) #[false, false, false, false, false, false, false, false, false, false, false, false, false, false, false] (by kernel_rfl) rfl rfl ⟨(blk_cell BK271.out 0).trans rfl, (blk_cell BK271.out 1).trans rfl⟩ (fun hHeld => ?_); refine with_tabW comfitlaw06_TagsMore.tab13 comfitlaw06_TagsMore.bits13 (fun HT_ HW_ => ?_)
          generalize w130.drew = w131 at HO277 BK262 BK271 BK283 HB hHeld ⊢
          refine pure_ (i := 0) (N := some 82) (v := ?_) (a' := ?_) #[true, false, false, false, false, false, false, false, false, false, false, false, false, false, false] rfl rfl (any_of HT_.out (by kernel_rfl)) (fun _ _ _ h => h) (Or.inl ⟨by rfl, ?_⟩) ?_ ?_
          rotate_left
          ·intro w'
           go_simp
           with_reducible rfl
          rotate_left
          ·simp only [Act.put, List.setIfInBounds_toArray, List.set_cons_zero, List.set_cons_succ, i64_w, i32_w]
           rfl
          refine pure_ (i := 3) (N := some 85) (v := ?_) (a' := ?_) #[true, false, false, true, false, false, false, false, false, false, false, false, false, false, false] rfl rfl (any_of HT_.out (by kernel_rfl)) (fun _ _ _ h => h) (Or.inl ⟨by rfl, ?_⟩) ?_ ?_
          rotate_left
          ·intro w'
           go_simp
           with_reducible rfl
          rotate_left
          ·simp only [Act.put, List.setIfInBounds_toArray, List.set_cons_zero, List.set_cons_succ, i64_w, i32_w]
           rfl
          refine take_ (i := 2) (N := some 84) (v := ?_) (a' := ?_) #[true, false, true, true, false, false, false, false, false, false, false, false, false, false, false] rfl rfl (take_ofW HT_.out HW_.out (by kernel_rfl)) (fun _ _ _ h => h) (Or.inl ⟨by rfl, ?_⟩) hHeld ?_ ?_
          rotate_left
          ·rintro w' ⟨s0, s1⟩
           go_simp
           with_reducible rfl
          rotate_left
          ·simp only [Act.put, List.setIfInBounds_toArray, List.set_cons_zero, List.set_cons_succ, i64_w, i32_w]
           rfl
          refine join_ (σ := Value × Nat) 4 #[true, true, true, true, true, true, true, true, true, true, true, false, false, false, false] (fun s_ => [(83, s_.1), (86, .tuple #[.int .i64 t287, .agg #[.int .i64 t288, .int .i64 t289], .int .i64 t290, .int .i64 t291]), (20, .pointer (some ⟨s_.2, 0, none⟩)), (81, .tuple #[.int .i64 t287, .agg #[.int .i64 t288, .int .i64 t289], .int .i64 t290, .int .i64 t291]), (87, .int .i64 t287), (88, .agg #[.int .i64 t288, .int .i64 t289]), (89, .int .i64 t290), (90, .int .i64 t291)]) (fun s_ w' => (w'.cell? ⟨gb271, 0, none⟩ = some (.int .i64 a1_0) ∧ w'.cell? ⟨gb271, 1, none⟩ = some (.int .i64 (wrap64 (a1_1 + (wrap64 (Int.tmod (IntKind.u64.wrap (a3)) 20)))))) ∧ (Kd.R k57 57 w' w.heap.size (fun k_ => some k_ ≠ (s_.1 : Value).ownBlock) v276 t275) ∧ (Kd.R k57 57 w' w.heap.size (fun k_ => some k_ ≠ (v276 : Value).ownBlock) s_.1 t284) ∧ (w'.heap[gb262]? = some (.cells #[.int .i64 a1_0, .int .i64 a1_1] 23 (0, 0))) ∧ (w'.heap[gb271]? = some (.cells #[.int .i64 a1_0, .int .i64 (wrap64 (a1_1 + (wrap64 (Int.tmod (IntKind.u64.wrap (a3)) 20))))] 23 (0, 0))) ∧ (w'.heap[gb283]? = some (.cells #[.int .i64 t279, .int .i64 t280] 23 (0, 0))) ∧ (w'.heap[s_.2]? = some (.cells #[.int .i64 0, .int .i64 0] 23 (0, 0))) ∧ (w.heap.size ≤ s_.2) ∧ (w.heap.size ≤ s_.2) ∧ (gb262 ≠ s_.2) ∧ (s_.2 ≠ gb262) ∧ (gb271 ≠ s_.2) ∧ (s_.2 ≠ gb271) ∧ (gb283 ≠ s_.2) ∧ (s_.2 ≠ gb283) ∧ (Below w.heap.size w w')) ?_ ?_
          rotate_left
          ·intro hCont
           refine two_ (i := 1) (j := 10) (Ni := some 83) (Nj := some 20) #[true, true, true, true, false, false, false, false, false, false, false, false, false, false, false] #[true, false, true, true, false, false, false, false, false, false, true, false, false, false, false] rfl rfl rfl rfl (two_of HT_.out (by kernel_rfl)) (by decide) (by decide) (fun K hK => ?_) (fun K hK => ?_)
           ·skip
            refine goes_ Try.func11 (by kernel_rfl) rfl #[.slice A0 l0.length c0] (by rfl) rfl rfl al_ ?_
            with_reducible refine (comfitlaw06_Of.calls k2 _ _ l0 t284 _ ?side1 ?side2 A119.out).mono ?_
            (case side1 => exact kc_ (Kd.C_below HR0.out HB.out))
            (case side2 => exact HC0.out)
            rintro e w132 ⟨v285, rfl, ho0, hb⟩
            refine ⟨_, rfl, ?_⟩
            have n0_ := Aside0.mk (Kd.R_elder' (kr_ (HO277.out)) (Kd.R_base ho0) hb)
            have n1_ := Aside0.mk (Kd.R_lower (Kd.R_new' ho0 (Kd.R_lt (kr_ (HO277.out)))) (below_size (hb_ HB.out)))
            have n2_ := Aside0.mk (bkb_ BK262.out hb)
            have n3_ := Aside0.mk (bkb_ BK271.out hb)
            have n4_ := Aside0.mk (bkb_ BK283.out hb)
            have n5_ := Aside0.mk (below_step (hb_ HB.out) hb)
            clear HO277
            clear BK262
            clear BK271
            clear BK283
            clear HB
            have HO277 := n0_
            have HO286 := n1_
            have BK262 := n2_
            have BK271 := n3_
            have BK283 := n4_
            have HB := n5_
            clear n0_ n1_ n2_ n3_ n4_ n5_
            (try clear hb)
            (try clear hb2)
            (try clear hk)
            (try clear hi)
            (try clear ho0)
            obtain ⟨Ao133, co133, eo133⟩ := Kd.R_slice HO286.out
            (first | subst eo133 | (injection eo133 with f1_ f2_ f3_; have f4_ := f1_.symm; have f5_ := f3_.symm; clear f1_ f2_ f3_; subst f4_; subst f5_))
            refine hK.out _ _ ⟨(blk_cell BK271.out 0).trans rfl, (blk_cell BK271.out 1).trans rfl⟩ (fun hHeld => ?_)
            clear hK K
            refine norm_ (a' := ?_) ?_ ?_
            rotate_left
            ·show Act.put _ (some 83) _ = _
             simp only [Act.put, List.setIfInBounds_toArray, List.set_cons_zero, List.set_cons_succ, i64_w, i32_w]
             rfl
            refine two_ (i := 4) (j := 10) (Ni := some 86) (Nj := some 20) #[true, true, true, true, true, false, false, false, false, false, false, false, false, false, false] #[true, true, true, true, false, false, false, false, false, false, true, false, false, false, false] rfl rfl rfl rfl (two_of HT_.out (by kernel_rfl)) (by decide) (by decide) (fun K hK => ?_) (fun K hK => ?_)
            ·skip
             refine goes_ Try.func10 (by kernel_rfl) rfl #[.slice Ao133 t284.length co133, .agg #[.int .i64 a1_0, .int .i64 (wrap64 (a1_1 + (wrap64 (Int.tmod (IntKind.u64.wrap (a3)) 20))))], .int .i64 x68_2] (by rfl) rfl rfl al_ ?_
             with_reducible refine (tags_Go.calls k2 _ _ t284 a1_0 (wrap64 (a1_1 + (wrap64 (Int.tmod (IntKind.u64.wrap (a3)) 20)))) x68_2 t287 t288 t289 t290 t291 _ ?side1 ?side2 A120.out).mono ?_
             (case side1 => exact kc_ (Kd.R_reads' HO286.out).2.2)
             (case side2 => exact (Kd.R_reads' HO286.out).2.1)
             rintro e w134 ⟨rfl, hb⟩
             refine ⟨_, rfl, ?_⟩
             have n0_ := Aside0.mk (Kd.R_below (kr_ (HO277.out)) hb)
             have n1_ := Aside0.mk (Kd.R_below (kr_ (HO286.out)) hb)
             have n2_ := Aside0.mk (bkb_ BK262.out hb)
             have n3_ := Aside0.mk (bkb_ BK271.out hb)
             have n4_ := Aside0.mk (bkb_ BK283.out hb)
             have n5_ := Aside0.mk (below_step (hb_ HB.out) hb)
             clear HO277
             clear HO286
             clear BK262
             clear BK271
             clear BK283
             clear HB
             have HO277 := n0_
             have HO286 := n1_
             have BK262 := n2_
             have BK271 := n3_
             have BK283 := n4_
             have HB := n5_
             clear n0_ n1_ n2_ n3_ n4_ n5_
             (try clear hb)
             (try clear hb2)
             (try clear hk)
             (try clear hi)
             refine hK.out _ _ ⟨(blk_cell BK271.out 0).trans rfl, (blk_cell BK271.out 1).trans rfl⟩ (fun hHeld => ?_)
             clear hK K
             refine norm_ (a' := ?_) ?_ ?_
             rotate_left
             ·show Act.put _ (some 86) _ = _
              simp only [Act.put, List.setIfInBounds_toArray, List.set_cons_zero, List.set_cons_succ, i64_w, i32_w]
              rfl
             refine pure_ (i := 5) (N := some 81) (v := ?_) (a' := ?_) #[true, true, true, true, true, true, false, false, false, false, false, false, false, false, false] rfl rfl (any_of HT_.out (by kernel_rfl)) (fun _ _ _ h => h) (Or.inl ⟨by rfl, ?_⟩) ?_ ?_
             rotate_left
             ·intro w'
              go_simp
              with_reducible rfl
             rotate_left
             ·simp only [Act.put, List.setIfInBounds_toArray, List.set_cons_zero, List.set_cons_succ, i64_w, i32_w]
              rfl
             refine pure_ (i := 6) (N := some 87) (v := ?_) (a' := ?_) #[true, true, true, true, true, true, true, false, false, false, false, false, false, false, false] rfl rfl (any_of HT_.out (by kernel_rfl)) (fun _ _ _ h => h) (Or.inl ⟨by rfl, ?_⟩) ?_ ?_
             rotate_left
             ·intro w'
              go_simp
              with_reducible rfl
             rotate_left
             ·simp only [Act.put, List.setIfInBounds_toArray, List.set_cons_zero, List.set_cons_succ, i64_w, i32_w]
              rfl
             refine pure_ (i := 7) (N := some 88) (v := ?_) (a' := ?_) #[true, true, true, true, true, true, true, true, false, false, false, false, false, false, false] rfl rfl (any_of HT_.out (by kernel_rfl)) (fun _ _ _ h => h) (Or.inl ⟨by rfl, ?_⟩) ?_ ?_
             rotate_left
             ·intro w'
              go_simp
              with_reducible rfl
             rotate_left
             ·simp only [Act.put, List.setIfInBounds_toArray, List.set_cons_zero, List.set_cons_succ, i64_w, i32_w]
              rfl
             refine pure_ (i := 8) (N := some 89) (v := ?_) (a' := ?_) #[true, true, true, true, true, true, true, true, true, false, false, false, false, false, false] rfl rfl (any_of HT_.out (by kernel_rfl)) (fun _ _ _ h => h) (Or.inl ⟨by rfl, ?_⟩) ?_ ?_
             rotate_left
             ·intro w'
              go_simp
              with_reducible rfl
             rotate_left
             ·simp only [Act.put, List.setIfInBounds_toArray, List.set_cons_zero, List.set_cons_succ, i64_w, i32_w]
              rfl
             refine pure_ (i := 9) (N := some 90) (v := ?_) (a' := ?_) #[true, true, true, true, true, true, true, true, true, true, false, false, false, false, false] rfl rfl (any_of HT_.out (by kernel_rfl)) (fun _ _ _ h => h) (Or.inl ⟨by rfl, ?_⟩) ?_ ?_
             rotate_left
             ·intro w'
              go_simp
              with_reducible rfl
             rotate_left
             ·simp only [Act.put, List.setIfInBounds_toArray, List.set_cons_zero, List.set_cons_succ, i64_w, i32_w]
              rfl
             refine one_ (i := 10) (N := some 20) #[true, true, true, true, true, true, true, true, true, true, true, false, false, false, false] rfl rfl (one_of HT_.out (by kernel_rfl)) (by decide) (fun K hK => ?_)
             refine box_step ?hg (N := 20) ?hd (cs := #[.int .i64 0, .int .i64 0]) (t := 23) ?hr ?_; (case hd => rfl); (case hg => rfl); (case hr => first | (go_simp; done) | (go_simp; rfl))
             intro gb292 hg w135 hbox hb
             have n0_ := Aside0.mk (Kd.R_below (kr_ (HO277.out)) hb)
             have n1_ := Aside0.mk (Kd.R_below (kr_ (HO286.out)) hb)
             have n2_ := Aside0.mk (bkb_ BK262.out hb)
             have n3_ := Aside0.mk (bkb_ BK271.out hb)
             have n4_ := Aside0.mk (bkb_ BK283.out hb)
             have n5_ := Aside0.mk (below_step (hb_ HB.out) hb)
             have n6_ := Aside0.mk (hbox)
             have n7_ := Aside0.mk ((by rw [hg]; exact (below_size (hb_ HB.out)) : w.heap.size ≤ gb292))
             have n8_ := Aside0.mk ((by rw [hg]; exact (below_size (hb_ HB.out)) : w.heap.size ≤ gb292))
             have n9_ := Aside0.mk ((by rw [hg]; exact Nat.ne_of_lt (bkl_ BK262.out) : gb262 ≠ gb292))
             have n10_ := Aside0.mk ((by rw [hg]; exact Nat.ne_of_gt (bkl_ BK262.out) : gb292 ≠ gb262))
             have n11_ := Aside0.mk ((by rw [hg]; exact Nat.ne_of_lt (bkl_ BK271.out) : gb271 ≠ gb292))
             have n12_ := Aside0.mk ((by rw [hg]; exact Nat.ne_of_gt (bkl_ BK271.out) : gb292 ≠ gb271))
             have n13_ := Aside0.mk ((by rw [hg]; exact Nat.ne_of_lt (bkl_ BK283.out) : gb283 ≠ gb292))
             have n14_ := Aside0.mk ((by rw [hg]; exact Nat.ne_of_gt (bkl_ BK283.out) : gb292 ≠ gb283))
             clear HO277
             clear HO286
             clear BK262
             clear BK271
             clear BK283
             clear HB
             have HO277 := n0_
             have HO286 := n1_
             have BK262 := n2_
             have BK271 := n3_
             have BK283 := n4_
             have HB := n5_
             have BK292 := n6_
             have GW292 := n7_
             have GE292 := n8_
             have NB262_292 := n9_
             have NB292_262 := n10_
             have NB271_292 := n11_
             have NB292_271 := n12_
             have NB283_292 := n13_
             have NB292_283 := n14_
             clear n0_ n1_ n2_ n3_ n4_ n5_ n6_ n7_ n8_ n9_ n10_ n11_ n12_ n13_ n14_
             clear hb hbox hg
             refine hK.out _ _ ⟨(blk_cell BK271.out 0).trans rfl, (blk_cell BK271.out 1).trans rfl⟩ (fun hHeld => ?_)
             clear hK K
             refine norm_ (a' := ?_) ?_ ?_
             rotate_left
             ·show Act.put _ (some 20) _ = _
              simp only [Act.put, List.setIfInBounds_toArray, List.set_cons_zero, List.set_cons_succ, i64_w, i32_w]
              rfl
             exact norm_ (by simp only [putAll, Act.put, List.setIfInBounds_toArray, List.set_cons_zero, List.set_cons_succ]) (hCont (.slice Ao133 t284.length co133, gb292) _ ⟨hHeld, (by (with_reducible repeat (first | apply Kd.R_alloc | apply Kd.R_drewN | apply Kd.R_drew)); exact Kd.R_mono HO277.out (fun _ hk => hk.2)), (by (with_reducible repeat (first | apply Kd.R_alloc | apply Kd.R_drewN | apply Kd.R_drew)); exact Kd.R_mono HO286.out (fun _ hk => hk.2)), (bk_ BK262.out), (bk_ BK271.out), (bk_ BK283.out), (bk_ BK292.out), GW292.out, GE292.out, NB262_292.out, NB292_262.out, NB271_292.out, NB292_271.out, NB283_292.out, NB292_283.out, (hb_ HB.out)⟩)
            ·skip
             refine box_step ?hg (N := 20) ?hd (cs := #[.int .i64 0, .int .i64 0]) (t := 23) ?hr ?_; (case hd => rfl); (case hg => rfl); (case hr => first | (go_simp; done) | (go_simp; rfl))
             intro gb292 hg w133 hbox hb
             have n0_ := Aside0.mk (Kd.R_below (kr_ (HO277.out)) hb)
             have n1_ := Aside0.mk (Kd.R_below (kr_ (HO286.out)) hb)
             have n2_ := Aside0.mk (bkb_ BK262.out hb)
             have n3_ := Aside0.mk (bkb_ BK271.out hb)
             have n4_ := Aside0.mk (bkb_ BK283.out hb)
             have n5_ := Aside0.mk (below_step (hb_ HB.out) hb)
             have n6_ := Aside0.mk (hbox)
             have n7_ := Aside0.mk ((by rw [hg]; exact (below_size (hb_ HB.out)) : w.heap.size ≤ gb292))
             have n8_ := Aside0.mk ((by rw [hg]; exact (below_size (hb_ HB.out)) : w.heap.size ≤ gb292))
             have n9_ := Aside0.mk ((by rw [hg]; exact Nat.ne_of_lt (bkl_ BK262.out) : gb262 ≠ gb292))
             have n10_ := Aside0.mk ((by rw [hg]; exact Nat.ne_of_gt (bkl_ BK262.out) : gb292 ≠ gb262))
             have n11_ := Aside0.mk ((by rw [hg]; exact Nat.ne_of_lt (bkl_ BK271.out) : gb271 ≠ gb292))
             have n12_ := Aside0.mk ((by rw [hg]; exact Nat.ne_of_gt (bkl_ BK271.out) : gb292 ≠ gb271))
             have n13_ := Aside0.mk ((by rw [hg]; exact Nat.ne_of_lt (bkl_ BK283.out) : gb283 ≠ gb292))
             have n14_ := Aside0.mk ((by rw [hg]; exact Nat.ne_of_gt (bkl_ BK283.out) : gb292 ≠ gb283))
             clear HO277
             clear HO286
             clear BK262
             clear BK271
             clear BK283
             clear HB
             have HO277 := n0_
             have HO286 := n1_
             have BK262 := n2_
             have BK271 := n3_
             have BK283 := n4_
             have HB := n5_
             have BK292 := n6_
             have GW292 := n7_
             have GE292 := n8_
             have NB262_292 := n9_
             have NB292_262 := n10_
             have NB271_292 := n11_
             have NB292_271 := n12_
             have NB283_292 := n13_
             have NB292_283 := n14_
             clear n0_ n1_ n2_ n3_ n4_ n5_ n6_ n7_ n8_ n9_ n10_ n11_ n12_ n13_ n14_
             clear hb hbox hg
             obtain ⟨Ao134, co134, eo134⟩ := Kd.R_slice HO286.out
             (first | subst eo134 | (injection eo134 with f1_ f2_ f3_; have f4_ := f1_.symm; have f5_ := f3_.symm; clear f1_ f2_ f3_; subst f4_; subst f5_))
             refine hK.out _ _ ⟨(blk_cell BK271.out 0).trans rfl, (blk_cell BK271.out 1).trans rfl⟩ (fun hHeld => ?_)
             clear hK K
             refine norm_ (a' := ?_) ?_ ?_
             rotate_left
             ·show Act.put _ (some 20) _ = _
              simp only [Act.put, List.setIfInBounds_toArray, List.set_cons_zero, List.set_cons_succ, i64_w, i32_w]
              rfl
             refine one_ (i := 4) (N := some 86) #[true, true, true, true, true, false, false, false, false, false, true, false, false, false, false] rfl rfl (one_of HT_.out (by kernel_rfl)) (by decide) (fun K hK => ?_)
             refine goes_ Try.func10 (by kernel_rfl) rfl #[.slice Ao134 t284.length co134, .agg #[.int .i64 a1_0, .int .i64 (wrap64 (a1_1 + (wrap64 (Int.tmod (IntKind.u64.wrap (a3)) 20))))], .int .i64 x68_2] (by rfl) rfl rfl al_ ?_
             with_reducible refine (tags_Go.calls k2 _ _ t284 a1_0 (wrap64 (a1_1 + (wrap64 (Int.tmod (IntKind.u64.wrap (a3)) 20)))) x68_2 t287 t288 t289 t290 t291 _ ?side1 ?side2 A120.out).mono ?_
             (case side1 => exact kc_ (Kd.R_reads' HO286.out).2.2)
             (case side2 => exact (Kd.R_reads' HO286.out).2.1)
             rintro e w135 ⟨rfl, hb⟩
             refine ⟨_, rfl, ?_⟩
             have n0_ := Aside0.mk (Kd.R_below (kr_ (HO277.out)) hb)
             have n1_ := Aside0.mk (Kd.R_below (kr_ (HO286.out)) hb)
             have n2_ := Aside0.mk (bkb_ BK262.out hb)
             have n3_ := Aside0.mk (bkb_ BK271.out hb)
             have n4_ := Aside0.mk (bkb_ BK283.out hb)
             have n5_ := Aside0.mk (bkb_ BK292.out hb)
             have n6_ := Aside0.mk (below_step (hb_ HB.out) hb)
             clear HO277
             clear HO286
             clear BK262
             clear BK271
             clear BK283
             clear BK292
             clear HB
             have HO277 := n0_
             have HO286 := n1_
             have BK262 := n2_
             have BK271 := n3_
             have BK283 := n4_
             have BK292 := n5_
             have HB := n6_
             clear n0_ n1_ n2_ n3_ n4_ n5_ n6_
             (try clear hb)
             (try clear hb2)
             (try clear hk)
             (try clear hi)
             refine hK.out _ _ ⟨(blk_cell BK271.out 0).trans rfl, (blk_cell BK271.out 1).trans rfl⟩ (fun hHeld => ?_)
             clear hK K
             refine norm_ (a' := ?_) ?_ ?_
             rotate_left
             ·show Act.put _ (some 86) _ = _
              simp only [Act.put, List.setIfInBounds_toArray, List.set_cons_zero, List.set_cons_succ, i64_w, i32_w]
              rfl
             refine pure_ (i := 5) (N := some 81) (v := ?_) (a' := ?_) #[true, true, true, true, true, true, false, false, false, false, true, false, false, false, false] rfl rfl (any_of HT_.out (by kernel_rfl)) (fun _ _ _ h => h) (Or.inl ⟨by rfl, ?_⟩) ?_ ?_
             rotate_left
             ·intro w'
              go_simp
              with_reducible rfl
             rotate_left
             ·simp only [Act.put, List.setIfInBounds_toArray, List.set_cons_zero, List.set_cons_succ, i64_w, i32_w]
              rfl
             refine pure_ (i := 6) (N := some 87) (v := ?_) (a' := ?_) #[true, true, true, true, true, true, true, false, false, false, true, false, false, false, false] rfl rfl (any_of HT_.out (by kernel_rfl)) (fun _ _ _ h => h) (Or.inl ⟨by rfl, ?_⟩) ?_ ?_
             rotate_left
             ·intro w'
              go_simp
              with_reducible rfl
             rotate_left
             ·simp only [Act.put, List.setIfInBounds_toArray, List.set_cons_zero, List.set_cons_succ, i64_w, i32_w]
              rfl
             refine pure_ (i := 7) (N := some 88) (v := ?_) (a' := ?_) #[true, true, true, true, true, true, true, true, false, false, true, false, false, false, false] rfl rfl (any_of HT_.out (by kernel_rfl)) (fun _ _ _ h => h) (Or.inl ⟨by rfl, ?_⟩) ?_ ?_
             rotate_left
             ·intro w'
              go_simp
              with_reducible rfl
             rotate_left
             ·simp only [Act.put, List.setIfInBounds_toArray, List.set_cons_zero, List.set_cons_succ, i64_w, i32_w]
              rfl
             refine pure_ (i := 8) (N := some 89) (v := ?_) (a' := ?_) #[true, true, true, true, true, true, true, true, true, false, true, false, false, false, false] rfl rfl (any_of HT_.out (by kernel_rfl)) (fun _ _ _ h => h) (Or.inl ⟨by rfl, ?_⟩) ?_ ?_
             rotate_left
             ·intro w'
              go_simp
              with_reducible rfl
             rotate_left
             ·simp only [Act.put, List.setIfInBounds_toArray, List.set_cons_zero, List.set_cons_succ, i64_w, i32_w]
              rfl
             refine pure_ (i := 9) (N := some 90) (v := ?_) (a' := ?_) #[true, true, true, true, true, true, true, true, true, true, true, false, false, false, false] rfl rfl (any_of HT_.out (by kernel_rfl)) (fun _ _ _ h => h) (Or.inl ⟨by rfl, ?_⟩) ?_ ?_
             rotate_left
             ·intro w'
              go_simp
              with_reducible rfl
             rotate_left
             ·simp only [Act.put, List.setIfInBounds_toArray, List.set_cons_zero, List.set_cons_succ, i64_w, i32_w]
              rfl
             exact norm_ (by simp only [putAll, Act.put, List.setIfInBounds_toArray, List.set_cons_zero, List.set_cons_succ]) (hCont (.slice Ao134 t284.length co134, gb292) _ ⟨hHeld, (by (with_reducible repeat (first | apply Kd.R_alloc | apply Kd.R_drewN | apply Kd.R_drew)); exact Kd.R_mono HO277.out (fun _ hk => hk.2)), (by (with_reducible repeat (first | apply Kd.R_alloc | apply Kd.R_drewN | apply Kd.R_drew)); exact Kd.R_mono HO286.out (fun _ hk => hk.2)), (bk_ BK262.out), (bk_ BK271.out), (bk_ BK283.out), (bk_ BK292.out), GW292.out, GE292.out, NB262_292.out, NB292_262.out, NB271_292.out, NB292_271.out, NB283_292.out, NB292_283.out, (hb_ HB.out)⟩)
           ·skip
            refine box_step ?hg (N := 20) ?hd (cs := #[.int .i64 0, .int .i64 0]) (t := 23) ?hr ?_; (case hd => rfl); (case hg => rfl); (case hr => first | (go_simp; done) | (go_simp; rfl))
            intro gb292 hg w132 hbox hb
            have n0_ := Aside0.mk (Kd.R_below (kr_ (HO277.out)) hb)
            have n1_ := Aside0.mk (bkb_ BK262.out hb)
            have n2_ := Aside0.mk (bkb_ BK271.out hb)
            have n3_ := Aside0.mk (bkb_ BK283.out hb)
            have n4_ := Aside0.mk (below_step (hb_ HB.out) hb)
            have n5_ := Aside0.mk (hbox)
            have n6_ := Aside0.mk ((by rw [hg]; exact (below_size (hb_ HB.out)) : w.heap.size ≤ gb292))
            have n7_ := Aside0.mk ((by rw [hg]; exact (below_size (hb_ HB.out)) : w.heap.size ≤ gb292))
            have n8_ := Aside0.mk ((by rw [hg]; exact Nat.ne_of_lt (bkl_ BK262.out) : gb262 ≠ gb292))
            have n9_ := Aside0.mk ((by rw [hg]; exact Nat.ne_of_gt (bkl_ BK262.out) : gb292 ≠ gb262))
            have n10_ := Aside0.mk ((by rw [hg]; exact Nat.ne_of_lt (bkl_ BK271.out) : gb271 ≠ gb292))
            have n11_ := Aside0.mk ((by rw [hg]; exact Nat.ne_of_gt (bkl_ BK271.out) : gb292 ≠ gb271))
            have n12_ := Aside0.mk ((by rw [hg]; exact Nat.ne_of_lt (bkl_ BK283.out) : gb283 ≠ gb292))
            have n13_ := Aside0.mk ((by rw [hg]; exact Nat.ne_of_gt (bkl_ BK283.out) : gb292 ≠ gb283))
            clear HO277
            clear BK262
            clear BK271
            clear BK283
            clear HB
            have HO277 := n0_
            have BK262 := n1_
            have BK271 := n2_
            have BK283 := n3_
            have HB := n4_
            have BK292 := n5_
            have GW292 := n6_
            have GE292 := n7_
            have NB262_292 := n8_
            have NB292_262 := n9_
            have NB271_292 := n10_
            have NB292_271 := n11_
            have NB283_292 := n12_
            have NB292_283 := n13_
            clear n0_ n1_ n2_ n3_ n4_ n5_ n6_ n7_ n8_ n9_ n10_ n11_ n12_ n13_
            clear hb hbox hg
            refine hK.out _ _ ⟨(blk_cell BK271.out 0).trans rfl, (blk_cell BK271.out 1).trans rfl⟩ (fun hHeld => ?_)
            clear hK K
            refine norm_ (a' := ?_) ?_ ?_
            rotate_left
            ·show Act.put _ (some 20) _ = _
             simp only [Act.put, List.setIfInBounds_toArray, List.set_cons_zero, List.set_cons_succ, i64_w, i32_w]
             rfl
            refine one_ (i := 1) (N := some 83) #[true, true, true, true, false, false, false, false, false, false, true, false, false, false, false] rfl rfl (one_of HT_.out (by kernel_rfl)) (by decide) (fun K hK => ?_)
            refine goes_ Try.func11 (by kernel_rfl) rfl #[.slice A0 l0.length c0] (by rfl) rfl rfl al_ ?_
            with_reducible refine (comfitlaw06_Of.calls k2 _ _ l0 t284 _ ?side1 ?side2 A119.out).mono ?_
            (case side1 => exact kc_ (Kd.C_below HR0.out HB.out))
            (case side2 => exact HC0.out)
            rintro e w133 ⟨v285, rfl, ho0, hb⟩
            refine ⟨_, rfl, ?_⟩
            have n0_ := Aside0.mk (Kd.R_elder' (kr_ (HO277.out)) (Kd.R_base ho0) hb)
            have n1_ := Aside0.mk (Kd.R_lower (Kd.R_new' ho0 (Kd.R_lt (kr_ (HO277.out)))) (below_size (hb_ HB.out)))
            have n2_ := Aside0.mk (bkb_ BK262.out hb)
            have n3_ := Aside0.mk (bkb_ BK271.out hb)
            have n4_ := Aside0.mk (bkb_ BK283.out hb)
            have n5_ := Aside0.mk (bkb_ BK292.out hb)
            have n6_ := Aside0.mk (below_step (hb_ HB.out) hb)
            clear HO277
            clear BK262
            clear BK271
            clear BK283
            clear BK292
            clear HB
            have HO277 := n0_
            have HO286 := n1_
            have BK262 := n2_
            have BK271 := n3_
            have BK283 := n4_
            have BK292 := n5_
            have HB := n6_
            clear n0_ n1_ n2_ n3_ n4_ n5_ n6_
            (try clear hb)
            (try clear hb2)
            (try clear hk)
            (try clear hi)
            (try clear ho0)
            obtain ⟨Ao134, co134, eo134⟩ := Kd.R_slice HO286.out
            (first | subst eo134 | (injection eo134 with f1_ f2_ f3_; have f4_ := f1_.symm; have f5_ := f3_.symm; clear f1_ f2_ f3_; subst f4_; subst f5_))
            refine hK.out _ _ ⟨(blk_cell BK271.out 0).trans rfl, (blk_cell BK271.out 1).trans rfl⟩ (fun hHeld => ?_)
            clear hK K
            refine norm_ (a' := ?_) ?_ ?_
            rotate_left
            ·show Act.put _ (some 83) _ = _
             simp only [Act.put, List.setIfInBounds_toArray, List.set_cons_zero, List.set_cons_succ, i64_w, i32_w]
             rfl
            refine one_ (i := 4) (N := some 86) #[true, true, true, true, true, false, false, false, false, false, true, false, false, false, false] rfl rfl (one_of HT_.out (by kernel_rfl)) (by decide) (fun K hK => ?_)
            refine goes_ Try.func10 (by kernel_rfl) rfl #[.slice Ao134 t284.length co134, .agg #[.int .i64 a1_0, .int .i64 (wrap64 (a1_1 + (wrap64 (Int.tmod (IntKind.u64.wrap (a3)) 20))))], .int .i64 x68_2] (by rfl) rfl rfl al_ ?_
            with_reducible refine (tags_Go.calls k2 _ _ t284 a1_0 (wrap64 (a1_1 + (wrap64 (Int.tmod (IntKind.u64.wrap (a3)) 20)))) x68_2 t287 t288 t289 t290 t291 _ ?side1 ?side2 A120.out).mono ?_
            (case side1 => exact kc_ (Kd.R_reads' HO286.out).2.2)
            (case side2 => exact (Kd.R_reads' HO286.out).2.1)
            rintro e w135 ⟨rfl, hb⟩
            refine ⟨_, rfl, ?_⟩
            have n0_ := Aside0.mk (Kd.R_below (kr_ (HO277.out)) hb)
            have n1_ := Aside0.mk (Kd.R_below (kr_ (HO286.out)) hb)
            have n2_ := Aside0.mk (bkb_ BK262.out hb)
            have n3_ := Aside0.mk (bkb_ BK271.out hb)
            have n4_ := Aside0.mk (bkb_ BK283.out hb)
            have n5_ := Aside0.mk (bkb_ BK292.out hb)
            have n6_ := Aside0.mk (below_step (hb_ HB.out) hb)
            clear HO277
            clear HO286
            clear BK262
            clear BK271
            clear BK283
            clear BK292
            clear HB
            have HO277 := n0_
            have HO286 := n1_
            have BK262 := n2_
            have BK271 := n3_
            have BK283 := n4_
            have BK292 := n5_
            have HB := n6_
            clear n0_ n1_ n2_ n3_ n4_ n5_ n6_
            (try clear hb)
            (try clear hb2)
            (try clear hk)
            (try clear hi)
            refine hK.out _ _ ⟨(blk_cell BK271.out 0).trans rfl, (blk_cell BK271.out 1).trans rfl⟩ (fun hHeld => ?_)
            clear hK K
            refine norm_ (a' := ?_) ?_ ?_
            rotate_left
            ·show Act.put _ (some 86) _ = _
             simp only [Act.put, List.setIfInBounds_toArray, List.set_cons_zero, List.set_cons_succ, i64_w, i32_w]
             rfl
            refine pure_ (i := 5) (N := some 81) (v := ?_) (a' := ?_) #[true, true, true, true, true, true, false, false, false, false, true, false, false, false, false] rfl rfl (any_of HT_.out (by kernel_rfl)) (fun _ _ _ h => h) (Or.inl ⟨by rfl, ?_⟩) ?_ ?_
            rotate_left
            ·intro w'
             go_simp
             with_reducible rfl
            rotate_left
            ·simp only [Act.put, List.setIfInBounds_toArray, List.set_cons_zero, List.set_cons_succ, i64_w, i32_w]
             rfl
            refine pure_ (i := 6) (N := some 87) (v := ?_) (a' := ?_) #[true, true, true, true, true, true, true, false, false, false, true, false, false, false, false] rfl rfl (any_of HT_.out (by kernel_rfl)) (fun _ _ _ h => h) (Or.inl ⟨by rfl, ?_⟩) ?_ ?_
            rotate_left
            ·intro w'
             go_simp
             with_reducible rfl
            rotate_left
            ·simp only [Act.put, List.setIfInBounds_toArray, List.set_cons_zero, List.set_cons_succ, i64_w, i32_w]
             rfl
            refine pure_ (i := 7) (N := some 88) (v := ?_) (a' := ?_) #[true, true, true, true, true, true, true, true, false, false, true, false, false, false, false] rfl rfl (any_of HT_.out (by kernel_rfl)) (fun _ _ _ h => h) (Or.inl ⟨by rfl, ?_⟩) ?_ ?_
            rotate_left
            ·intro w'
             go_simp
             with_reducible rfl
            rotate_left
            ·simp only [Act.put, List.setIfInBounds_toArray, List.set_cons_zero, List.set_cons_succ, i64_w, i32_w]
             rfl
            refine pure_ (i := 8) (N := some 89) (v := ?_) (a' := ?_) #[true, true, true, true, true, true, true, true, true, false, true, false, false, false, false] rfl rfl (any_of HT_.out (by kernel_rfl)) (fun _ _ _ h => h) (Or.inl ⟨by rfl, ?_⟩) ?_ ?_
            rotate_left
            ·intro w'
             go_simp
             with_reducible rfl
            rotate_left
            ·simp only [Act.put, List.setIfInBounds_toArray, List.set_cons_zero, List.set_cons_succ, i64_w, i32_w]
             rfl
            refine pure_ (i := 9) (N := some 90) (v := ?_) (a' := ?_) #[true, true, true, true, true, true, true, true, true, true, true, false, false, false, false] rfl rfl (any_of HT_.out (by kernel_rfl)) (fun _ _ _ h => h) (Or.inl ⟨by rfl, ?_⟩) ?_ ?_
            rotate_left
            ·intro w'
             go_simp
             with_reducible rfl
            rotate_left
            ·simp only [Act.put, List.setIfInBounds_toArray, List.set_cons_zero, List.set_cons_succ, i64_w, i32_w]
             rfl
            exact norm_ (by simp only [putAll, Act.put, List.setIfInBounds_toArray, List.set_cons_zero, List.set_cons_succ]) (hCont (.slice Ao134 t284.length co134, gb292) _ ⟨hHeld, (by (with_reducible repeat (first | apply Kd.R_alloc | apply Kd.R_drewN | apply Kd.R_drew)); exact Kd.R_mono HO277.out (fun _ hk => hk.2)), (by (with_reducible repeat (first | apply Kd.R_alloc | apply Kd.R_drewN | apply Kd.R_drew)); exact Kd.R_mono HO286.out (fun _ hk => hk.2)), (bk_ BK262.out), (bk_ BK271.out), (bk_ BK283.out), (bk_ BK292.out), GW292.out, GE292.out, NB262_292.out, NB292_262.out, NB271_292.out, NB292_271.out, NB283_292.out, NB292_283.out, (hb_ HB.out)⟩)
          rintro ⟨v285, gb292⟩ w136 ⟨hS_, h0_, h1_, h2_, h3_, h4_, h5_, h6_, h7_, h8_, h9_, h10_, h11_, h12_, h13_, h14_⟩
          have n0_ : Aside0 (Kd.R k57 57 w136 w.heap.size (fun k_ => some k_ ≠ (v285 : Value).ownBlock) v276 t275) := ⟨h0_⟩
          have n1_ : Aside0 (Kd.R k57 57 w136 w.heap.size (fun k_ => some k_ ≠ (v276 : Value).ownBlock) v285 t284) := ⟨h1_⟩
          have n2_ : Aside0 (w136.heap[gb262]? = some (.cells #[.int .i64 a1_0, .int .i64 a1_1] 23 (0, 0))) := ⟨h2_⟩
          have n3_ : Aside0 (w136.heap[gb271]? = some (.cells #[.int .i64 a1_0, .int .i64 (wrap64 (a1_1 + (wrap64 (Int.tmod (IntKind.u64.wrap (a3)) 20))))] 23 (0, 0))) := ⟨h3_⟩
          have n4_ : Aside0 (w136.heap[gb283]? = some (.cells #[.int .i64 t279, .int .i64 t280] 23 (0, 0))) := ⟨h4_⟩
          have n5_ : Aside0 (w136.heap[gb292]? = some (.cells #[.int .i64 0, .int .i64 0] 23 (0, 0))) := ⟨h5_⟩
          have n6_ : Aside0 (w.heap.size ≤ gb292) := ⟨h6_⟩
          have n7_ : Aside0 (w.heap.size ≤ gb292) := ⟨h7_⟩
          have n8_ : Aside0 (gb262 ≠ gb292) := ⟨h8_⟩
          have n9_ : Aside0 (gb292 ≠ gb262) := ⟨h9_⟩
          have n10_ : Aside0 (gb271 ≠ gb292) := ⟨h10_⟩
          have n11_ : Aside0 (gb292 ≠ gb271) := ⟨h11_⟩
          have n12_ : Aside0 (gb283 ≠ gb292) := ⟨h12_⟩
          have n13_ : Aside0 (gb292 ≠ gb283) := ⟨h13_⟩
          have n14_ : Aside0 (Below w.heap.size w w136) := ⟨h14_⟩
          clear HO277
          clear BK262
          clear BK271
          clear BK283
          clear HB
          clear h0_ h1_ h2_ h3_ h4_ h5_ h6_ h7_ h8_ h9_ h10_ h11_ h12_ h13_ h14_
          have HO277 := n0_
          have HO286 := n1_
          have BK262 := n2_
          have BK271 := n3_
          have BK283 := n4_
          have BK292 := n5_
          have GW292 := n6_
          have GE292 := n7_
          have NB262_292 := n8_
          have NB292_262 := n9_
          have NB271_292 := n10_
          have NB292_271 := n11_
          have NB283_292 := n12_
          have NB292_283 := n13_
          have HB := n14_
          clear n0_ n1_ n2_ n3_ n4_ n5_ n6_ n7_ n8_ n9_ n10_ n11_ n12_ n13_ n14_
          have hHeld : w136.cell? ⟨gb271, 0, none⟩ = some (.int .i64 a1_0) ∧ w136.cell? ⟨gb271, 1, none⟩ = some (.int .i64 (wrap64 (a1_1 + (wrap64 (Int.tmod (IntKind.u64.wrap (a3)) 20))))) := hS_
          refine norm_ (a' := ?_) ?_ ?_
          rotate_left
          ·simp only [putAll, Act.put, List.setIfInBounds_toArray, List.set_cons_zero, List.set_cons_succ]
           rfl
          refine pure_ (i := 11) (N := some 19) (v := ?_) (a' := ?_) #[true, true, true, true, true, true, true, true, true, true, true, true, false, false, false] rfl rfl (any_of HT_.out (by kernel_rfl)) (fun _ _ _ h => h) (Or.inl ⟨by rfl, ?_⟩) ?_ ?_
          rotate_left
          ·intro w'
           go_simp
           with_reducible rfl
          rotate_left
          ·simp only [Act.put, List.setIfInBounds_toArray, List.set_cons_zero, List.set_cons_succ, i64_w, i32_w]
           rfl
          refine one_ (i := 12) (N := none) #[true, true, true, true, true, true, true, true, true, true, true, true, true, false, false] rfl rfl (one_of HT_.out (by kernel_rfl)) (by decide) (fun K hK => ?_)
          have hs137 : w136.cell? ⟨gb292, 0, none⟩ = some (.int .i64 0) := (blk_cell BK292.out 0).trans rfl
          have hfs137 := blk_frozen BK292.out 0
          have hns137_0 := NB262_292.out
          have hns137_1 := NB271_292.out
          have hns137_2 := NB283_292.out
          have hms137_0 := NB292_262.out
          have hms137_1 := NB292_271.out
          have hms137_2 := NB292_283.out
          have hs138 : w136.cell? ⟨gb292, 1, none⟩ = some (.int .i64 0) := (blk_cell BK292.out 1).trans rfl
          have hfs138 := blk_frozen BK292.out 1
          have hns138_0 := NB262_292.out
          have hns138_1 := NB271_292.out
          have hns138_2 := NB283_292.out
          have hms138_0 := NB292_262.out
          have hms138_1 := NB292_271.out
          have hms138_2 := NB292_283.out
          refine skip_ (w1 := ?_) (by rfl) rfl ?_ ?_
          rotate_left
          ·go_simp
           rfl
          refine hK.out _ _ ⟨((cell_far (p := ⟨gb292, _, none⟩) NB271_292.out _).trans (((cell_far (p := ⟨gb292, _, none⟩) NB271_292.out _).trans (hHeld.1)))), ((cell_far (p := ⟨gb292, _, none⟩) NB271_292.out _).trans (((cell_far (p := ⟨gb292, _, none⟩) NB271_292.out _).trans (hHeld.2))))⟩ (fun hHeld => ?_)
          clear hK K
          refine pure_ (i := 13) (N := some 21) (v := ?_) (a' := ?_) #[true, true, true, true, true, true, true, true, true, true, true, true, true, true, false] rfl rfl (any_of HT_.out (by kernel_rfl)) (fun _ _ _ h => h) (Or.inl ⟨by rfl, ?_⟩) ?_ ?_
          rotate_left
          ·intro w'
           go_simp
           with_reducible rfl
          rotate_left
          ·simp only [Act.put, List.setIfInBounds_toArray, List.set_cons_zero, List.set_cons_succ, i64_w, i32_w]
           rfl
          refine pure_ (i := 14) (N := some 22) (v := ?_) (a' := ?_) #[true, true, true, true, true, true, true, true, true, true, true, true, true, true, true] rfl rfl (any_of HT_.out (by kernel_rfl)) (fun _ _ _ h => h) (Or.inl ⟨by rfl, ?_⟩) ?_ ?_
          rotate_left
          ·intro w'
           go_simp
           with_reducible rfl
          rotate_left
          ·simp only [Act.put, List.setIfInBounds_toArray, List.set_cons_zero, List.set_cons_succ, i64_w, i32_w]
           rfl
          refine done_ (done_of HT_.out (by kernel_rfl)) ?_
          go_upto_region 14 with (fail)
          go_cut [106] (fun v106 wc => ∃ (kq : Nat) (x106_120 : Bool), v106 = .bool x106_120 ∧ Aside0 (j2 kq l0 1 (wrap64 (Int.tmod (IntKind.u64.wrap (a3)) 20)) t278 t281 t287 t290 (wrap64 ((wrap64 (Int.tmod (IntKind.u64.wrap (a4)) 60)) + 1)) x68_2 x106_120 a1_0 a1_1 a1_0 (wrap64 (a1_1 + (wrap64 (Int.tmod (IntKind.u64.wrap (a3)) 20)))) t279 t280 t288 t289 = some r) ∧ Aside0 (kq ≤ k2) ∧ Aside0 (wc.heap[gb262]? = some (.cells #[.int .i64 a1_0, .int .i64 a1_1] 23 (0, 0))) ∧ Aside0 (wc.heap[gb271]? = some (.cells #[.int .i64 a1_0, .int .i64 (wrap64 (a1_1 + (wrap64 (Int.tmod (IntKind.u64.wrap (a3)) 20))))] 23 (0, 0))) ∧ Aside0 (wc.heap[gb283]? = some (.cells #[.int .i64 t279, .int .i64 t280] 23 (0, 0))) ∧ Aside0 (wc.heap[gb292]? = some (.cells #[.int .i64 t288, .int .i64 t289] 23 (0, 0))) ∧ Aside0 (Below w.heap.size w wc))
          case first =>
           have H := HC121.out
           clear HC121
           by_cases c139 : t282 = 0
           ·rw [if_pos c139] at H
            have c139b0 : (t282 == 0) = true := beq_iff_eq.mpr c139
            have c139b1 : (t282 != 0) = false := bne_eq_false_iff_eq.mpr c139
            clear c139
            (first | rw [c139b0] | (simp only [i64_w, i32_w]; rw [c139b0]) | skip)
            by_cases c140 : t291 = 0
            ·rw [if_pos c140] at H
             have c140b0 : (t291 == 0) = true := beq_iff_eq.mpr c140
             have c140b1 : (t291 != 0) = false := bne_eq_false_iff_eq.mpr c140
             clear c140
             by_cases c141 : t278 < 0
             ·rw [if_pos c141] at H
              have c141b0 : decide (t278 < 0) = true := decide_eq_true c141
              clear c141
              as_aux_lemma =>
               have H' := Aside0.mk H
               clear H
               go_wp2
               go_meet
               case rel => (try rw [← Niq29.out]); exact ⟨_, (true), (by first | rfl | (simp; done) | (simp [*]; done)), H', ⟨by have := HJ5.out; have := HK2.out; first | omega | exact Nat.le_refl _⟩, ⟨bk_ (blk_far (bk_ (blk_far (bk_ BK262.out) NB262_292.out _)) NB262_292.out _)⟩, ⟨bk_ (blk_far (bk_ (blk_far (bk_ BK271.out) NB271_292.out _)) NB271_292.out _)⟩, ⟨bk_ (blk_far (bk_ (blk_far (bk_ BK283.out) NB283_292.out _)) NB283_292.out _)⟩, ⟨by (with_reducible repeat (first | refine blk_drewN ?_ _ | refine blk_drew ?_ | refine blk_alloc ?_ _)); refine blk_put (cs := #[.int .i64 t288, .int .i64 0]) ?_ 1 _ rfl; (with_reducible repeat (first | refine blk_drewN ?_ _ | refine blk_drew ?_ | refine blk_alloc ?_ _)); refine blk_put (cs := #[.int .i64 0, .int .i64 0]) ?_ 0 _ rfl; (with_reducible repeat (first | refine blk_drewN ?_ _ | refine blk_drew ?_ | refine blk_alloc ?_ _)); exact BK292.out⟩, ⟨hb_ HB.out⟩⟩
             rw [if_neg c141] at H
             have c141b0 : decide (t278 < 0) = false := decide_eq_false c141
             clear c141
             as_aux_lemma =>
              have H' := Aside0.mk H
              clear H
              go_wp2
              go_meet
              case rel => (try rw [← Niq29.out]); exact ⟨_, (decide (t278 ≥ (l0.length : Int))), (by first | rfl | (simp; done) | (simp [*]; done)), H', ⟨by have := HJ5.out; have := HK2.out; first | omega | exact Nat.le_refl _⟩, ⟨bk_ (blk_far (bk_ (blk_far (bk_ BK262.out) NB262_292.out _)) NB262_292.out _)⟩, ⟨bk_ (blk_far (bk_ (blk_far (bk_ BK271.out) NB271_292.out _)) NB271_292.out _)⟩, ⟨bk_ (blk_far (bk_ (blk_far (bk_ BK283.out) NB283_292.out _)) NB283_292.out _)⟩, ⟨by (with_reducible repeat (first | refine blk_drewN ?_ _ | refine blk_drew ?_ | refine blk_alloc ?_ _)); refine blk_put (cs := #[.int .i64 t288, .int .i64 0]) ?_ 1 _ rfl; (with_reducible repeat (first | refine blk_drewN ?_ _ | refine blk_drew ?_ | refine blk_alloc ?_ _)); refine blk_put (cs := #[.int .i64 0, .int .i64 0]) ?_ 0 _ rfl; (with_reducible repeat (first | refine blk_drewN ?_ _ | refine blk_drew ?_ | refine blk_alloc ?_ _)); exact BK292.out⟩, ⟨hb_ HB.out⟩⟩
            rw [if_neg c140] at H
            have c140b0 : (t291 == 0) = false := beq_eq_false_iff_ne.mpr c140
            have c140b1 : (t291 != 0) = true := bne_iff_ne.mpr c140
            as_aux_lemma =>
             have H' := Aside0.mk H
             clear H
             go_wp2
             go_meet
             case rel => (try rw [← Niq29.out]); exact ⟨_, (true), (by first | rfl | (simp; done) | (simp [*]; done)), H', ⟨by have := HJ5.out; have := HK2.out; first | omega | exact Nat.le_refl _⟩, ⟨bk_ (blk_far (bk_ (blk_far (bk_ BK262.out) NB262_292.out _)) NB262_292.out _)⟩, ⟨bk_ (blk_far (bk_ (blk_far (bk_ BK271.out) NB271_292.out _)) NB271_292.out _)⟩, ⟨bk_ (blk_far (bk_ (blk_far (bk_ BK283.out) NB283_292.out _)) NB283_292.out _)⟩, ⟨by (with_reducible repeat (first | refine blk_drewN ?_ _ | refine blk_drew ?_ | refine blk_alloc ?_ _)); refine blk_put (cs := #[.int .i64 t288, .int .i64 0]) ?_ 1 _ rfl; (with_reducible repeat (first | refine blk_drewN ?_ _ | refine blk_drew ?_ | refine blk_alloc ?_ _)); refine blk_put (cs := #[.int .i64 0, .int .i64 0]) ?_ 0 _ rfl; (with_reducible repeat (first | refine blk_drewN ?_ _ | refine blk_drew ?_ | refine blk_alloc ?_ _)); exact BK292.out⟩, ⟨hb_ HB.out⟩⟩
           rw [if_neg c139] at H
           have c139b0 : (t282 == 0) = false := beq_eq_false_iff_ne.mpr c139
           have c139b1 : (t282 != 0) = true := bne_iff_ne.mpr c139
           (first | rw [c139b0] | (simp only [i64_w, i32_w]; rw [c139b0]) | skip)
           as_aux_lemma =>
            have H' := Aside0.mk H
            clear H
            go_wp2
            go_meet
            case rel => (try rw [← Niq29.out]); exact ⟨_, (true), (by first | rfl | (simp; done) | (simp [*]; done)), H', ⟨by have := HJ5.out; have := HK2.out; first | omega | exact Nat.le_refl _⟩, ⟨bk_ (blk_far (bk_ (blk_far (bk_ BK262.out) NB262_292.out _)) NB262_292.out _)⟩, ⟨bk_ (blk_far (bk_ (blk_far (bk_ BK271.out) NB271_292.out _)) NB271_292.out _)⟩, ⟨bk_ (blk_far (bk_ (blk_far (bk_ BK283.out) NB283_292.out _)) NB283_292.out _)⟩, ⟨by (with_reducible repeat (first | refine blk_drewN ?_ _ | refine blk_drew ?_ | refine blk_alloc ?_ _)); refine blk_put (cs := #[.int .i64 t288, .int .i64 0]) ?_ 1 _ rfl; (with_reducible repeat (first | refine blk_drewN ?_ _ | refine blk_drew ?_ | refine blk_alloc ?_ _)); refine blk_put (cs := #[.int .i64 0, .int .i64 0]) ?_ 0 _ rfl; (with_reducible repeat (first | refine blk_drewN ?_ _ | refine blk_drew ?_ | refine blk_alloc ?_ _)); exact BK292.out⟩, ⟨hb_ HB.out⟩⟩
          case rest =>
           clear HC121
           try clear c1
           try clear p2
           try clear q2
           try clear p6
           try clear c10
           try clear c11
           try clear c13
           try clear c14
           try clear q29
           try clear p64
           try clear c139
           try clear c139b0
           try clear c139b1
           try clear c140
           try clear c140b0
           try clear c140b1
           try clear c141
           try clear c141b0
           obtain ⟨kq, x106_120, rfl, HA, HJ120, BK262, BK271, BK283, BK292, HB⟩ := hcut
           cases kq with
           | zero => exact absurd HA.out (by simp [j2])
           | succ kj120 =>
            have H := HA.out
            clear HA
            simp only [j2] at H
            by_cases c142 : x106_120 = true
            ·subst c142
             have H1 : (some false) = some r := by rw [if_pos rfl] at H; exact H
             clear H
             have H := H1
             clear H1
             as_aux_lemma =>
              obtain rfl := Option.some.inj H
              go_wp2
              go_ret
              exact ⟨by first | rfl | (simp [errW_none, errW_some] <;> rfl) | (simp [*, errW_none, errW_some] <;> rfl), hb_ HB.out⟩
            ·replace c142 := Bool.eq_false_iff.mpr c142
             subst c142
             have H1 : (if 1 = 0 then (if t278 = t287 then (if (!((wrap64 (t279 + (wrap64 (Int.tmod (IntKind.u64.wrap (a3)) 20)))) == t288) || (!(t280 == t289))) = true then (j3 kj120 l0 0 (wrap64 (Int.tmod (IntKind.u64.wrap (a3)) 20)) t278 (wrap64 ((wrap64 (Int.tmod (IntKind.u64.wrap (a4)) 60)) + 1)) x68_2 true a1_0 a1_1 a1_0 (wrap64 (a1_1 + (wrap64 (Int.tmod (IntKind.u64.wrap (a3)) 20)))) (wrap64 (t279 + (wrap64 (Int.tmod (IntKind.u64.wrap (a3)) 20)))) t280) else (j3 kj120 l0 0 (wrap64 (Int.tmod (IntKind.u64.wrap (a3)) 20)) t278 (wrap64 ((wrap64 (Int.tmod (IntKind.u64.wrap (a4)) 60)) + 1)) x68_2 (t281 != t290) a1_0 a1_1 a1_0 (wrap64 (a1_1 + (wrap64 (Int.tmod (IntKind.u64.wrap (a3)) 20)))) (wrap64 (t279 + (wrap64 (Int.tmod (IntKind.u64.wrap (a3)) 20)))) t280)) else (j3 kj120 l0 0 (wrap64 (Int.tmod (IntKind.u64.wrap (a3)) 20)) t278 (wrap64 ((wrap64 (Int.tmod (IntKind.u64.wrap (a4)) 60)) + 1)) x68_2 true a1_0 a1_1 a1_0 (wrap64 (a1_1 + (wrap64 (Int.tmod (IntKind.u64.wrap (a3)) 20)))) (wrap64 (t279 + (wrap64 (Int.tmod (IntKind.u64.wrap (a3)) 20)))) t280)) else (if 1 = 1 then (if t278 = t287 then (if (!(t279 == t288) || (!((wrap64 (t280 + (wrap64 (Int.tmod (IntKind.u64.wrap (a3)) 20)))) == t289))) = true then (j5 kj120 l0 1 (wrap64 (Int.tmod (IntKind.u64.wrap (a3)) 20)) t278 (wrap64 ((wrap64 (Int.tmod (IntKind.u64.wrap (a4)) 60)) + 1)) x68_2 true a1_0 a1_1 a1_0 (wrap64 (a1_1 + (wrap64 (Int.tmod (IntKind.u64.wrap (a3)) 20)))) t279 (wrap64 (t280 + (wrap64 (Int.tmod (IntKind.u64.wrap (a3)) 20))))) else (j5 kj120 l0 1 (wrap64 (Int.tmod (IntKind.u64.wrap (a3)) 20)) t278 (wrap64 ((wrap64 (Int.tmod (IntKind.u64.wrap (a4)) 60)) + 1)) x68_2 (t281 != t290) a1_0 a1_1 a1_0 (wrap64 (a1_1 + (wrap64 (Int.tmod (IntKind.u64.wrap (a3)) 20)))) t279 (wrap64 (t280 + (wrap64 (Int.tmod (IntKind.u64.wrap (a3)) 20)))))) else (j5 kj120 l0 1 (wrap64 (Int.tmod (IntKind.u64.wrap (a3)) 20)) t278 (wrap64 ((wrap64 (Int.tmod (IntKind.u64.wrap (a4)) 60)) + 1)) x68_2 true a1_0 a1_1 a1_0 (wrap64 (a1_1 + (wrap64 (Int.tmod (IntKind.u64.wrap (a3)) 20)))) t279 (wrap64 (t280 + (wrap64 (Int.tmod (IntKind.u64.wrap (a3)) 20)))))) else (none))) = some r := by rw [if_neg (show ¬ (false = true) by decide)] at H; exact H
             clear H
             have H := H1
             clear H1
             (first | rw [if_neg (show ¬ ((1 : Int) = (0 : Int)) by decide)] at H | rw [if_neg (show ¬ ((1 : Nat) = (0 : Nat)) by decide)] at H)
             (first | rw [if_pos (show ((1 : Int) = (1 : Int)) by decide)] at H | rw [if_pos (show ((1 : Nat) = (1 : Nat)) by decide)] at H)
             have HC143 := Aside0.mk H
             clear H
             have hnb144 := NB283_262.out
             have hnc144 := NB262_283.out
             have hnb145 := NB283_271.out
             have hnc145 := NB271_283.out
             have hnb146 := NB283_292.out
             have hnc146 := NB292_283.out
             have hcz147_0 : wc.cell? ⟨gb283, 0, none⟩ = some (.int .i64 t279) := (blk_cell BK283.out 0).trans rfl
             have hcz147_1 : wc.cell? ⟨gb283, 1, none⟩ = some (.int .i64 t280) := (blk_cell BK283.out 1).trans rfl
             have hfz147_0 := blk_frozen BK283.out 0
             have hfz147_1 := blk_frozen BK283.out 1
             go_upto_region 17 with (fail)
             go_cut [125] (fun v125 wc => ∃ (kq : Nat) (x125_142 : Bool), v125 = .bool x125_142 ∧ Aside0 (j5 kq l0 1 (wrap64 (Int.tmod (IntKind.u64.wrap (a3)) 20)) t278 (wrap64 ((wrap64 (Int.tmod (IntKind.u64.wrap (a4)) 60)) + 1)) x68_2 x125_142 a1_0 a1_1 a1_0 (wrap64 (a1_1 + (wrap64 (Int.tmod (IntKind.u64.wrap (a3)) 20)))) t279 (wrap64 (t280 + (wrap64 (Int.tmod (IntKind.u64.wrap (a3)) 20)))) = some r) ∧ Aside0 (kq ≤ kj120) ∧ Aside0 (wc.heap[gb262]? = some (.cells #[.int .i64 a1_0, .int .i64 a1_1] 23 (0, 0))) ∧ Aside0 (wc.heap[gb271]? = some (.cells #[.int .i64 a1_0, .int .i64 (wrap64 (a1_1 + (wrap64 (Int.tmod (IntKind.u64.wrap (a3)) 20))))] 23 (0, 0))) ∧ Aside0 (wc.heap[gb283]? = some (.cells #[.int .i64 t279, .int .i64 (wrap64 (t280 + (wrap64 (Int.tmod (IntKind.u64.wrap (a3)) 20))))] 23 (0, 0))) ∧ Aside0 (wc.heap[gb292]? = some (.cells #[.int .i64 t288, .int .i64 t289] 23 (0, 0))) ∧ Aside0 (Below w.heap.size w wc))
             case first =>
              have H := HC143.out
              clear HC143
              by_cases c148 : t278 = t287
              ·rw [if_pos c148] at H
               have c148b0 : (t278 == t287) = true := beq_iff_eq.mpr c148
               have c148b1 : (t278 != t287) = false := bne_eq_false_iff_eq.mpr c148
               clear c148
               (first | rw [c148b0] | (simp only [i64_w, i32_w]; rw [c148b0]) | skip)
               by_cases c149 : (!(t279 == t288) || (!((wrap64 (t280 + (wrap64 (Int.tmod (IntKind.u64.wrap (a3)) 20)))) == t289))) = true
               ·rw [if_pos c149] at H
                have c149b0 : (!(t279 == t288) || (!((wrap64 (t280 + (wrap64 (Int.tmod (IntKind.u64.wrap (a3)) 20)))) == t289))) = true := c149
                clear c149
                as_aux_lemma =>
                 have H' := Aside0.mk H
                 clear H
                 have hnb150 := NB283_262.out
                 have hnc150 := NB262_283.out
                 have hnb151 := NB283_271.out
                 have hnc151 := NB271_283.out
                 have hnb152 := NB283_292.out
                 have hnc152 := NB292_283.out
                 have hcz153_0 : wc.cell? ⟨gb283, 0, none⟩ = some (.int .i64 t279) := (blk_cell BK283.out 0).trans rfl
                 have hcz153_1 : wc.cell? ⟨gb283, 1, none⟩ = some (.int .i64 t280) := (blk_cell BK283.out 1).trans rfl
                 have hfz153_0 := blk_frozen BK283.out 0
                 have hfz153_1 := blk_frozen BK283.out 1
                 have hnb154 := NB292_262.out
                 have hnc154 := NB262_292.out
                 have hnb155 := NB292_271.out
                 have hnc155 := NB271_292.out
                 have hcz156_0 : wc.cell? ⟨gb292, 0, none⟩ = some (.int .i64 t288) := (blk_cell BK292.out 0).trans rfl
                 have hcz156_1 : wc.cell? ⟨gb292, 1, none⟩ = some (.int .i64 t289) := (blk_cell BK292.out 1).trans rfl
                 have hfz156_0 := blk_frozen BK292.out 0
                 have hfz156_1 := blk_frozen BK292.out 1
                 go_wp2
                 go_meet
                 case rel => (try rw [← Niq29.out]); exact ⟨_, (true), (by first | rfl | (simp; done) | (simp [*]; done)), H', ⟨by have := HJ5.out; have := HK2.out; have := HJ120.out; first | omega | exact Nat.le_refl _⟩, ⟨bk_ (blk_far (bk_ BK262.out) NB262_283.out _)⟩, ⟨bk_ (blk_far (bk_ BK271.out) NB271_283.out _)⟩, ⟨by (with_reducible repeat (first | refine blk_drewN ?_ _ | refine blk_drew ?_ | refine blk_alloc ?_ _)); refine blk_put (cs := #[.int .i64 t279, .int .i64 t280]) ?_ 1 _ rfl; (with_reducible repeat (first | refine blk_drewN ?_ _ | refine blk_drew ?_ | refine blk_alloc ?_ _)); exact BK283.out⟩, ⟨bk_ (blk_far (bk_ BK292.out) NB292_283.out _)⟩, ⟨hb_ HB.out⟩⟩
               rw [if_neg c149] at H
               have c149b0 : (!(t279 == t288) || (!((wrap64 (t280 + (wrap64 (Int.tmod (IntKind.u64.wrap (a3)) 20)))) == t289))) = false := by simpa using c149
               clear c149
               as_aux_lemma =>
                have H' := Aside0.mk H
                clear H
                have hnb157 := NB283_262.out
                have hnc157 := NB262_283.out
                have hnb158 := NB283_271.out
                have hnc158 := NB271_283.out
                have hnb159 := NB283_292.out
                have hnc159 := NB292_283.out
                have hcz160_0 : wc.cell? ⟨gb283, 0, none⟩ = some (.int .i64 t279) := (blk_cell BK283.out 0).trans rfl
                have hcz160_1 : wc.cell? ⟨gb283, 1, none⟩ = some (.int .i64 t280) := (blk_cell BK283.out 1).trans rfl
                have hfz160_0 := blk_frozen BK283.out 0
                have hfz160_1 := blk_frozen BK283.out 1
                have hnb161 := NB292_262.out
                have hnc161 := NB262_292.out
                have hnb162 := NB292_271.out
                have hnc162 := NB271_292.out
                have hcz163_0 : wc.cell? ⟨gb292, 0, none⟩ = some (.int .i64 t288) := (blk_cell BK292.out 0).trans rfl
                have hcz163_1 : wc.cell? ⟨gb292, 1, none⟩ = some (.int .i64 t289) := (blk_cell BK292.out 1).trans rfl
                have hfz163_0 := blk_frozen BK292.out 0
                have hfz163_1 := blk_frozen BK292.out 1
                go_wp2
                go_meet
                case rel => (try rw [← Niq29.out]); exact ⟨_, ((t281 != t290)), (by first | rfl | (simp; done) | (simp [*]; done)), H', ⟨by have := HJ5.out; have := HK2.out; have := HJ120.out; first | omega | exact Nat.le_refl _⟩, ⟨bk_ (blk_far (bk_ BK262.out) NB262_283.out _)⟩, ⟨bk_ (blk_far (bk_ BK271.out) NB271_283.out _)⟩, ⟨by (with_reducible repeat (first | refine blk_drewN ?_ _ | refine blk_drew ?_ | refine blk_alloc ?_ _)); refine blk_put (cs := #[.int .i64 t279, .int .i64 t280]) ?_ 1 _ rfl; (with_reducible repeat (first | refine blk_drewN ?_ _ | refine blk_drew ?_ | refine blk_alloc ?_ _)); exact BK283.out⟩, ⟨bk_ (blk_far (bk_ BK292.out) NB292_283.out _)⟩, ⟨hb_ HB.out⟩⟩
              rw [if_neg c148] at H
              have c148b0 : (t278 == t287) = false := beq_eq_false_iff_ne.mpr c148
              have c148b1 : (t278 != t287) = true := bne_iff_ne.mpr c148
              (first | rw [c148b0] | (simp only [i64_w, i32_w]; rw [c148b0]) | skip)
              as_aux_lemma =>
               have H' := Aside0.mk H
               clear H
               go_wp2
               go_meet
               case rel => (try rw [← Niq29.out]); exact ⟨_, (true), (by first | rfl | (simp; done) | (simp [*]; done)), H', ⟨by have := HJ5.out; have := HK2.out; have := HJ120.out; first | omega | exact Nat.le_refl _⟩, ⟨bk_ (blk_far (bk_ BK262.out) NB262_283.out _)⟩, ⟨bk_ (blk_far (bk_ BK271.out) NB271_283.out _)⟩, ⟨by (with_reducible repeat (first | refine blk_drewN ?_ _ | refine blk_drew ?_ | refine blk_alloc ?_ _)); refine blk_put (cs := #[.int .i64 t279, .int .i64 t280]) ?_ 1 _ rfl; (with_reducible repeat (first | refine blk_drewN ?_ _ | refine blk_drew ?_ | refine blk_alloc ?_ _)); exact BK283.out⟩, ⟨bk_ (blk_far (bk_ BK292.out) NB292_283.out _)⟩, ⟨hb_ HB.out⟩⟩
             case rest =>
              clear HC143
              try clear c1
              try clear p2
              try clear q2
              try clear p6
              try clear c10
              try clear c11
              try clear c13
              try clear c14
              try clear c15
              try clear c16
              try clear q29
              try clear p64
              try clear c139
              try clear c139b0
              try clear c139b1
              try clear c140
              try clear c140b0
              try clear c140b1
              try clear c141
              try clear c141b0
              try clear c142
              try clear c144
              try clear c145
              try clear c146
              try clear c148
              try clear c148b0
              try clear c148b1
              try clear c149
              try clear c149b0
              try clear c150
              try clear c151
              try clear c152
              try clear c154
              try clear c155
              try clear c157
              try clear c158
              try clear c159
              try clear c161
              try clear c162
              try clear hcz147_0
              try clear hcz147_1
              try clear hcz153_0
              try clear hcz153_1
              try clear hcz156_0
              try clear hcz156_1
              try clear hcz160_0
              try clear hcz160_1
              try clear hcz163_0
              try clear hcz163_1
              try clear hfz147_0
              try clear hfz147_1
              try clear hfz153_0
              try clear hfz153_1
              try clear hfz156_0
              try clear hfz156_1
              try clear hfz160_0
              try clear hfz160_1
              try clear hfz163_0
              try clear hfz163_1
              try clear p2
              try clear p6
              try clear p64
              try clear q2
              try clear q29
              obtain ⟨kq, x125_142, rfl, HA, HJ142, BK262, BK271, BK283, BK292, HB⟩ := hcut
              cases kq with
              | zero => exact absurd HA.out (by simp [j5])
              | succ kj142 =>
               have H := HA.out
               clear HA
               simp only [j5] at H
               by_cases c164 : x125_142 = true
               ·subst c164
                have H1 : (some false) = some r := by rw [if_pos rfl] at H; exact H
                clear H
                have H := H1
                clear H1
                as_aux_lemma =>
                 obtain rfl := Option.some.inj H
                 go_wp2
                 go_ret
                 exact ⟨by first | rfl | (simp [errW_none, errW_some] <;> rfl) | (simp [*, errW_none, errW_some] <;> rfl), hb_ HB.out⟩
               ·replace c164 := Bool.eq_false_iff.mpr c164
                subst c164
                have H1 : (if 0 ≤ t278 then (if t278 < (l0.length : Int) then (if ((rd_T39 l0 t278).f0) = 2 then (if ((rd_T39 l0 t278).f1) = 1 then (if 1 = 0 then (j6 kj142 l0 0 (wrap64 (Int.tmod (IntKind.u64.wrap (a3)) 20)) (wrap64 ((wrap64 (Int.tmod (IntKind.u64.wrap (a4)) 60)) + 1)) x68_2 (t279 == (wrap64 (Int.tmod (IntKind.u64.wrap (a3)) 20))) a1_0 a1_1 a1_0 (wrap64 (a1_1 + (wrap64 (Int.tmod (IntKind.u64.wrap (a3)) 20))))) else (if 1 = 1 then (j6 kj142 l0 1 (wrap64 (Int.tmod (IntKind.u64.wrap (a3)) 20)) (wrap64 ((wrap64 (Int.tmod (IntKind.u64.wrap (a4)) 60)) + 1)) x68_2 ((wrap64 (t280 + (wrap64 (Int.tmod (IntKind.u64.wrap (a3)) 20)))) == (wrap64 (Int.tmod (IntKind.u64.wrap (a3)) 20))) a1_0 a1_1 a1_0 (wrap64 (a1_1 + (wrap64 (Int.tmod (IntKind.u64.wrap (a3)) 20))))) else (none))) else (j6 kj142 l0 1 (wrap64 (Int.tmod (IntKind.u64.wrap (a3)) 20)) (wrap64 ((wrap64 (Int.tmod (IntKind.u64.wrap (a4)) 60)) + 1)) x68_2 false a1_0 a1_1 a1_0 (wrap64 (a1_1 + (wrap64 (Int.tmod (IntKind.u64.wrap (a3)) 20)))))) else (j6 kj142 l0 1 (wrap64 (Int.tmod (IntKind.u64.wrap (a3)) 20)) (wrap64 ((wrap64 (Int.tmod (IntKind.u64.wrap (a4)) 60)) + 1)) x68_2 false a1_0 a1_1 a1_0 (wrap64 (a1_1 + (wrap64 (Int.tmod (IntKind.u64.wrap (a3)) 20)))))) else (none)) else (none)) = some r := by rw [if_neg (show ¬ (false = true) by decide)] at H; exact H
                clear H
                have H := H1
                clear H1
                have HC165 := Aside0.mk H
                clear H
                go_upto_region 19 with (fail)
                go_cut [147] (fun v147 wc => ∃ (kq : Nat) (x147_164 : Bool), v147 = .bool x147_164 ∧ Aside0 (j6 kq l0 1 (wrap64 (Int.tmod (IntKind.u64.wrap (a3)) 20)) (wrap64 ((wrap64 (Int.tmod (IntKind.u64.wrap (a4)) 60)) + 1)) x68_2 x147_164 a1_0 a1_1 a1_0 (wrap64 (a1_1 + (wrap64 (Int.tmod (IntKind.u64.wrap (a3)) 20)))) = some r) ∧ Aside0 (kq ≤ kj142) ∧ Aside0 (wc.heap[gb262]? = some (.cells #[.int .i64 a1_0, .int .i64 a1_1] 23 (0, 0))) ∧ Aside0 (wc.heap[gb271]? = some (.cells #[.int .i64 a1_0, .int .i64 (wrap64 (a1_1 + (wrap64 (Int.tmod (IntKind.u64.wrap (a3)) 20))))] 23 (0, 0))) ∧ Aside0 (wc.heap[gb283]? = some (.cells #[.int .i64 t279, .int .i64 (wrap64 (t280 + (wrap64 (Int.tmod (IntKind.u64.wrap (a3)) 20))))] 23 (0, 0))) ∧ Aside0 (wc.heap[gb292]? = some (.cells #[.int .i64 t288, .int .i64 t289] 23 (0, 0))) ∧ Aside0 (Below w.heap.size w wc))
                case first =>
                 have H := HC165.out
                 clear HC165
                 by_cases c166 : 0 ≤ t278
                 ·rw [if_pos c166] at H
                  have c166b0 : decide (0 ≤ t278) = true := decide_eq_true c166
                  clear c166
                  (first | rw [c166b0] | (simp only [i64_w, i32_w]; rw [c166b0]) | skip)
                  by_cases c167 : t278 < (l0.length : Int)
                  ·rw [if_pos c167] at H
                   have c167b0 : decide (t278 < (l0.length : Int)) = true := decide_eq_true c167
                   clear c167
                   by_cases c168 : ((rd_T39 l0 t278).f0) = 2
                   ·rw [if_pos c168] at H
                    have c168b0 : (((rd_T39 l0 t278).f0) == 2) = true := beq_iff_eq.mpr c168
                    have c168b1 : (((rd_T39 l0 t278).f0) != 2) = false := bne_eq_false_iff_eq.mpr c168
                    clear c168
                    by_cases c169 : ((rd_T39 l0 t278).f1) = 1
                    ·rw [if_pos c169] at H
                     have c169b0 : (((rd_T39 l0 t278).f1) == 1) = true := beq_iff_eq.mpr c169
                     have c169b1 : (((rd_T39 l0 t278).f1) != 1) = false := bne_eq_false_iff_eq.mpr c169
                     clear c169
                     (first | rw [if_neg (show ¬ ((1 : Int) = (0 : Int)) by decide)] at H | rw [if_neg (show ¬ ((1 : Nat) = (0 : Nat)) by decide)] at H)
                     (first | rw [if_pos (show ((1 : Int) = (1 : Int)) by decide)] at H | rw [if_pos (show ((1 : Nat) = (1 : Nat)) by decide)] at H)
                     as_aux_lemma =>
                      have H' := Aside0.mk H
                      clear H
                      have p296 : 0 ≤ (t278 : Int) := of_decide_eq_true (by first | (with_reducible assumption) | assumption)
                      have q296 : t278 < (l0.length : Int) := of_decide_eq_true (by first | (with_reducible assumption) | assumption)
                      obtain ⟨ad296, e296, hx296_0, hx296_1, hx296_2, hx296_3⟩ := at_T39 HR0.out t278 p296 q296
                      (try rw [← Niq29.out] at hx296_0)
                      (try rw [← Niq29.out] at hx296_1)
                      (try rw [← Niq29.out] at hx296_2)
                      (try rw [← Niq29.out] at hx296_3)
                      cases e296
                      replace hx296_0 := (HB.out.cell (World.block_lt_of_cell? w _ hx296_0)).trans hx296_0
                      replace hx296_1 := (HB.out.cell (World.block_lt_of_cell? w _ hx296_1)).trans hx296_1
                      replace hx296_2 := (HB.out.cell (World.block_lt_of_cell? w _ hx296_2)).trans hx296_2
                      replace hx296_3 := (HB.out.cell (World.block_lt_of_cell? w _ hx296_3)).trans hx296_3
                      replace p296 := eq_true p296
                      replace q296 := eq_true q296
                      have p297 : 0 ≤ (t278 : Int) := of_decide_eq_true (by first | (with_reducible assumption) | assumption)
                      have q297 : t278 < (l0.length : Int) := of_decide_eq_true (by first | (with_reducible assumption) | assumption)
                      obtain ⟨ad297, e297, hx297_0, hx297_1, hx297_2, hx297_3⟩ := at_T39 HR0.out t278 p297 q297
                      (try rw [← Niq29.out] at hx297_0)
                      (try rw [← Niq29.out] at hx297_1)
                      (try rw [← Niq29.out] at hx297_2)
                      (try rw [← Niq29.out] at hx297_3)
                      obtain rfl : ad296 = ad297 := (by injection e297)
                      replace hx297_0 := (HB.out.cell (World.block_lt_of_cell? w _ hx297_0)).trans hx297_0
                      replace hx297_1 := (HB.out.cell (World.block_lt_of_cell? w _ hx297_1)).trans hx297_1
                      replace hx297_2 := (HB.out.cell (World.block_lt_of_cell? w _ hx297_2)).trans hx297_2
                      replace hx297_3 := (HB.out.cell (World.block_lt_of_cell? w _ hx297_3)).trans hx297_3
                      replace p297 := eq_true p297
                      replace q297 := eq_true q297
                      have hnb170 := NB283_262.out
                      have hnc170 := NB262_283.out
                      have hnb171 := NB283_271.out
                      have hnc171 := NB271_283.out
                      have hnb172 := NB283_292.out
                      have hnc172 := NB292_283.out
                      have hcz173_0 : wc.cell? ⟨gb283, 0, none⟩ = some (.int .i64 t279) := (blk_cell BK283.out 0).trans rfl
                      have hcz173_1 : wc.cell? ⟨gb283, 1, none⟩ = some (.int .i64 (wrap64 (t280 + (wrap64 (Int.tmod (IntKind.u64.wrap (a3)) 20))))) := (blk_cell BK283.out 1).trans rfl
                      have hfz173_0 := blk_frozen BK283.out 0
                      have hfz173_1 := blk_frozen BK283.out 1
                      go_wp2
                      go_meet
                      case rel => (try rw [← Niq29.out]); exact ⟨_, (((wrap64 (t280 + (wrap64 (Int.tmod (IntKind.u64.wrap (a3)) 20)))) == (wrap64 (Int.tmod (IntKind.u64.wrap (a3)) 20)))), (by first | rfl | (simp; done) | (simp [*]; done)), H', ⟨by have := HJ5.out; have := HK2.out; have := HJ120.out; have := HJ142.out; first | omega | exact Nat.le_refl _⟩, ⟨bk_ BK262.out⟩, ⟨bk_ BK271.out⟩, ⟨bk_ BK283.out⟩, ⟨bk_ BK292.out⟩, ⟨hb_ HB.out⟩⟩
                    rw [if_neg c169] at H
                    have c169b0 : (((rd_T39 l0 t278).f1) == 1) = false := beq_eq_false_iff_ne.mpr c169
                    have c169b1 : (((rd_T39 l0 t278).f1) != 1) = true := bne_iff_ne.mpr c169
                    as_aux_lemma =>
                     have H' := Aside0.mk H
                     clear H
                     have p296 : 0 ≤ (t278 : Int) := of_decide_eq_true (by first | (with_reducible assumption) | assumption)
                     have q296 : t278 < (l0.length : Int) := of_decide_eq_true (by first | (with_reducible assumption) | assumption)
                     obtain ⟨ad296, e296, hx296_0, hx296_1, hx296_2, hx296_3⟩ := at_T39 HR0.out t278 p296 q296
                     (try rw [← Niq29.out] at hx296_0)
                     (try rw [← Niq29.out] at hx296_1)
                     (try rw [← Niq29.out] at hx296_2)
                     (try rw [← Niq29.out] at hx296_3)
                     cases e296
                     replace hx296_0 := (HB.out.cell (World.block_lt_of_cell? w _ hx296_0)).trans hx296_0
                     replace hx296_1 := (HB.out.cell (World.block_lt_of_cell? w _ hx296_1)).trans hx296_1
                     replace hx296_2 := (HB.out.cell (World.block_lt_of_cell? w _ hx296_2)).trans hx296_2
                     replace hx296_3 := (HB.out.cell (World.block_lt_of_cell? w _ hx296_3)).trans hx296_3
                     replace p296 := eq_true p296
                     replace q296 := eq_true q296
                     have p297 : 0 ≤ (t278 : Int) := of_decide_eq_true (by first | (with_reducible assumption) | assumption)
                     have q297 : t278 < (l0.length : Int) := of_decide_eq_true (by first | (with_reducible assumption) | assumption)
                     obtain ⟨ad297, e297, hx297_0, hx297_1, hx297_2, hx297_3⟩ := at_T39 HR0.out t278 p297 q297
                     (try rw [← Niq29.out] at hx297_0)
                     (try rw [← Niq29.out] at hx297_1)
                     (try rw [← Niq29.out] at hx297_2)
                     (try rw [← Niq29.out] at hx297_3)
                     obtain rfl : ad296 = ad297 := (by injection e297)
                     replace hx297_0 := (HB.out.cell (World.block_lt_of_cell? w _ hx297_0)).trans hx297_0
                     replace hx297_1 := (HB.out.cell (World.block_lt_of_cell? w _ hx297_1)).trans hx297_1
                     replace hx297_2 := (HB.out.cell (World.block_lt_of_cell? w _ hx297_2)).trans hx297_2
                     replace hx297_3 := (HB.out.cell (World.block_lt_of_cell? w _ hx297_3)).trans hx297_3
                     replace p297 := eq_true p297
                     replace q297 := eq_true q297
                     go_wp2
                     go_meet
                     case rel => (try rw [← Niq29.out]); exact ⟨_, (false), (by first | rfl | (simp; done) | (simp [*]; done)), H', ⟨by have := HJ5.out; have := HK2.out; have := HJ120.out; have := HJ142.out; first | omega | exact Nat.le_refl _⟩, ⟨bk_ BK262.out⟩, ⟨bk_ BK271.out⟩, ⟨bk_ BK283.out⟩, ⟨bk_ BK292.out⟩, ⟨hb_ HB.out⟩⟩
                   rw [if_neg c168] at H
                   have c168b0 : (((rd_T39 l0 t278).f0) == 2) = false := beq_eq_false_iff_ne.mpr c168
                   have c168b1 : (((rd_T39 l0 t278).f0) != 2) = true := bne_iff_ne.mpr c168
                   as_aux_lemma =>
                    have H' := Aside0.mk H
                    clear H
                    have p296 : 0 ≤ (t278 : Int) := of_decide_eq_true (by first | (with_reducible assumption) | assumption)
                    have q296 : t278 < (l0.length : Int) := of_decide_eq_true (by first | (with_reducible assumption) | assumption)
                    obtain ⟨ad296, e296, hx296_0, hx296_1, hx296_2, hx296_3⟩ := at_T39 HR0.out t278 p296 q296
                    (try rw [← Niq29.out] at hx296_0)
                    (try rw [← Niq29.out] at hx296_1)
                    (try rw [← Niq29.out] at hx296_2)
                    (try rw [← Niq29.out] at hx296_3)
                    cases e296
                    replace hx296_0 := (HB.out.cell (World.block_lt_of_cell? w _ hx296_0)).trans hx296_0
                    replace hx296_1 := (HB.out.cell (World.block_lt_of_cell? w _ hx296_1)).trans hx296_1
                    replace hx296_2 := (HB.out.cell (World.block_lt_of_cell? w _ hx296_2)).trans hx296_2
                    replace hx296_3 := (HB.out.cell (World.block_lt_of_cell? w _ hx296_3)).trans hx296_3
                    replace p296 := eq_true p296
                    replace q296 := eq_true q296
                    go_wp2
                    go_meet
                    case rel => (try rw [← Niq29.out]); exact ⟨_, (false), (by first | rfl | (simp; done) | (simp [*]; done)), H', ⟨by have := HJ5.out; have := HK2.out; have := HJ120.out; have := HJ142.out; first | omega | exact Nat.le_refl _⟩, ⟨bk_ BK262.out⟩, ⟨bk_ BK271.out⟩, ⟨bk_ BK283.out⟩, ⟨bk_ BK292.out⟩, ⟨hb_ HB.out⟩⟩
                  rw [if_neg c167] at H
                  exact absurd H (by simp)
                 rw [if_neg c166] at H
                 exact absurd H (by simp)
                case rest =>
                 clear HC165
                 try clear c1
                 try clear p2
                 try clear q2
                 try clear hx2
                 try clear p6
                 try clear c10
                 try clear c11
                 try clear c13
                 try clear c14
                 try clear c15
                 try clear c16
                 try clear c17
                 try clear p29
                 try clear q29
                 try clear hx29
                 try clear p64
                 try clear c139
                 try clear c139b0
                 try clear c139b1
                 try clear c140
                 try clear c140b0
                 try clear c140b1
                 try clear c141
                 try clear c141b0
                 try clear c142
                 try clear c144
                 try clear c145
                 try clear c146
                 try clear c148
                 try clear c148b0
                 try clear c148b1
                 try clear c149
                 try clear c149b0
                 try clear c150
                 try clear c151
                 try clear c152
                 try clear c154
                 try clear c155
                 try clear c157
                 try clear c158
                 try clear c159
                 try clear c161
                 try clear c162
                 try clear c164
                 try clear c166
                 try clear c166b0
                 try clear c167
                 try clear c167b0
                 try clear c168
                 try clear c168b0
                 try clear c168b1
                 try clear c169
                 try clear c169b0
                 try clear c169b1
                 try clear c170
                 try clear c171
                 try clear c172
                 try clear hcz147_0
                 try clear hcz147_1
                 try clear hcz153_0
                 try clear hcz153_1
                 try clear hcz156_0
                 try clear hcz156_1
                 try clear hcz160_0
                 try clear hcz160_1
                 try clear hcz163_0
                 try clear hcz163_1
                 try clear hcz173_0
                 try clear hcz173_1
                 try clear hfz147_0
                 try clear hfz147_1
                 try clear hfz153_0
                 try clear hfz153_1
                 try clear hfz156_0
                 try clear hfz156_1
                 try clear hfz160_0
                 try clear hfz160_1
                 try clear hfz163_0
                 try clear hfz163_1
                 try clear hfz173_0
                 try clear hfz173_1
                 try clear hx296_0
                 try clear hx296_1
                 try clear hx296_2
                 try clear hx296_3
                 try clear hx297_0
                 try clear hx297_1
                 try clear hx297_2
                 try clear hx297_3
                 try clear p2
                 try clear p296
                 try clear p297
                 try clear p6
                 try clear p64
                 try clear q2
                 try clear q29
                 try clear q296
                 try clear q297
                 obtain ⟨kq, x147_164, rfl, HA, HJ164, BK262, BK271, BK283, BK292, HB⟩ := hcut
                 cases kq with
                 | zero => exact absurd HA.out (by simp [j6])
                 | succ kj164 =>
                  have H := HA.out
                  clear HA
                  simp only [j6] at H
                  by_cases c174 : x147_164 = true
                  ·subst c174
                   have H1 : ((comfitlaw06_awake.f kj164).bind fun t298 => (some t298)) = some r := by rw [if_pos rfl] at H; exact H
                   clear H
                   have H := H1
                   clear H1
                   replace H := Option.bind_eq_some_iff.mp H
                   obtain ⟨t298, A1750, H⟩ := H
                   replace H : (some t298) = some r := H
                   have A175 := Aside0.mk A1750
                   clear A1750
                   as_aux_lemma =>
                    obtain rfl := Option.some.inj H
                    go_wp2_with (first | ((with_reducible refine gate_callee (f := 14) rfl ?_); refine goesL_ (some 148) rfl rfl Try.func14 (by kernel_rfl) rfl #[] rfl al_ ?_; (with_reducible refine (comfitlaw06_awake.calls kj164  t298 _ A175.out).mono ?_); rintro e w176 ⟨rfl, hb⟩; refine ⟨_, rfl, ?_⟩; have n0_ := Aside0.mk (bkb_ BK262.out hb); have n1_ := Aside0.mk (bkb_ BK271.out hb); have n2_ := Aside0.mk (bkb_ BK283.out hb); have n3_ := Aside0.mk (bkb_ BK292.out hb); have n4_ := Aside0.mk (below_step (hb_ HB.out) hb); clear BK262; clear BK271; clear BK283; clear BK292; clear HB; have BK262 := n0_; have BK271 := n1_; have BK283 := n2_; have BK292 := n3_; have HB := n4_; clear n0_ n1_ n2_ n3_ n4_; (try clear hb); (try clear hb2); (try clear hk); (try clear hi)))
                    go_ret
                    exact ⟨by first | rfl | (simp [errW_none, errW_some] <;> rfl) | (simp [*, errW_none, errW_some] <;> rfl), hb_ HB.out⟩
                  ·replace c174 := Bool.eq_false_iff.mpr c174
                   subst c174
                   have H1 : (l0 kj164 l0 1 (wrap64 (Int.tmod (IntKind.u64.wrap (a3)) 20)) (wrap64 ((wrap64 (Int.tmod (IntKind.u64.wrap (a4)) 60)) + 1)) (wrap64 (x68_2 + 1)) a1_0 a1_1 a1_0 (wrap64 (a1_1 + (wrap64 (Int.tmod (IntKind.u64.wrap (a3)) 20))))) = some r := by rw [if_neg (show ¬ (false = true) by decide)] at H; exact H
                   clear H
                   have H := H1
                   clear H1
                   as_aux_lemma =>
                    have H' := Aside0.mk H
                    clear H
                    go_wp2
                    go_roundg kj164
                    case measure => have := HJ5.out; have := HK2.out; have := HJ120.out; have := HJ142.out; have := HJ164.out; omega
                    case rel => (try rw [← Niq29.out]); exact ⟨(wrap64 (x68_2 + 1)), (by first | rfl | (simp; done) | (simp [*]; done)), H', ⟨by have := HJ5.out; have := HK2.out; have := HJ120.out; have := HJ142.out; have := HJ164.out; omega⟩, ⟨bk_ BK262.out⟩, ⟨bk_ BK271.out⟩, ⟨hb_ HB.out⟩⟩
         rw [if_neg c116] at H
         have c116b0 : decide (x68_2 < (wrap64 ((wrap64 (Int.tmod (IntKind.u64.wrap (a4)) 60)) + 1))) = false := decide_eq_false c116
         clear c116
         replace H := Option.bind_eq_some_iff.mp H
         obtain ⟨t274, A1770, H⟩ := H
         replace H : (some t274) = some r := H
         have A177 := Aside0.mk A1770
         clear A1770
         as_aux_lemma =>
          obtain rfl := Option.some.inj H
          go_wp2_with (first | ((with_reducible refine gate_callee (f := 14) rfl ?_); refine goesL_ (some 150) rfl rfl Try.func14 (by kernel_rfl) rfl #[] rfl al_ ?_; (with_reducible refine (comfitlaw06_awake.calls k2  t274 _ A177.out).mono ?_); rintro e w178 ⟨rfl, hb⟩; refine ⟨_, rfl, ?_⟩; have n0_ := Aside0.mk (bkb_ BK262.out hb); have n1_ := Aside0.mk (bkb_ BK271.out hb); have n2_ := Aside0.mk (below_step (hb_ HB.out) hb); clear BK262; clear BK271; clear HB; have BK262 := n0_; have BK271 := n1_; have HB := n2_; clear n0_ n1_ n2_; (try clear hb); (try clear hb2); (try clear hk); (try clear hi)))
          go_ret
          exact ⟨by first | rfl | (simp [errW_none, errW_some] <;> rfl) | (simp [*, errW_none, errW_some] <;> rfl), hb_ HB.out⟩
      ·replace c110 := Bool.eq_false_iff.mpr c110
       subst c110
       have H1 : ((comfitlaw06_awake.f kj5).bind fun t300 => (some t300)) = some r := by rw [if_neg (show ¬ (false = true) by decide)] at H; exact H
       clear H
       have H := H1
       clear H1
       replace H := Option.bind_eq_some_iff.mp H
       obtain ⟨t300, A1790, H⟩ := H
       replace H : (some t300) = some r := H
       have A179 := Aside0.mk A1790
       clear A1790
       as_aux_lemma =>
        obtain rfl := Option.some.inj H
        have hcz180_0 : wc.cell? ⟨gb262, 0, none⟩ = some (.int .i64 a1_0) := (blk_cell BK262.out 0).trans rfl
        have hcz180_1 : wc.cell? ⟨gb262, 1, none⟩ = some (.int .i64 a1_1) := (blk_cell BK262.out 1).trans rfl
        have hfz180_0 := blk_frozen BK262.out 0
        have hfz180_1 := blk_frozen BK262.out 1
        go_wp2_with (first | ((with_reducible refine gate_dst (N := 13) rfl ?_); (try (refine gate_guard (by rfl) ?_; dsimp only)); refine box_event ?hg (N := 13) ?hd (cs := #[.int .i64 0, .int .i64 0]) (t := 23) ?hr ?_; (case hd => rfl); (case hg => rfl); (case hr => first | (go_simp; done) | (go_simp; rfl)); intro gb271 hg w181 hbox hb; have n0_ := Aside0.mk (bkb_ BK262.out hb); have n1_ := Aside0.mk (below_step (hb_ HB.out) hb); have n2_ := Aside0.mk (hbox); have n3_ := Aside0.mk ((by rw [hg]; exact (below_size (hb_ HB.out)) : w.heap.size ≤ gb271)); have n4_ := Aside0.mk ((by rw [hg]; exact (below_size (hb_ HB.out)) : w.heap.size ≤ gb271)); have n5_ := Aside0.mk ((by rw [hg]; exact Nat.ne_of_lt (bkl_ BK262.out) : gb262 ≠ gb271)); have n6_ := Aside0.mk ((by rw [hg]; exact Nat.ne_of_gt (bkl_ BK262.out) : gb271 ≠ gb262)); clear BK262; clear HB; have BK262 := n0_; have HB := n1_; have BK271 := n2_; have GW271 := n3_; have GE271 := n4_; have NB262_271 := n5_; have NB271_262 := n6_; clear n0_ n1_ n2_ n3_ n4_ n5_ n6_; clear hb hbox hg; have hnb182 := NB271_262.out; have hnc182 := NB262_271.out; have hcz183_0 : w181.cell? ⟨gb271, 0, none⟩ = some (.int .i64 0) := (blk_cell BK271.out 0).trans rfl; have hcz183_1 : w181.cell? ⟨gb271, 1, none⟩ = some (.int .i64 0) := (blk_cell BK271.out 1).trans rfl; have hfz183_0 := blk_frozen BK271.out 0; have hfz183_1 := blk_frozen BK271.out 1) | ((with_reducible refine gate_callee (f := 13) rfl ?_); refine goesL_ (some 63) rfl rfl Try.func13 (by kernel_rfl) rfl #[.agg #[.int .i64 a1_0, .int .i64 (wrap64 (a1_1 + (wrap64 (Int.tmod (IntKind.u64.wrap (a3)) 20))))]] rfl al_ ?_; (with_reducible refine (comfitref06_Jars.calls a1_0 (wrap64 (a1_1 + (wrap64 (Int.tmod (IntKind.u64.wrap (a3)) 20)))) false _ A109.out).mono ?_); rintro e w184 ⟨rfl, hb⟩; refine ⟨_, rfl, ?_⟩; have n0_ := Aside0.mk (blk_below (g := gb262) (o := .cells #[.int .i64 a1_0, .int .i64 a1_1] 23 (0, 0)) (by (with_reducible repeat (first | refine blk_drewN ?_ _ | refine blk_drew ?_ | refine blk_alloc ?_ _)); refine blk_far ?_ NB262_271.out _; (with_reducible repeat (first | refine blk_drewN ?_ _ | refine blk_drew ?_ | refine blk_alloc ?_ _)); refine blk_far ?_ NB262_271.out _; (with_reducible repeat (first | refine blk_drewN ?_ _ | refine blk_drew ?_ | refine blk_alloc ?_ _)); refine blk_far ?_ NB262_271.out _; (with_reducible repeat (first | refine blk_drewN ?_ _ | refine blk_drew ?_ | refine blk_alloc ?_ _)); exact BK262.out) hb); have n1_ := Aside0.mk (blk_below (g := gb271) (o := .cells #[.int .i64 a1_0, .int .i64 (wrap64 (a1_1 + (wrap64 (Int.tmod (IntKind.u64.wrap (a3)) 20))))] 23 (0, 0)) (by (with_reducible repeat (first | refine blk_drewN ?_ _ | refine blk_drew ?_ | refine blk_alloc ?_ _)); refine blk_put (cs := #[.int .i64 a1_0, .int .i64 a1_1]) ?_ 1 _ rfl; (with_reducible repeat (first | refine blk_drewN ?_ _ | refine blk_drew ?_ | refine blk_alloc ?_ _)); refine blk_put (cs := #[.int .i64 a1_0, .int .i64 0]) ?_ 1 _ rfl; (with_reducible repeat (first | refine blk_drewN ?_ _ | refine blk_drew ?_ | refine blk_alloc ?_ _)); refine blk_put (cs := #[.int .i64 0, .int .i64 0]) ?_ 0 _ rfl; (with_reducible repeat (first | refine blk_drewN ?_ _ | refine blk_drew ?_ | refine blk_alloc ?_ _)); exact BK271.out) hb); have n2_ := Aside0.mk (below_step (hb_ HB.out) hb); clear BK262; clear BK271; clear HB; have BK262 := n0_; have BK271 := n1_; have HB := n2_; clear n0_ n1_ n2_; (try clear hb); (try clear hb2); (try clear hk); (try clear hi)) | ((with_reducible refine gate_callee (f := 14) rfl ?_); refine goesL_ (some 65) rfl rfl Try.func14 (by kernel_rfl) rfl #[] rfl al_ ?_; (with_reducible refine (comfitlaw06_awake.calls kj5  t300 _ A179.out).mono ?_); rintro e w185 ⟨rfl, hb⟩; refine ⟨_, rfl, ?_⟩; have n0_ := Aside0.mk (bkb_ BK262.out hb); have n1_ := Aside0.mk (bkb_ BK271.out hb); have n2_ := Aside0.mk (below_step (hb_ HB.out) hb); clear BK262; clear BK271; clear HB; have BK262 := n0_; have BK271 := n1_; have HB := n2_; clear n0_ n1_ n2_; (try clear hb); (try clear hb2); (try clear hk); (try clear hi)))
        go_ret
        exact ⟨by first | rfl | (simp [errW_none, errW_some] <;> rfl) | (simp [*, errW_none, errW_some] <;> rfl), hb_ HB.out⟩
     ·rw [if_neg c108] at H
      exact absurd H (by simp)

end Go.Proofs.Ytjmbjnobbeflfaa.X
