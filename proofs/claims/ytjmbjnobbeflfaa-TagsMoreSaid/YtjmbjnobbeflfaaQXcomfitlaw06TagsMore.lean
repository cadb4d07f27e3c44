/- Written by a program of this session (wip/tools/xprint.py, which calls the kit's print): Go functions as Lean functions, and for each the proof that the machine's call does what it says; no conditions but those that each theorem names. -/
import Derived.Test.YtjmbjnobbeflfaaQX0
import Derived.Test.YtjmbjnobbeflfaaQXE
import Derived.Test.YtjmbjnobbeflfaaQXEq
import Derived.Test.YtjmbjnobbeflfaaQXG
import Derived.Test.YtjmbjnobbeflfaaQXM
import Derived.Test.YtjmbjnobbeflfaaQXO
import Derived.Test.YtjmbjnobbeflfaaQXRJ
import Derived.Test.YtjmbjnobbeflfaaQXcomfitlaw06TagsMoreD
namespace Go.Proofs.Ytjmbjnobbeflfaa.X
open Go.RowKit Go.Proofs.YtjmbjnobbeflfaaW.PrintWords Go.Proofs.YtjmbjnobbeflfaaW.PrintLast Go.Proofs.YtjmbjnobbeflfaaW.PrintMore
attribute [local go_sem] max2_int min2_int max_two min_two max_three min_three max_four min_four   -- for this text's walks alone
set_option linter.unusedVariables false
set_option linter.unusedSimpArgs false

attribute [local go_sem high] eqA23
/-! ### comfitlaw06_TagsMore: function 4 -/
theorem cell_same2 (w : World) (a : Addr) (u v : Value) (h : (w.cell? a).isSome = true) : ((w.setCell a u).setCell a v).cell? a = some v := by
 refine World.cell?_setCell_same' _ _ _ ?_
 rw [World.cell?_setCell_same' _ _ _ h]
 rfl
attribute [local go_sem] cell_same2
theorem sr_ {P : Prop} (h : P := by first | rfl | (simp; done) | (simp [*]; done)) : P := h
set_option maxHeartbeats 8000000 in
set_option maxRecDepth 100000 in
theorem comfitlaw06_TagsMore.calls (k : Nat) (A0 : Option Addr) (c0 : Nat) (l0 : List (S39)) (a1_0 : Int) (a1_1 : Int) (a2 : Int) (a3 : Int) (a4 : Int) (r : Bool) (w : World) (hr0 : Kd.C k39 w A0 l0.length l0) (hc0 : l0.length ≤ c0) (h : comfitlaw06_TagsMore.f k l0 a1_0 a1_1 a2 a3 a4 = some r) :
  Calls Try.prog 4 #[.slice A0 l0.length c0, .agg #[.int .i64 a1_0, .int .i64 a1_1], .int .i64 a2, .int .i64 a3, .int .i64 a4] w fun e w' => e = .returned (.bool r) ∧ Below w.heap.size w w' := by
 have hu23 := Try.underlying23
 have HR0 := Aside0.mk hr0
 have HC0 := Aside0.mk hc0
 clear hr0 hc0
 have HB := Aside0.mk (Below.refl w.heap.size w)
 have H : ((comfitref06_Machine.f k l0).bind fun t263 => (if t263 = true then ((comfitref06_Jars.f a1_0 a1_1).bind fun t264 => (j0 k l0 a2 a3 a4 (!t264) a1_0 a1_1)) else (j0 k l0 a2 a3 a4 true a1_0 a1_1))) = some r := h
 clear h
 have HC6 := Aside0.mk H
 clear H
 go_enter Try.func4, Try.ntmps4
 go_upto_region 1 with (first | ((with_reducible refine gate_dst (N := 6) rfl ?_); (try (refine gate_guard (by rfl) ?_; dsimp only)); refine box_event ?hg (N := 6) ?hd (cs := #[.int .i64 a1_0, .int .i64 a1_1]) (t := 23) ?hr ?_; (case hd => rfl); (case hg => rfl); (case hr => first | (go_simp; done) | (go_simp; rfl)); intro gb262 hg w7 hbox hb; have n0_ := Aside0.mk (below_step (hb_ HB.out) hb); have n1_ := Aside0.mk (hbox); have n2_ := Aside0.mk ((by rw [hg]; exact (below_size (hb_ HB.out)) : w.heap.size ≤ gb262)); have n3_ := Aside0.mk ((by rw [hg]; exact (below_size (hb_ HB.out)) : w.heap.size ≤ gb262)); clear HB; have HB := n0_; have BK262 := n1_; have GW262 := n2_; have GE262 := n3_; clear n0_ n1_ n2_ n3_; clear hb hbox hg))
 (try simp only [Act.put, List.setIfInBounds_toArray, List.set_cons_zero, List.set_cons_succ])
 go_cut [30] (fun v30 wc => ∃ (kq : Nat) (x30_5 : Bool), v30 = .bool x30_5 ∧ Aside0 (j0 kq l0 a2 a3 a4 x30_5 a1_0 a1_1 = some r) ∧ Aside0 (kq ≤ k) ∧ Aside0 (wc.heap[gb262]? = some (.cells #[.int .i64 a1_0, .int .i64 a1_1] 23 (0, 0))) ∧ Aside0 (Below w.heap.size w wc))
 case first =>
  have H := HC6.out
  clear HC6
  replace H := Option.bind_eq_some_iff.mp H
  obtain ⟨t263, A80, H⟩ := H
  replace H : (if t263 = true then ((comfitref06_Jars.f a1_0 a1_1).bind fun t264 => (j0 k l0 a2 a3 a4 (!t264) a1_0 a1_1)) else (j0 k l0 a2 a3 a4 true a1_0 a1_1)) = some r := H
  have A8 := Aside0.mk A80
  clear A80
  by_cases c9 : t263 = true
  ·subst c9
   have H1 : ((comfitref06_Jars.f a1_0 a1_1).bind fun t264 => (j0 k l0 a2 a3 a4 (!t264) a1_0 a1_1)) = some r := by rw [if_pos rfl] at H; exact H
   clear H
   have H := H1
   clear H1
   replace H := Option.bind_eq_some_iff.mp H
   obtain ⟨t264, A100, H⟩ := H
   replace H : (j0 k l0 a2 a3 a4 (!t264) a1_0 a1_1) = some r := H
   have A10 := Aside0.mk A100
   clear A100
   as_aux_lemma =>
    have H' := Aside0.mk H
    clear H
    go_wp2_with (first | ((with_reducible refine gate_callee (f := 12) rfl ?_); refine goesL_ (some 24) rfl rfl Try.func12 (by kernel_rfl) rfl #[.slice A0 l0.length c0] rfl al_ ?_; (with_reducible refine (comfitref06_Machine.calls k _ _ l0 true _ ?side1 ?side2 A8.out).mono ?_); (case side1 => exact kc_ (Kd.C_below HR0.out HB.out)); (case side2 => exact HC0.out); rintro e w11 ⟨rfl, hb⟩; refine ⟨_, rfl, ?_⟩; have n0_ := Aside0.mk (bkb_ BK262.out hb); have n1_ := Aside0.mk (below_step (hb_ HB.out) hb); clear BK262; clear HB; have BK262 := n0_; have HB := n1_; clear n0_ n1_; (try clear hb); (try clear hb2); (try clear hk); (try clear hi); have hcz12_0 : w11.cell? ⟨gb262, 0, none⟩ = some (.int .i64 a1_0) := (blk_cell BK262.out 0).trans rfl; have hcz12_1 : w11.cell? ⟨gb262, 1, none⟩ = some (.int .i64 a1_1) := (blk_cell BK262.out 1).trans rfl; have hfz12_0 := blk_frozen BK262.out 0; have hfz12_1 := blk_frozen BK262.out 1) | (go_at_call 13; (with_reducible refine (comfitref06_Jars.calls a1_0 a1_1 t264 _ A10.out).mono ?_); rintro e w13 ⟨rfl, hb⟩; have n0_ := Aside0.mk (bkb_ BK262.out hb); have n1_ := Aside0.mk (below_step (hb_ HB.out) hb); clear BK262; clear HB; have BK262 := n0_; have HB := n1_; clear n0_ n1_; (try clear hb); (try clear hb2); (try clear hk); (try clear hi)))
    go_meet
    case rel => exact ⟨_, (!t264), sr_, H', ⟨by first | omega | exact Nat.le_refl _⟩, ⟨bk_ BK262.out⟩, ⟨hb_ HB.out⟩⟩
  ·replace c9 := Bool.eq_false_iff.mpr c9
   subst c9
   have H1 : (j0 k l0 a2 a3 a4 true a1_0 a1_1) = some r := by rw [if_neg (show ¬ (false = true) by decide)] at H; exact H
   clear H
   have H := H1
   clear H1
   as_aux_lemma =>
    have H' := Aside0.mk H
    clear H
    go_wp2_with (first | ((with_reducible refine gate_callee (f := 12) rfl ?_); refine goesL_ (some 24) rfl rfl Try.func12 (by kernel_rfl) rfl #[.slice A0 l0.length c0] rfl al_ ?_; (with_reducible refine (comfitref06_Machine.calls k _ _ l0 false _ ?side1 ?side2 A8.out).mono ?_); (case side1 => exact kc_ (Kd.C_below HR0.out HB.out)); (case side2 => exact HC0.out); rintro e w14 ⟨rfl, hb⟩; refine ⟨_, rfl, ?_⟩; have n0_ := Aside0.mk (bkb_ BK262.out hb); have n1_ := Aside0.mk (below_step (hb_ HB.out) hb); clear BK262; clear HB; have BK262 := n0_; have HB := n1_; clear n0_ n1_; (try clear hb); (try clear hb2); (try clear hk); (try clear hi)))
    go_meet
    case rel => exact ⟨_, (true), sr_, H', ⟨by first | omega | exact Nat.le_refl _⟩, ⟨bk_ BK262.out⟩, ⟨hb_ HB.out⟩⟩
 case rest =>
  clear HC6
  try clear c1
  try clear p2
  try clear c4
  try clear c9
  try clear c12
  try clear hcz12_0
  try clear hcz12_1
  try clear hfz12_0
  try clear hfz12_1
  obtain ⟨kq, x30_5, rfl, HA, HJ5, BK262, HB⟩ := hcut
  cases kq with
  | zero => exact absurd HA.out (by simp [j0])
  | succ kj5 =>
   have H := HA.out
   clear HA
   simp only [j0] at H
   by_cases c15 : x30_5 = true
   ·subst c15
    have H1 : ((comfitlaw06_Of.f kj5 l0).bind fun t265 => ((tags_Ends.f kj5 t265 a1_0 a1_1).bind fun bt268 => (if bt268.2 = 2 then ((comfitlaw06_awake.f kj5).bind fun t270 => (some t270)) else (none)))) = some r := by rw [if_pos rfl] at H; exact H
    clear H
    have H := H1
    clear H1
    replace H := Option.bind_eq_some_iff.mp H
    obtain ⟨t265, A160, H⟩ := H
    replace H : ((tags_Ends.f kj5 t265 a1_0 a1_1).bind fun bt268 => (if bt268.2 = 2 then ((comfitlaw06_awake.f kj5).bind fun t270 => (some t270)) else (none))) = some r := H
    have A16 := Aside0.mk A160
    clear A160
    replace H := Option.bind_eq_some_iff.mp H
    obtain ⟨⟨t268, t269⟩, A170, H⟩ := H
    replace H : (if t269 = 2 then ((comfitlaw06_awake.f kj5).bind fun t270 => (some t270)) else (none)) = some r := H
    have A17 := Aside0.mk A170
    clear A170
    by_cases c18 : t269 = 2
    ·rw [if_pos c18] at H
     have c18b0 : (t269 == 2) = true := beq_iff_eq.mpr c18
     have c18b1 : (t269 != 2) = false := bne_eq_false_iff_eq.mpr c18
     clear c18
     replace H := Option.bind_eq_some_iff.mp H
     obtain ⟨t270, A190, H⟩ := H
     replace H : (some t270) = some r := H
     have A19 := Aside0.mk A190
     clear A190
     as_aux_lemma =>
      obtain rfl := Option.some.inj H
      try go_wp2
      have n0_ := Aside0.mk (blk_drew BK262.out)
      have n1_ := Aside0.mk (below_drew1 HB.out)
      clear BK262
      clear HB
      have BK262 := n0_
      have HB := n1_
      clear n0_ n1_
      refine start_ (n := 9) (S := fun w' => w'.cell? ⟨gb262, 0, none⟩ = some (.int .i64 a1_0) ∧ w'.cell? ⟨gb262, 1, none⟩ = some (.int .i64 a1_1)) (ds := []) #[false, false, false, false, false, false, false, false, false] (by kernel_rfl) rfl rfl ⟨(blk_cell BK262.out 0).trans rfl, (blk_cell BK262.out 1).trans rfl⟩ (fun hHeld => ?_); refine with_tabW comfitlaw06_TagsMore.tab2 comfitlaw06_TagsMore.bits2 (fun HT_ HW_ => ?_)
      generalize wc.drew = w20 at BK262 HB hHeld ⊢
      refine pure_ (i := 0) (N := some 32) (v := ?_) (a' := ?_) #[true, false, false, false, false, false, false, false, false] rfl rfl (any_of HT_.out (by kernel_rfl)) (fun _ _ _ h => h) (Or.inl ⟨by rfl, ?_⟩) ?_ ?_
      rotate_left
      ·intro w'
       go_simp
       with_reducible rfl
      rotate_left
      ·simp only [Act.put, List.setIfInBounds_toArray, List.set_cons_zero, List.set_cons_succ, i64_w, i32_w]
       rfl
      refine take_ (i := 2) (N := some 34) (v := ?_) (a' := ?_) #[true, false, true, false, false, false, false, false, false] rfl rfl (take_ofW HT_.out HW_.out (by kernel_rfl)) (fun _ _ _ h => h) (Or.inl ⟨by rfl, ?_⟩) hHeld ?_ ?_
      rotate_left
      ·rintro w' ⟨s0, s1⟩
       go_simp
       with_reducible rfl
      rotate_left
      ·simp only [Act.put, List.setIfInBounds_toArray, List.set_cons_zero, List.set_cons_succ, i64_w, i32_w]
       rfl
      refine one_ (i := 1) (N := some 33) #[true, true, true, false, false, false, false, false, false] rfl rfl (one_of HT_.out (by kernel_rfl)) (by decide) (fun K hK => ?_)
      refine goes_ Try.func11 (by kernel_rfl) rfl #[.slice A0 l0.length c0] (by rfl) rfl rfl al_ ?_
      with_reducible refine (comfitlaw06_Of.calls kj5 _ _ l0 t265 _ ?side1 ?side2 A16.out).mono ?_
      (case side1 => exact kc_ (Kd.C_below HR0.out HB.out))
      (case side2 => exact HC0.out)
      rintro e w21 ⟨v266, rfl, ho0, hb⟩
      refine ⟨_, rfl, ?_⟩
      have n0_ := Aside0.mk (Kd.R_lower ho0 (below_size (hb_ HB.out)))
      have n1_ := Aside0.mk (bkb_ BK262.out hb)
      have n2_ := Aside0.mk (below_step (hb_ HB.out) hb)
      clear BK262
      clear HB
      have HO267 := n0_
      have BK262 := n1_
      have HB := n2_
      clear n0_ n1_ n2_
      (try clear hb)
      (try clear hb2)
      (try clear hk)
      (try clear hi)
      (try clear ho0)
      obtain ⟨Ao22, co22, eo22⟩ := Kd.R_slice HO267.out
      (first | subst eo22 | (injection eo22 with f1_ f2_ f3_; have f4_ := f1_.symm; have f5_ := f3_.symm; clear f1_ f2_ f3_; subst f4_; subst f5_))
      refine hK.out _ _ ⟨(blk_cell BK262.out 0).trans rfl, (blk_cell BK262.out 1).trans rfl⟩ (fun hHeld => ?_)
      clear hK K
      refine norm_ (a' := ?_) ?_ ?_
      rotate_left
      ·show Act.put _ (some 33) _ = _
       simp only [Act.put, List.setIfInBounds_toArray, List.set_cons_zero, List.set_cons_succ, i64_w, i32_w]
       rfl
      refine one_ (i := 3) (N := some 35) #[true, true, true, true, false, false, false, false, false] rfl rfl (one_of HT_.out (by kernel_rfl)) (by decide) (fun K hK => ?_)
      refine goes_ Try.func16 (by kernel_rfl) rfl #[.slice Ao22 t265.length co22, .agg #[.int .i64 a1_0, .int .i64 a1_1]] (by rfl) rfl rfl al_ ?_
      with_reducible refine (tags_Ends.calls kj5 _ _ t265 a1_0 a1_1 t268 t269 _ ?side1 ?side2 A17.out).mono ?_
      (case side1 => exact kc_ (Kd.R_reads' HO267.out).2.2)
      (case side2 => exact (Kd.R_reads' HO267.out).2.1)
      rintro e w23 ⟨rfl, hb⟩
      refine ⟨_, rfl, ?_⟩
      have n0_ := Aside0.mk (Kd.R_below (kr_ (HO267.out)) hb)
      have n1_ := Aside0.mk (bkb_ BK262.out hb)
      have n2_ := Aside0.mk (below_step (hb_ HB.out) hb)
      clear HO267
      clear BK262
      clear HB
      have HO267 := n0_
      have BK262 := n1_
      have HB := n2_
      clear n0_ n1_ n2_
      (try clear hb)
      (try clear hb2)
      (try clear hk)
      (try clear hi)
      refine hK.out _ _ ⟨(blk_cell BK262.out 0).trans rfl, (blk_cell BK262.out 1).trans rfl⟩ (fun hHeld => ?_)
      clear hK K
      refine norm_ (a' := ?_) ?_ ?_
      rotate_left
      ·show Act.put _ (some 35) _ = _
       simp only [Act.put, List.setIfInBounds_toArray, List.set_cons_zero, List.set_cons_succ, i64_w, i32_w]
       rfl
      refine pure_ (i := 4) (N := some 31) (v := ?_) (a' := ?_) #[true, true, true, true, true, false, false, false, false] rfl rfl (any_of HT_.out (by kernel_rfl)) (fun _ _ _ h => h) (Or.inl ⟨by rfl, ?_⟩) ?_ ?_
      rotate_left
      ·intro w'
       go_simp
       with_reducible rfl
      rotate_left
      ·simp only [Act.put, List.setIfInBounds_toArray, List.set_cons_zero, List.set_cons_succ, i64_w, i32_w]
       rfl
      refine pure_ (i := 5) (N := some 36) (v := ?_) (a' := ?_) #[true, true, true, true, true, true, false, false, false] rfl rfl (any_of HT_.out (by kernel_rfl)) (fun _ _ _ h => h) (Or.inl ⟨by rfl, ?_⟩) ?_ ?_
      rotate_left
      ·intro w'
       go_simp
       with_reducible rfl
      rotate_left
      ·simp only [Act.put, List.setIfInBounds_toArray, List.set_cons_zero, List.set_cons_succ, i64_w, i32_w]
       rfl
      refine pure_ (i := 6) (N := some 37) (v := ?_) (a' := ?_) #[true, true, true, true, true, true, true, false, false] rfl rfl (any_of HT_.out (by kernel_rfl)) (fun _ _ _ h => h) (Or.inl ⟨by rfl, ?_⟩) ?_ ?_
      rotate_left
      ·intro w'
       go_simp
       with_reducible rfl
      rotate_left
      ·simp only [Act.put, List.setIfInBounds_toArray, List.set_cons_zero, List.set_cons_succ, i64_w, i32_w]
       rfl
      refine pure_ (i := 7) (N := some 11) (v := ?_) (a' := ?_) #[true, true, true, true, true, true, true, true, false] rfl rfl (any_of HT_.out (by kernel_rfl)) (fun _ _ _ h => h) (Or.inl ⟨by rfl, ?_⟩) ?_ ?_
      rotate_left
      ·intro w'
       go_simp
       with_reducible rfl
      rotate_left
      ·simp only [Act.put, List.setIfInBounds_toArray, List.set_cons_zero, List.set_cons_succ, i64_w, i32_w]
       rfl
      refine pure_ (i := 8) (N := some 12) (v := ?_) (a' := ?_) #[true, true, true, true, true, true, true, true, true] rfl rfl (any_of HT_.out (by kernel_rfl)) (fun _ _ _ h => h) (Or.inl ⟨by rfl, ?_⟩) ?_ ?_
      rotate_left
      ·intro w'
       go_simp
       with_reducible rfl
      rotate_left
      ·simp only [Act.put, List.setIfInBounds_toArray, List.set_cons_zero, List.set_cons_succ, i64_w, i32_w]
       rfl
      refine done_ (done_of HT_.out (by kernel_rfl)) ?_
      try go_wp2_with (first | (go_at_call 14; (with_reducible refine (comfitlaw06_awake.calls kj5  t270 _ A19.out).mono ?_); rintro e w24 ⟨rfl, hb⟩; have n0_ := Aside0.mk (Kd.R_below (kr_ (HO267.out)) hb); have n1_ := Aside0.mk (bkb_ BK262.out hb); have n2_ := Aside0.mk (below_step (hb_ HB.out) hb); clear HO267; clear BK262; clear HB; have HO267 := n0_; have BK262 := n1_; have HB := n2_; clear n0_ n1_ n2_; (try clear hb); (try clear hb2); (try clear hk); (try clear hi)))
      go_ret
      exact ⟨by first | rfl | (simp [errW_none, errW_some] <;> rfl) | (simp [*, errW_none, errW_some] <;> rfl), hb_ HB.out⟩
    rw [if_neg c18] at H
    exact absurd H (by simp)
   ·replace c15 := Bool.eq_false_iff.mpr c15
    subst c15
    have H1 : (if (wrap64 (Int.tmod (IntKind.u64.wrap (a2)) 2)) = 0 then ((comfitref06_Jars.f (wrap64 (a1_0 + (wrap64 (Int.tmod (IntKind.u64.wrap (a3)) 20)))) a1_1).bind fun t272 => (if t272 = true then (comfitlaw06_TagsMore.l0 kj5 l0 0 (wrap64 (Int.tmod (IntKind.u64.wrap (a3)) 20)) (wrap64 ((wrap64 (Int.tmod (IntKind.u64.wrap (a4)) 60)) + 1)) 0 a1_0 a1_1 (wrap64 (a1_0 + (wrap64 (Int.tmod (IntKind.u64.wrap (a3)) 20)))) a1_1) else ((comfitlaw06_awake.f kj5).bind fun t273 => (some t273)))) else (if (wrap64 (Int.tmod (IntKind.u64.wrap (a2)) 2)) = 1 then ((comfitref06_Jars.f a1_0 (wrap64 (a1_1 + (wrap64 (Int.tmod (IntKind.u64.wrap (a3)) 20))))).bind fun t299 => (if t299 = true then (comfitlaw06_TagsMore.l0 kj5 l0 1 (wrap64 (Int.tmod (IntKind.u64.wrap (a3)) 20)) (wrap64 ((wrap64 (Int.tmod (IntKind.u64.wrap (a4)) 60)) + 1)) 0 a1_0 a1_1 a1_0 (wrap64 (a1_1 + (wrap64 (Int.tmod (IntKind.u64.wrap (a3)) 20))))) else ((comfitlaw06_awake.f kj5).bind fun t300 => (some t300)))) else (none))) = some r := by rw [if_neg (show ¬ (false = true) by decide)] at H; exact H
    clear H
    have H := H1
    clear H1
    obtain ⟨iq25, hiq25⟩ : ∃ b_ : Int, (wrap64 (Int.tmod (IntKind.u64.wrap (a2)) 2)) = b_ := ⟨_, rfl⟩
    replace H : (if (iq25) = 0 then ((comfitref06_Jars.f (wrap64 (a1_0 + (wrap64 (Int.tmod (IntKind.u64.wrap (a3)) 20)))) a1_1).bind fun t272 => (if t272 = true then (comfitlaw06_TagsMore.l0 kj5 l0 0 (wrap64 (Int.tmod (IntKind.u64.wrap (a3)) 20)) (wrap64 ((wrap64 (Int.tmod (IntKind.u64.wrap (a4)) 60)) + 1)) 0 a1_0 a1_1 (wrap64 (a1_0 + (wrap64 (Int.tmod (IntKind.u64.wrap (a3)) 20)))) a1_1) else ((comfitlaw06_awake.f kj5).bind fun t273 => (some t273)))) else (if (iq25) = 1 then ((comfitref06_Jars.f a1_0 (wrap64 (a1_1 + (wrap64 (Int.tmod (IntKind.u64.wrap (a3)) 20))))).bind fun t299 => (if t299 = true then (comfitlaw06_TagsMore.l0 kj5 l0 1 (wrap64 (Int.tmod (IntKind.u64.wrap (a3)) 20)) (wrap64 ((wrap64 (Int.tmod (IntKind.u64.wrap (a4)) 60)) + 1)) 0 a1_0 a1_1 a1_0 (wrap64 (a1_1 + (wrap64 (Int.tmod (IntKind.u64.wrap (a3)) 20))))) else ((comfitlaw06_awake.f kj5).bind fun t300 => (some t300)))) else (none))) = some r := by first | (rw [hiq25] at H; exact H) | (simp only [hiq25] at H ⊢; exact H)
    (try rw [hiq25])
    have hiq25w : (IntKind.i64.wrap (Int.tmod (IntKind.u64.wrap (a2)) 2)) = iq25 := (i64_w _).trans hiq25
    have Niq25 := Aside0.mk hiq25.symm
    by_cases c26 : (iq25) = 0
    ·rw [if_pos c26] at H
     subst c26
     replace H := Option.bind_eq_some_iff.mp H
     obtain ⟨t272, A270, H⟩ := H
     replace H : (if t272 = true then (comfitlaw06_TagsMore.l0 kj5 l0 0 (wrap64 (Int.tmod (IntKind.u64.wrap (a3)) 20)) (wrap64 ((wrap64 (Int.tmod (IntKind.u64.wrap (a4)) 60)) + 1)) 0 a1_0 a1_1 (wrap64 (a1_0 + (wrap64 (Int.tmod (IntKind.u64.wrap (a3)) 20)))) a1_1) else ((comfitlaw06_awake.f kj5).bind fun t273 => (some t273))) = some r := H
     have A27 := Aside0.mk A270
     clear A270
     by_cases c28 : t272 = true
     ·subst c28
      have H1 : (comfitlaw06_TagsMore.l0 kj5 l0 0 (wrap64 (Int.tmod (IntKind.u64.wrap (a3)) 20)) (wrap64 ((wrap64 (Int.tmod (IntKind.u64.wrap (a4)) 60)) + 1)) 0 a1_0 a1_1 (wrap64 (a1_0 + (wrap64 (Int.tmod (IntKind.u64.wrap (a3)) 20)))) a1_1) = some r := by rw [if_pos rfl] at H; exact H
      clear H
      have H := H1
      clear H1
      have H' := Aside0.mk H
      clear H
      have hcz29_0 : wc.cell? ⟨gb262, 0, none⟩ = some (.int .i64 a1_0) := (blk_cell BK262.out 0).trans rfl
      have hcz29_1 : wc.cell? ⟨gb262, 1, none⟩ = some (.int .i64 a1_1) := (blk_cell BK262.out 1).trans rfl
      have hfz29_0 := blk_frozen BK262.out 0
      have hfz29_1 := blk_frozen BK262.out 1
      go_wp2_with (first | ((with_reducible refine gate_dst (N := 13) rfl ?_); (try (refine gate_guard (by rfl) ?_; dsimp only)); refine box_event ?hg (N := 13) ?hd (cs := #[.int .i64 0, .int .i64 0]) (t := 23) ?hr ?_; (case hd => rfl); (case hg => rfl); (case hr => first | (go_simp; done) | (go_simp; rfl)); intro gb271 hg w30 hbox hb; have n0_ := Aside0.mk (bkb_ BK262.out hb); have n1_ := Aside0.mk (below_step (hb_ HB.out) hb); have n2_ := Aside0.mk (hbox); have n3_ := Aside0.mk ((by rw [hg]; exact (below_size (hb_ HB.out)) : w.heap.size ≤ gb271)); have n4_ := Aside0.mk ((by rw [hg]; exact (below_size (hb_ HB.out)) : w.heap.size ≤ gb271)); have n5_ := Aside0.mk ((by rw [hg]; exact Nat.ne_of_lt (bkl_ BK262.out) : gb262 ≠ gb271)); have n6_ := Aside0.mk ((by rw [hg]; exact Nat.ne_of_gt (bkl_ BK262.out) : gb271 ≠ gb262)); clear BK262; clear HB; have BK262 := n0_; have HB := n1_; have BK271 := n2_; have GW271 := n3_; have GE271 := n4_; have NB262_271 := n5_; have NB271_262 := n6_; clear n0_ n1_ n2_ n3_ n4_ n5_ n6_; clear hb hbox hg; have hnb31 := NB271_262.out; have hnc31 := NB262_271.out; have hcz32_0 : w30.cell? ⟨gb271, 0, none⟩ = some (.int .i64 0) := (blk_cell BK271.out 0).trans rfl; have hcz32_1 : w30.cell? ⟨gb271, 1, none⟩ = some (.int .i64 0) := (blk_cell BK271.out 1).trans rfl; have hfz32_0 := blk_frozen BK271.out 0; have hfz32_1 := blk_frozen BK271.out 1) | ((with_reducible refine gate_callee (f := 13) rfl ?_); refine goesL_ (some 63) rfl rfl Try.func13 (by kernel_rfl) rfl #[.agg #[.int .i64 (wrap64 (a1_0 + (wrap64 (Int.tmod (IntKind.u64.wrap (a3)) 20)))), .int .i64 a1_1]] rfl al_ ?_; (with_reducible refine (comfitref06_Jars.calls (wrap64 (a1_0 + (wrap64 (Int.tmod (IntKind.u64.wrap (a3)) 20)))) a1_1 true _ A27.out).mono ?_); rintro e w33 ⟨rfl, hb⟩; refine ⟨_, rfl, ?_⟩; have n0_ := Aside0.mk (blk_below (g := gb262) (o := .cells #[.int .i64 a1_0, .int .i64 a1_1] 23 (0, 0)) (by (with_reducible repeat (first | refine blk_drewN ?_ _ | refine blk_drew ?_ | refine blk_alloc ?_ _)); refine blk_far ?_ NB262_271.out _; (with_reducible repeat (first | refine blk_drewN ?_ _ | refine blk_drew ?_ | refine blk_alloc ?_ _)); refine blk_far ?_ NB262_271.out _; (with_reducible repeat (first | refine blk_drewN ?_ _ | refine blk_drew ?_ | refine blk_alloc ?_ _)); refine blk_far ?_ NB262_271.out _; (with_reducible repeat (first | refine blk_drewN ?_ _ | refine blk_drew ?_ | refine blk_alloc ?_ _)); exact BK262.out) hb); have n1_ := Aside0.mk (blk_below (g := gb271) (o := .cells #[.int .i64 (wrap64 (a1_0 + (wrap64 (Int.tmod (IntKind.u64.wrap (a3)) 20)))), .int .i64 a1_1] 23 (0, 0)) (by (with_reducible repeat (first | refine blk_drewN ?_ _ | refine blk_drew ?_ | refine blk_alloc ?_ _)); refine blk_put (cs := #[.int .i64 a1_0, .int .i64 a1_1]) ?_ 0 _ rfl; (with_reducible repeat (first | refine blk_drewN ?_ _ | refine blk_drew ?_ | refine blk_alloc ?_ _)); refine blk_put (cs := #[.int .i64 a1_0, .int .i64 0]) ?_ 1 _ rfl; (with_reducible repeat (first | refine blk_drewN ?_ _ | refine blk_drew ?_ | refine blk_alloc ?_ _)); refine blk_put (cs := #[.int .i64 0, .int .i64 0]) ?_ 0 _ rfl; (with_reducible repeat (first | refine blk_drewN ?_ _ | refine blk_drew ?_ | refine blk_alloc ?_ _)); exact BK271.out) hb); have n2_ := Aside0.mk (below_step (hb_ HB.out) hb); clear BK262; clear BK271; clear HB; have BK262 := n0_; have BK271 := n1_; have HB := n2_; clear n0_ n1_ n2_; (try clear hb); (try clear hb2); (try clear hk); (try clear hi)))
      go_loopg [68] kj5 (fun kq v68 w' => ∃ (x68_2 : Int), v68 = .int .i64 x68_2 ∧ Aside0 (comfitlaw06_TagsMore.l0 kq l0 0 (wrap64 (Int.tmod (IntKind.u64.wrap (a3)) 20)) (wrap64 ((wrap64 (Int.tmod (IntKind.u64.wrap (a4)) 60)) + 1)) x68_2 a1_0 a1_1 (wrap64 (a1_0 + (wrap64 (Int.tmod (IntKind.u64.wrap (a3)) 20)))) a1_1 = some r) ∧ Aside0 (kq ≤ kj5) ∧ Aside0 (w'.heap[gb262]? = some (.cells #[.int .i64 a1_0, .int .i64 a1_1] 23 (0, 0))) ∧ Aside0 (w'.heap[gb271]? = some (.cells #[.int .i64 (wrap64 (a1_0 + (wrap64 (Int.tmod (IntKind.u64.wrap (a3)) 20)))), .int .i64 a1_1] 23 (0, 0))) ∧ Aside0 (Below w.heap.size w w'))
      case atStart => exact ⟨(0), sr_, H', ⟨Nat.le_refl _⟩, ⟨bk_ BK262.out⟩, ⟨bk_ BK271.out⟩, ⟨hb_ HB.out⟩⟩
      case round =>
       clear H'
       try clear c1
       try clear c2
       try clear p2
       try clear q2
       try clear c3
       try clear c4
       try clear p6
       try clear c9
       try clear c11
       try clear c12
       try clear c13
       try clear c15
       try clear c16
       try clear c18
       try clear c18b0
       try clear c18b1
       try clear q25
       try clear c26
       try clear c28
       try clear c31
       try clear hcz12_0
       try clear hcz12_1
       try clear hcz29_0
       try clear hcz29_1
       try clear hcz32_0
       try clear hcz32_1
       try clear hfz12_0
       try clear hfz12_1
       try clear hfz29_0
       try clear hfz29_1
       try clear hfz32_0
       try clear hfz32_1
       try clear p2
       obtain ⟨x68_2, rfl, HA, HK2, BK262, BK271, HB⟩ := hrel
       cases gk with
       | zero => exact absurd HA.out (by simp [comfitlaw06_TagsMore.l0])
       | succ k2 =>
        have H := HA.out
        clear HA
        simp only [comfitlaw06_TagsMore.l0] at H
        by_cases c34 : x68_2 < (wrap64 ((wrap64 (Int.tmod (IntKind.u64.wrap (a4)) 60)) + 1))
        ·rw [if_pos c34] at H
         have c34b0 : decide (x68_2 < (wrap64 ((wrap64 (Int.tmod (IntKind.u64.wrap (a4)) 60)) + 1))) = true := decide_eq_true c34
         clear c34
         replace H := Option.bind_eq_some_iff.mp H
         obtain ⟨t275, A350, H⟩ := H
         replace H : ((tags_Go.f k2 t275 a1_0 a1_1 x68_2).bind fun bt278 => ((comfitlaw06_Of.f k2 l0).bind fun t284 => ((tags_Go.f k2 t284 (wrap64 (a1_0 + (wrap64 (Int.tmod (IntKind.u64.wrap (a3)) 20)))) a1_1 x68_2).bind fun bt287 => (if bt278.2.2.2.2 = 0 then (if bt287.2.2.2.2 = 0 then (if bt278.1 < 0 then (j2 k2 l0 0 (wrap64 (Int.tmod (IntKind.u64.wrap (a3)) 20)) bt278.1 bt278.2.2.2.1 bt287.1 bt287.2.2.2.1 (wrap64 ((wrap64 (Int.tmod (IntKind.u64.wrap (a4)) 60)) + 1)) x68_2 true a1_0 a1_1 (wrap64 (a1_0 + (wrap64 (Int.tmod (IntKind.u64.wrap (a3)) 20)))) a1_1 bt278.2.1 bt278.2.2.1 bt287.2.1 bt287.2.2.1) else (j2 k2 l0 0 (wrap64 (Int.tmod (IntKind.u64.wrap (a3)) 20)) bt278.1 bt278.2.2.2.1 bt287.1 bt287.2.2.2.1 (wrap64 ((wrap64 (Int.tmod (IntKind.u64.wrap (a4)) 60)) + 1)) x68_2 (decide (bt278.1 ≥ (l0.length : Int))) a1_0 a1_1 (wrap64 (a1_0 + (wrap64 (Int.tmod (IntKind.u64.wrap (a3)) 20)))) a1_1 bt278.2.1 bt278.2.2.1 bt287.2.1 bt287.2.2.1)) else (j2 k2 l0 0 (wrap64 (Int.tmod (IntKind.u64.wrap (a3)) 20)) bt278.1 bt278.2.2.2.1 bt287.1 bt287.2.2.2.1 (wrap64 ((wrap64 (Int.tmod (IntKind.u64.wrap (a4)) 60)) + 1)) x68_2 true a1_0 a1_1 (wrap64 (a1_0 + (wrap64 (Int.tmod (IntKind.u64.wrap (a3)) 20)))) a1_1 bt278.2.1 bt278.2.2.1 bt287.2.1 bt287.2.2.1)) else (j2 k2 l0 0 (wrap64 (Int.tmod (IntKind.u64.wrap (a3)) 20)) bt278.1 bt278.2.2.2.1 bt287.1 bt287.2.2.2.1 (wrap64 ((wrap64 (Int.tmod (IntKind.u64.wrap (a4)) 60)) + 1)) x68_2 true a1_0 a1_1 (wrap64 (a1_0 + (wrap64 (Int.tmod (IntKind.u64.wrap (a3)) 20)))) a1_1 bt278.2.1 bt278.2.2.1 bt287.2.1 bt287.2.2.1))))) = some r := H
         have A35 := Aside0.mk A350
         clear A350
         replace H := Option.bind_eq_some_iff.mp H
         obtain ⟨⟨t278, t279, t280, t281, t282⟩, A360, H⟩ := H
         replace H : ((comfitlaw06_Of.f k2 l0).bind fun t284 => ((tags_Go.f k2 t284 (wrap64 (a1_0 + (wrap64 (Int.tmod (IntKind.u64.wrap (a3)) 20)))) a1_1 x68_2).bind fun bt287 => (if t282 = 0 then (if bt287.2.2.2.2 = 0 then (if t278 < 0 then (j2 k2 l0 0 (wrap64 (Int.tmod (IntKind.u64.wrap (a3)) 20)) t278 t281 bt287.1 bt287.2.2.2.1 (wrap64 ((wrap64 (Int.tmod (IntKind.u64.wrap (a4)) 60)) + 1)) x68_2 true a1_0 a1_1 (wrap64 (a1_0 + (wrap64 (Int.tmod (IntKind.u64.wrap (a3)) 20)))) a1_1 t279 t280 bt287.2.1 bt287.2.2.1) else (j2 k2 l0 0 (wrap64 (Int.tmod (IntKind.u64.wrap (a3)) 20)) t278 t281 bt287.1 bt287.2.2.2.1 (wrap64 ((wrap64 (Int.tmod (IntKind.u64.wrap (a4)) 60)) + 1)) x68_2 (decide (t278 ≥ (l0.length : Int))) a1_0 a1_1 (wrap64 (a1_0 + (wrap64 (Int.tmod (IntKind.u64.wrap (a3)) 20)))) a1_1 t279 t280 bt287.2.1 bt287.2.2.1)) else (j2 k2 l0 0 (wrap64 (Int.tmod (IntKind.u64.wrap (a3)) 20)) t278 t281 bt287.1 bt287.2.2.2.1 (wrap64 ((wrap64 (Int.tmod (IntKind.u64.wrap (a4)) 60)) + 1)) x68_2 true a1_0 a1_1 (wrap64 (a1_0 + (wrap64 (Int.tmod (IntKind.u64.wrap (a3)) 20)))) a1_1 t279 t280 bt287.2.1 bt287.2.2.1)) else (j2 k2 l0 0 (wrap64 (Int.tmod (IntKind.u64.wrap (a3)) 20)) t278 t281 bt287.1 bt287.2.2.2.1 (wrap64 ((wrap64 (Int.tmod (IntKind.u64.wrap (a4)) 60)) + 1)) x68_2 true a1_0 a1_1 (wrap64 (a1_0 + (wrap64 (Int.tmod (IntKind.u64.wrap (a3)) 20)))) a1_1 t279 t280 bt287.2.1 bt287.2.2.1)))) = some r := H
         have A36 := Aside0.mk A360
         clear A360
         replace H := Option.bind_eq_some_iff.mp H
         obtain ⟨t284, A370, H⟩ := H
         replace H : ((tags_Go.f k2 t284 (wrap64 (a1_0 + (wrap64 (Int.tmod (IntKind.u64.wrap (a3)) 20)))) a1_1 x68_2).bind fun bt287 => (if t282 = 0 then (if bt287.2.2.2.2 = 0 then (if t278 < 0 then (j2 k2 l0 0 (wrap64 (Int.tmod (IntKind.u64.wrap (a3)) 20)) t278 t281 bt287.1 bt287.2.2.2.1 (wrap64 ((wrap64 (Int.tmod (IntKind.u64.wrap (a4)) 60)) + 1)) x68_2 true a1_0 a1_1 (wrap64 (a1_0 + (wrap64 (Int.tmod (IntKind.u64.wrap (a3)) 20)))) a1_1 t279 t280 bt287.2.1 bt287.2.2.1) else (j2 k2 l0 0 (wrap64 (Int.tmod (IntKind.u64.wrap (a3)) 20)) t278 t281 bt287.1 bt287.2.2.2.1 (wrap64 ((wrap64 (Int.tmod (IntKind.u64.wrap (a4)) 60)) + 1)) x68_2 (decide (t278 ≥ (l0.length : Int))) a1_0 a1_1 (wrap64 (a1_0 + (wrap64 (Int.tmod (IntKind.u64.wrap (a3)) 20)))) a1_1 t279 t280 bt287.2.1 bt287.2.2.1)) else (j2 k2 l0 0 (wrap64 (Int.tmod (IntKind.u64.wrap (a3)) 20)) t278 t281 bt287.1 bt287.2.2.2.1 (wrap64 ((wrap64 (Int.tmod (IntKind.u64.wrap (a4)) 60)) + 1)) x68_2 true a1_0 a1_1 (wrap64 (a1_0 + (wrap64 (Int.tmod (IntKind.u64.wrap (a3)) 20)))) a1_1 t279 t280 bt287.2.1 bt287.2.2.1)) else (j2 k2 l0 0 (wrap64 (Int.tmod (IntKind.u64.wrap (a3)) 20)) t278 t281 bt287.1 bt287.2.2.2.1 (wrap64 ((wrap64 (Int.tmod (IntKind.u64.wrap (a4)) 60)) + 1)) x68_2 true a1_0 a1_1 (wrap64 (a1_0 + (wrap64 (Int.tmod (IntKind.u64.wrap (a3)) 20)))) a1_1 t279 t280 bt287.2.1 bt287.2.2.1))) = some r := H
         have A37 := Aside0.mk A370
         clear A370
         replace H := Option.bind_eq_some_iff.mp H
         obtain ⟨⟨t287, t288, t289, t290, t291⟩, A380, H⟩ := H
         replace H : (if t282 = 0 then (if t291 = 0 then (if t278 < 0 then (j2 k2 l0 0 (wrap64 (Int.tmod (IntKind.u64.wrap (a3)) 20)) t278 t281 t287 t290 (wrap64 ((wrap64 (Int.tmod (IntKind.u64.wrap (a4)) 60)) + 1)) x68_2 true a1_0 a1_1 (wrap64 (a1_0 + (wrap64 (Int.tmod (IntKind.u64.wrap (a3)) 20)))) a1_1 t279 t280 t288 t289) else (j2 k2 l0 0 (wrap64 (Int.tmod (IntKind.u64.wrap (a3)) 20)) t278 t281 t287 t290 (wrap64 ((wrap64 (Int.tmod (IntKind.u64.wrap (a4)) 60)) + 1)) x68_2 (decide (t278 ≥ (l0.length : Int))) a1_0 a1_1 (wrap64 (a1_0 + (wrap64 (Int.tmod (IntKind.u64.wrap (a3)) 20)))) a1_1 t279 t280 t288 t289)) else (j2 k2 l0 0 (wrap64 (Int.tmod (IntKind.u64.wrap (a3)) 20)) t278 t281 t287 t290 (wrap64 ((wrap64 (Int.tmod (IntKind.u64.wrap (a4)) 60)) + 1)) x68_2 true a1_0 a1_1 (wrap64 (a1_0 + (wrap64 (Int.tmod (IntKind.u64.wrap (a3)) 20)))) a1_1 t279 t280 t288 t289)) else (j2 k2 l0 0 (wrap64 (Int.tmod (IntKind.u64.wrap (a3)) 20)) t278 t281 t287 t290 (wrap64 ((wrap64 (Int.tmod (IntKind.u64.wrap (a4)) 60)) + 1)) x68_2 true a1_0 a1_1 (wrap64 (a1_0 + (wrap64 (Int.tmod (IntKind.u64.wrap (a3)) 20)))) a1_1 t279 t280 t288 t289)) = some r := H
         have A38 := Aside0.mk A380
         clear A380
         have HC39 := Aside0.mk H
         clear H
         try go_wp2
         have n0_ := Aside0.mk (blk_drew BK262.out)
         have n1_ := Aside0.mk (blk_drew BK271.out)
         have n2_ := Aside0.mk (below_drew1 HB.out)
         clear BK262
         clear BK271
         clear HB
         have BK262 := n0_
         have BK271 := n1_
         have HB := n2_
         clear n0_ n1_ n2_
         refine start_ (n := 15) (S := fun w' => w'.cell? ⟨gb262, 0, none⟩ = some (.int .i64 a1_0) ∧ w'.cell? ⟨gb262, 1, none⟩ = some (.int .i64 a1_1)) (ds := []) #[false, false, false, false, false, false, false, false, false, false, false, false, false, false, false] (by kernel_rfl) rfl rfl ⟨(blk_cell BK262.out 0).trans rfl, (blk_cell BK262.out 1).trans rfl⟩ (fun hHeld => ?_); refine with_tabW comfitlaw06_TagsMore.tab12 comfitlaw06_TagsMore.bits12 (fun HT_ HW_ => ?_)
         generalize wr.drew = w40 at BK262 BK271 HB hHeld ⊢
         refine pure_ (i := 0) (N := some 72) (v := ?_) (a' := ?_) #[true, false, false, false, false, false, false, false, false, false, false, false, false, false, false] rfl rfl (any_of HT_.out (by kernel_rfl)) (fun _ _ _ h => h) (Or.inl ⟨by rfl, ?_⟩) ?_ ?_
         rotate_left
         ·intro w'
          go_simp
          with_reducible rfl
         rotate_left
         ·simp only [Act.put, List.setIfInBounds_toArray, List.set_cons_zero, List.set_cons_succ, i64_w, i32_w]
          rfl
         refine pure_ (i := 3) (N := some 75) (v := ?_) (a' := ?_) #[true, false, false, true, false, false, false, false, false, false, false, false, false, false, false] rfl rfl (any_of HT_.out (by kernel_rfl)) (fun _ _ _ h => h) (Or.inl ⟨by rfl, ?_⟩) ?_ ?_
         rotate_left
         ·intro w'
          go_simp
          with_reducible rfl
         rotate_left
         ·simp only [Act.put, List.setIfInBounds_toArray, List.set_cons_zero, List.set_cons_succ, i64_w, i32_w]
          rfl
         refine take_ (i := 2) (N := some 74) (v := ?_) (a' := ?_) #[true, false, true, true, false, false, false, false, false, false, false, false, false, false, false] rfl rfl (take_ofW HT_.out HW_.out (by kernel_rfl)) (fun _ _ _ h => h) (Or.inl ⟨by rfl, ?_⟩) hHeld ?_ ?_
         rotate_left
         ·rintro w' ⟨s0, s1⟩
          go_simp
          with_reducible rfl
         rotate_left
         ·simp only [Act.put, List.setIfInBounds_toArray, List.set_cons_zero, List.set_cons_succ, i64_w, i32_w]
          rfl
         refine join_ (σ := Value × Nat) 4 #[true, true, true, true, true, true, true, true, true, true, true, false, false, false, false] (fun s_ => [(73, s_.1), (76, .tuple #[.int .i64 t278, .agg #[.int .i64 t279, .int .i64 t280], .int .i64 t281, .int .i64 t282]), (16, .pointer (some ⟨s_.2, 0, none⟩)), (71, .tuple #[.int .i64 t278, .agg #[.int .i64 t279, .int .i64 t280], .int .i64 t281, .int .i64 t282]), (77, .int .i64 t278), (78, .agg #[.int .i64 t279, .int .i64 t280]), (79, .int .i64 t281), (80, .int .i64 t282)]) (fun s_ w' => (w'.cell? ⟨gb262, 0, none⟩ = some (.int .i64 a1_0) ∧ w'.cell? ⟨gb262, 1, none⟩ = some (.int .i64 a1_1)) ∧ (Kd.R k57 57 w' w.heap.size (fun _ => True) s_.1 t275) ∧ (w'.heap[gb262]? = some (.cells #[.int .i64 a1_0, .int .i64 a1_1] 23 (0, 0))) ∧ (w'.heap[gb271]? = some (.cells #[.int .i64 (wrap64 (a1_0 + (wrap64 (Int.tmod (IntKind.u64.wrap (a3)) 20)))), .int .i64 a1_1] 23 (0, 0))) ∧ (w'.heap[s_.2]? = some (.cells #[.int .i64 0, .int .i64 0] 23 (0, 0))) ∧ (w.heap.size ≤ s_.2) ∧ (w.heap.size ≤ s_.2) ∧ (gb262 ≠ s_.2) ∧ (s_.2 ≠ gb262) ∧ (gb271 ≠ s_.2) ∧ (s_.2 ≠ gb271) ∧ (Below w.heap.size w w')) ?_ ?_
         rotate_left
         ·intro hCont
          refine two_ (i := 1) (j := 10) (Ni := some 73) (Nj := some 16) #[true, true, true, true, false, false, false, false, false, false, false, false, false, false, false] #[true, false, true, true, false, false, false, false, false, false, true, false, false, false, false] rfl rfl rfl rfl (two_of HT_.out (by kernel_rfl)) (by decide) (by decide) (fun K hK => ?_) (fun K hK => ?_)
          ·skip
           refine goes_ Try.func11 (by kernel_rfl) rfl #[.slice A0 l0.length c0] (by rfl) rfl rfl al_ ?_
           with_reducible refine (comfitlaw06_Of.calls k2 _ _ l0 t275 _ ?side1 ?side2 A35.out).mono ?_
           (case side1 => exact kc_ (Kd.C_below HR0.out HB.out))
           (case side2 => exact HC0.out)
           rintro e w41 ⟨v276, rfl, ho0, hb⟩
           refine ⟨_, rfl, ?_⟩
           have n0_ := Aside0.mk (Kd.R_lower ho0 (below_size (hb_ HB.out)))
           have n1_ := Aside0.mk (bkb_ BK262.out hb)
           have n2_ := Aside0.mk (bkb_ BK271.out hb)
           have n3_ := Aside0.mk (below_step (hb_ HB.out) hb)
           clear BK262
           clear BK271
           clear HB
           have HO277 := n0_
           have BK262 := n1_
           have BK271 := n2_
           have HB := n3_
           clear n0_ n1_ n2_ n3_
           (try clear hb)
           (try clear hb2)
           (try clear hk)
           (try clear hi)
           (try clear ho0)
           obtain ⟨Ao42, co42, eo42⟩ := Kd.R_slice HO277.out
           (first | subst eo42 | (injection eo42 with f1_ f2_ f3_; have f4_ := f1_.symm; have f5_ := f3_.symm; clear f1_ f2_ f3_; subst f4_; subst f5_))
           refine hK.out _ _ ⟨(blk_cell BK262.out 0).trans rfl, (blk_cell BK262.out 1).trans rfl⟩ (fun hHeld => ?_)
           clear hK K
           refine norm_ (a' := ?_) ?_ ?_
           rotate_left
           ·show Act.put _ (some 73) _ = _
            simp only [Act.put, List.setIfInBounds_toArray, List.set_cons_zero, List.set_cons_succ, i64_w, i32_w]
            rfl
           refine two_ (i := 4) (j := 10) (Ni := some 76) (Nj := some 16) #[true, true, true, true, true, false, false, false, false, false, false, false, false, false, false] #[true, true, true, true, false, false, false, false, false, false, true, false, false, false, false] rfl rfl rfl rfl (two_of HT_.out (by kernel_rfl)) (by decide) (by decide) (fun K hK => ?_) (fun K hK => ?_)
           ·skip
            refine goes_ Try.func10 (by kernel_rfl) rfl #[.slice Ao42 t275.length co42, .agg #[.int .i64 a1_0, .int .i64 a1_1], .int .i64 x68_2] (by rfl) rfl rfl al_ ?_
            with_reducible refine (tags_Go.calls k2 _ _ t275 a1_0 a1_1 x68_2 t278 t279 t280 t281 t282 _ ?side1 ?side2 A36.out).mono ?_
            (case side1 => exact kc_ (Kd.R_reads' HO277.out).2.2)
            (case side2 => exact (Kd.R_reads' HO277.out).2.1)
            rintro e w43 ⟨rfl, hb⟩
            refine ⟨_, rfl, ?_⟩
            have n0_ := Aside0.mk (Kd.R_below (kr_ (HO277.out)) hb)
            have n1_ := Aside0.mk (bkb_ BK262.out hb)
            have n2_ := Aside0.mk (bkb_ BK271.out hb)
            have n3_ := Aside0.mk (below_step (hb_ HB.out) hb)
            clear HO277
            clear BK262
            clear BK271
            clear HB
            have HO277 := n0_
            have BK262 := n1_
            have BK271 := n2_
            have HB := n3_
            clear n0_ n1_ n2_ n3_
            (try clear hb)
            (try clear hb2)
            (try clear hk)
            (try clear hi)
            refine hK.out _ _ ⟨(blk_cell BK262.out 0).trans rfl, (blk_cell BK262.out 1).trans rfl⟩ (fun hHeld => ?_)
            clear hK K
            refine norm_ (a' := ?_) ?_ ?_
            rotate_left
            ·show Act.put _ (some 76) _ = _
             simp only [Act.put, List.setIfInBounds_toArray, List.set_cons_zero, List.set_cons_succ, i64_w, i32_w]
             rfl
            refine pure_ (i := 5) (N := some 71) (v := ?_) (a' := ?_) #[true, true, true, true, true, true, false, false, false, false, false, false, false, false, false] rfl rfl (any_of HT_.out (by kernel_rfl)) (fun _ _ _ h => h) (Or.inl ⟨by rfl, ?_⟩) ?_ ?_
            rotate_left
            ·intro w'
             go_simp
             with_reducible rfl
            rotate_left
            ·simp only [Act.put, List.setIfInBounds_toArray, List.set_cons_zero, List.set_cons_succ, i64_w, i32_w]
             rfl
            refine pure_ (i := 6) (N := some 77) (v := ?_) (a' := ?_) #[true, true, true, true, true, true, true, false, false, false, false, false, false, false, false] rfl rfl (any_of HT_.out (by kernel_rfl)) (fun _ _ _ h => h) (Or.inl ⟨by rfl, ?_⟩) ?_ ?_
            rotate_left
            ·intro w'
             go_simp
             with_reducible rfl
            rotate_left
            ·simp only [Act.put, List.setIfInBounds_toArray, List.set_cons_zero, List.set_cons_succ, i64_w, i32_w]
             rfl
            refine pure_ (i := 7) (N := some 78) (v := ?_) (a' := ?_) #[true, true, true, true, true, true, true, true, false, false, false, false, false, false, false] rfl rfl (any_of HT_.out (by kernel_rfl)) (fun _ _ _ h => h) (Or.inl ⟨by rfl, ?_⟩) ?_ ?_
            rotate_left
            ·intro w'
             go_simp
             with_reducible rfl
            rotate_left
            ·simp only [Act.put, List.setIfInBounds_toArray, List.set_cons_zero, List.set_cons_succ, i64_w, i32_w]
             rfl
            refine pure_ (i := 8) (N := some 79) (v := ?_) (a' := ?_) #[true, true, true, true, true, true, true, true, true, false, false, false, false, false, false] rfl rfl (any_of HT_.out (by kernel_rfl)) (fun _ _ _ h => h) (Or.inl ⟨by rfl, ?_⟩) ?_ ?_
            rotate_left
            ·intro w'
             go_simp
             with_reducible rfl
            rotate_left
            ·simp only [Act.put, List.setIfInBounds_toArray, List.set_cons_zero, List.set_cons_succ, i64_w, i32_w]
             rfl
            refine pure_ (i := 9) (N := some 80) (v := ?_) (a' := ?_) #[true, true, true, true, true, true, true, true, true, true, false, false, false, false, false] rfl rfl (any_of HT_.out (by kernel_rfl)) (fun _ _ _ h => h) (Or.inl ⟨by rfl, ?_⟩) ?_ ?_
            rotate_left
            ·intro w'
             go_simp
             with_reducible rfl
            rotate_left
            ·simp only [Act.put, List.setIfInBounds_toArray, List.set_cons_zero, List.set_cons_succ, i64_w, i32_w]
             rfl
            refine one_ (i := 10) (N := some 16) #[true, true, true, true, true, true, true, true, true, true, true, false, false, false, false] rfl rfl (one_of HT_.out (by kernel_rfl)) (by decide) (fun K hK => ?_)
            refine box_step ?hg (N := 16) ?hd (cs := #[.int .i64 0, .int .i64 0]) (t := 23) ?hr ?_; (case hd => rfl); (case hg => rfl); (case hr => first | (go_simp; done) | (go_simp; rfl))
            intro gb283 hg w44 hbox hb
            have n0_ := Aside0.mk (Kd.R_below (kr_ (HO277.out)) hb)
            have n1_ := Aside0.mk (bkb_ BK262.out hb)
            have n2_ := Aside0.mk (bkb_ BK271.out hb)
            have n3_ := Aside0.mk (below_step (hb_ HB.out) hb)
            have n4_ := Aside0.mk (hbox)
            have n5_ := Aside0.mk ((by rw [hg]; exact (below_size (hb_ HB.out)) : w.heap.size ≤ gb283))
            have n6_ := Aside0.mk ((by rw [hg]; exact (below_size (hb_ HB.out)) : w.heap.size ≤ gb283))
            have n7_ := Aside0.mk ((by rw [hg]; exact Nat.ne_of_lt (bkl_ BK262.out) : gb262 ≠ gb283))
            have n8_ := Aside0.mk ((by rw [hg]; exact Nat.ne_of_gt (bkl_ BK262.out) : gb283 ≠ gb262))
            have n9_ := Aside0.mk ((by rw [hg]; exact Nat.ne_of_lt (bkl_ BK271.out) : gb271 ≠ gb283))
            have n10_ := Aside0.mk ((by rw [hg]; exact Nat.ne_of_gt (bkl_ BK271.out) : gb283 ≠ gb271))
            clear HO277
            clear BK262
            clear BK271
            clear HB
            have HO277 := n0_
            have BK262 := n1_
            have BK271 := n2_
            have HB := n3_
            have BK283 := n4_
            have GW283 := n5_
            have GE283 := n6_
            have NB262_283 := n7_
            have NB283_262 := n8_
            have NB271_283 := n9_
            have NB283_271 := n10_
            clear n0_ n1_ n2_ n3_ n4_ n5_ n6_ n7_ n8_ n9_ n10_
            clear hb hbox hg
            refine hK.out _ _ ⟨(blk_cell BK262.out 0).trans rfl, (blk_cell BK262.out 1).trans rfl⟩ (fun hHeld => ?_)
            clear hK K
            refine norm_ (a' := ?_) ?_ ?_
            rotate_left
            ·show Act.put _ (some 16) _ = _
             simp only [Act.put, List.setIfInBounds_toArray, List.set_cons_zero, List.set_cons_succ, i64_w, i32_w]
             rfl
            exact norm_ (by simp only [putAll, Act.put, List.setIfInBounds_toArray, List.set_cons_zero, List.set_cons_succ]) (hCont (.slice Ao42 t275.length co42, gb283) _ ⟨hHeld, (kr_ (HO277.out)), (bk_ BK262.out), (bk_ BK271.out), (bk_ BK283.out), GW283.out, GE283.out, NB262_283.out, NB283_262.out, NB271_283.out, NB283_271.out, (hb_ HB.out)⟩)
           ·skip
            refine box_step ?hg (N := 16) ?hd (cs := #[.int .i64 0, .int .i64 0]) (t := 23) ?hr ?_; (case hd => rfl); (case hg => rfl); (case hr => first | (go_simp; done) | (go_simp; rfl))
            intro gb283 hg w42 hbox hb
            have n0_ := Aside0.mk (Kd.R_below (kr_ (HO277.out)) hb)
            have n1_ := Aside0.mk (bkb_ BK262.out hb)
            have n2_ := Aside0.mk (bkb_ BK271.out hb)
            have n3_ := Aside0.mk (below_step (hb_ HB.out) hb)
            have n4_ := Aside0.mk (hbox)
            have n5_ := Aside0.mk ((by rw [hg]; exact (below_size (hb_ HB.out)) : w.heap.size ≤ gb283))
            have n6_ := Aside0.mk ((by rw [hg]; exact (below_size (hb_ HB.out)) : w.heap.size ≤ gb283))
            have n7_ := Aside0.mk ((by rw [hg]; exact Nat.ne_of_lt (bkl_ BK262.out) : gb262 ≠ gb283))
            have n8_ := Aside0.mk ((by rw [hg]; exact Nat.ne_of_gt (bkl_ BK262.out) : gb283 ≠ gb262))
            have n9_ := Aside0.mk ((by rw [hg]; exact Nat.ne_of_lt (bkl_ BK271.out) : gb271 ≠ gb283))
            have n10_ := Aside0.mk ((by rw [hg]; exact Nat.ne_of_gt (bkl_ BK271.out) : gb283 ≠ gb271))
            clear HO277
            clear BK262
            clear BK271
            clear HB
            have HO277 := n0_
            have BK262 := n1_
            have BK271 := n2_
            have HB := n3_
            have BK283 := n4_
            have GW283 := n5_
            have GE283 := n6_
            have NB262_283 := n7_
            have NB283_262 := n8_
            have NB271_283 := n9_
            have NB283_271 := n10_
            clear n0_ n1_ n2_ n3_ n4_ n5_ n6_ n7_ n8_ n9_ n10_
            clear hb hbox hg
            obtain ⟨Ao43, co43, eo43⟩ := Kd.R_slice HO277.out
            (first | subst eo43 | (injection eo43 with f1_ f2_ f3_; have f4_ := f1_.symm; have f5_ := f3_.symm; clear f1_ f2_ f3_; subst f4_; subst f5_))
            refine hK.out _ _ ⟨(blk_cell BK262.out 0).trans rfl, (blk_cell BK262.out 1).trans rfl⟩ (fun hHeld => ?_)
            clear hK K
            refine norm_ (a' := ?_) ?_ ?_
            rotate_left
            ·show Act.put _ (some 16) _ = _
             simp only [Act.put, List.setIfInBounds_toArray, List.set_cons_zero, List.set_cons_succ, i64_w, i32_w]
             rfl
            refine one_ (i := 4) (N := some 76) #[true, true, true, true, true, false, false, false, false, false, true, false, false, false, false] rfl rfl (one_of HT_.out (by kernel_rfl)) (by decide) (fun K hK => ?_)
            refine goes_ Try.func10 (by kernel_rfl) rfl #[.slice Ao43 t275.length co43, .agg #[.int .i64 a1_0, .int .i64 a1_1], .int .i64 x68_2] (by rfl) rfl rfl al_ ?_
            with_reducible refine (tags_Go.calls k2 _ _ t275 a1_0 a1_1 x68_2 t278 t279 t280 t281 t282 _ ?side1 ?side2 A36.out).mono ?_
            (case side1 => exact kc_ (Kd.R_reads' HO277.out).2.2)
            (case side2 => exact (Kd.R_reads' HO277.out).2.1)
            rintro e w44 ⟨rfl, hb⟩
            refine ⟨_, rfl, ?_⟩
            have n0_ := Aside0.mk (Kd.R_below (kr_ (HO277.out)) hb)
            have n1_ := Aside0.mk (bkb_ BK262.out hb)
            have n2_ := Aside0.mk (bkb_ BK271.out hb)
            have n3_ := Aside0.mk (bkb_ BK283.out hb)
            have n4_ := Aside0.mk (below_step (hb_ HB.out) hb)
            clear HO277
            clear BK262
            clear BK271
            clear BK283
            clear HB
            have HO277 := n0_
            have BK262 := n1_
            have BK271 := n2_
            have BK283 := n3_
            have HB := n4_
            clear n0_ n1_ n2_ n3_ n4_
            (try clear hb)
            (try clear hb2)
            (try clear hk)
            (try clear hi)
            refine hK.out _ _ ⟨(blk_cell BK262.out 0).trans rfl, (blk_cell BK262.out 1).trans rfl⟩ (fun hHeld => ?_)
            clear hK K
            refine norm_ (a' := ?_) ?_ ?_
            rotate_left
            ·show Act.put _ (some 76) _ = _
             simp only [Act.put, List.setIfInBounds_toArray, List.set_cons_zero, List.set_cons_succ, i64_w, i32_w]
             rfl
            refine pure_ (i := 5) (N := some 71) (v := ?_) (a' := ?_) #[true, true, true, true, true, true, false, false, false, false, true, false, false, false, false] rfl rfl (any_of HT_.out (by kernel_rfl)) (fun _ _ _ h => h) (Or.inl ⟨by rfl, ?_⟩) ?_ ?_
            rotate_left
            ·intro w'
             go_simp
             with_reducible rfl
            rotate_left
            ·simp only [Act.put, List.setIfInBounds_toArray, List.set_cons_zero, List.set_cons_succ, i64_w, i32_w]
             rfl
            refine pure_ (i := 6) (N := some 77) (v := ?_) (a' := ?_) #[true, true, true, true, true, true, true, false, false, false, true, false, false, false, false] rfl rfl (any_of HT_.out (by kernel_rfl)) (fun _ _ _ h => h) (Or.inl ⟨by rfl, ?_⟩) ?_ ?_
            rotate_left
            ·intro w'
             go_simp
             with_reducible rfl
            rotate_left
            ·simp only [Act.put, List.setIfInBounds_toArray, List.set_cons_zero, List.set_cons_succ, i64_w, i32_w]
             rfl
            refine pure_ (i := 7) (N := some 78) (v := ?_) (a' := ?_) #[true, true, true, true, true, true, true, true, false, false, true, false, false, false, false] rfl rfl (any_of HT_.out (by kernel_rfl)) (fun _ _ _ h => h) (Or.inl ⟨by rfl, ?_⟩) ?_ ?_
            rotate_left
            ·intro w'
             go_simp
             with_reducible rfl
            rotate_left
            ·simp only [Act.put, List.setIfInBounds_toArray, List.set_cons_zero, List.set_cons_succ, i64_w, i32_w]
             rfl
            refine pure_ (i := 8) (N := some 79) (v := ?_) (a' := ?_) #[true, true, true, true, true, true, true, true, true, false, true, false, false, false, false] rfl rfl (any_of HT_.out (by kernel_rfl)) (fun _ _ _ h => h) (Or.inl ⟨by rfl, ?_⟩) ?_ ?_
            rotate_left
            ·intro w'
             go_simp
             with_reducible rfl
            rotate_left
            ·simp only [Act.put, List.setIfInBounds_toArray, List.set_cons_zero, List.set_cons_succ, i64_w, i32_w]
             rfl
            refine pure_ (i := 9) (N := some 80) (v := ?_) (a' := ?_) #[true, true, true, true, true, true, true, true, true, true, true, false, false, false, false] rfl rfl (any_of HT_.out (by kernel_rfl)) (fun _ _ _ h => h) (Or.inl ⟨by rfl, ?_⟩) ?_ ?_
            rotate_left
            ·intro w'
             go_simp
             with_reducible rfl
            rotate_left
            ·simp only [Act.put, List.setIfInBounds_toArray, List.set_cons_zero, List.set_cons_succ, i64_w, i32_w]
             rfl
            exact norm_ (by simp only [putAll, Act.put, List.setIfInBounds_toArray, List.set_cons_zero, List.set_cons_succ]) (hCont (.slice Ao43 t275.length co43, gb283) _ ⟨hHeld, (kr_ (HO277.out)), (bk_ BK262.out), (bk_ BK271.out), (bk_ BK283.out), GW283.out, GE283.out, NB262_283.out, NB283_262.out, NB271_283.out, NB283_271.out, (hb_ HB.out)⟩)
          ·skip
           refine box_step ?hg (N := 16) ?hd (cs := #[.int .i64 0, .int .i64 0]) (t := 23) ?hr ?_; (case hd => rfl); (case hg => rfl); (case hr => first | (go_simp; done) | (go_simp; rfl))
           intro gb283 hg w41 hbox hb
           have n0_ := Aside0.mk (bkb_ BK262.out hb)
           have n1_ := Aside0.mk (bkb_ BK271.out hb)
           have n2_ := Aside0.mk (below_step (hb_ HB.out) hb)
           have n3_ := Aside0.mk (hbox)
           have n4_ := Aside0.mk ((by rw [hg]; exact (below_size (hb_ HB.out)) : w.heap.size ≤ gb283))
           have n5_ := Aside0.mk ((by rw [hg]; exact (below_size (hb_ HB.out)) : w.heap.size ≤ gb283))
           have n6_ := Aside0.mk ((by rw [hg]; exact Nat.ne_of_lt (bkl_ BK262.out) : gb262 ≠ gb283))
           have n7_ := Aside0.mk ((by rw [hg]; exact Nat.ne_of_gt (bkl_ BK262.out) : gb283 ≠ gb262))
           have n8_ := Aside0.mk ((by rw [hg]; exact Nat.ne_of_lt (bkl_ BK271.out) : gb271 ≠ gb283))
           have n9_ := Aside0.mk ((by rw [hg]; exact Nat.ne_of_gt (bkl_ BK271.out) : gb283 ≠ gb271))
           clear BK262
           clear BK271
           clear HB
           have BK262 := n0_
           have BK271 := n1_
           have HB := n2_
           have BK283 := n3_
           have GW283 := n4_
           have GE283 := n5_
           have NB262_283 := n6_
           have NB283_262 := n7_
           have NB271_283 := n8_
           have NB283_271 := n9_
           clear n0_ n1_ n2_ n3_ n4_ n5_ n6_ n7_ n8_ n9_
           clear hb hbox hg
           refine hK.out _ _ ⟨(blk_cell BK262.out 0).trans rfl, (blk_cell BK262.out 1).trans rfl⟩ (fun hHeld => ?_)
           clear hK K
           refine norm_ (a' := ?_) ?_ ?_
           rotate_left
           ·show Act.put _ (some 16) _ = _
            simp only [Act.put, List.setIfInBounds_toArray, List.set_cons_zero, List.set_cons_succ, i64_w, i32_w]
            rfl
           refine one_ (i := 1) (N := some 73) #[true, true, true, true, false, false, false, false, false, false, true, false, false, false, false] rfl rfl (one_of HT_.out (by kernel_rfl)) (by decide) (fun K hK => ?_)
           refine goes_ Try.func11 (by kernel_rfl) rfl #[.slice A0 l0.length c0] (by rfl) rfl rfl al_ ?_
           with_reducible refine (comfitlaw06_Of.calls k2 _ _ l0 t275 _ ?side1 ?side2 A35.out).mono ?_
           (case side1 => exact kc_ (Kd.C_below HR0.out HB.out))
           (case side2 => exact HC0.out)
           rintro e w42 ⟨v276, rfl, ho0, hb⟩
           refine ⟨_, rfl, ?_⟩
           have n0_ := Aside0.mk (Kd.R_lower ho0 (below_size (hb_ HB.out)))
           have n1_ := Aside0.mk (bkb_ BK262.out hb)
           have n2_ := Aside0.mk (bkb_ BK271.out hb)
           have n3_ := Aside0.mk (bkb_ BK283.out hb)
           have n4_ := Aside0.mk (below_step (hb_ HB.out) hb)
           clear BK262
           clear BK271
           clear BK283
           clear HB
           have HO277 := n0_
           have BK262 := n1_
           have BK271 := n2_
           have BK283 := n3_
           have HB := n4_
           clear n0_ n1_ n2_ n3_ n4_
           (try clear hb)
           (try clear hb2)
           (try clear hk)
           (try clear hi)
           (try clear ho0)
           obtain ⟨Ao43, co43, eo43⟩ := Kd.R_slice HO277.out
           (first | subst eo43 | (injection eo43 with f1_ f2_ f3_; have f4_ := f1_.symm; have f5_ := f3_.symm; clear f1_ f2_ f3_; subst f4_; subst f5_))
           refine hK.out _ _ ⟨(blk_cell BK262.out 0).trans rfl, (blk_cell BK262.out 1).trans rfl⟩ (fun hHeld => ?_)
           clear hK K
           refine norm_ (a' := ?_) ?_ ?_
           rotate_left
           ·show Act.put _ (some 73) _ = _
            simp only [Act.put, List.setIfInBounds_toArray, List.set_cons_zero, List.set_cons_succ, i64_w, i32_w]
            rfl
           refine one_ (i := 4) (N := some 76) #[true, true, true, true, true, false, false, false, false, false, true, false, false, false, false] rfl rfl (one_of HT_.out (by kernel_rfl)) (by decide) (fun K hK => ?_)
           refine goes_ Try.func10 (by kernel_rfl) rfl #[.slice Ao43 t275.length co43, .agg #[.int .i64 a1_0, .int .i64 a1_1], .int .i64 x68_2] (by rfl) rfl rfl al_ ?_
           with_reducible refine (tags_Go.calls k2 _ _ t275 a1_0 a1_1 x68_2 t278 t279 t280 t281 t282 _ ?side1 ?side2 A36.out).mono ?_
           (case side1 => exact kc_ (Kd.R_reads' HO277.out).2.2)
           (case side2 => exact (Kd.R_reads' HO277.out).2.1)
           rintro e w44 ⟨rfl, hb⟩
           refine ⟨_, rfl, ?_⟩
           have n0_ := Aside0.mk (Kd.R_below (kr_ (HO277.out)) hb)
           have n1_ := Aside0.mk (bkb_ BK262.out hb)
           have n2_ := Aside0.mk (bkb_ BK271.out hb)
           have n3_ := Aside0.mk (bkb_ BK283.out hb)
           have n4_ := Aside0.mk (below_step (hb_ HB.out) hb)
           clear HO277
           clear BK262
           clear BK271
           clear BK283
           clear HB
           have HO277 := n0_
           have BK262 := n1_
           have BK271 := n2_
           have BK283 := n3_
           have HB := n4_
           clear n0_ n1_ n2_ n3_ n4_
           (try clear hb)
           (try clear hb2)
           (try clear hk)
           (try clear hi)
           refine hK.out _ _ ⟨(blk_cell BK262.out 0).trans rfl, (blk_cell BK262.out 1).trans rfl⟩ (fun hHeld => ?_)
           clear hK K
           refine norm_ (a' := ?_) ?_ ?_
           rotate_left
           ·show Act.put _ (some 76) _ = _
            simp only [Act.put, List.setIfInBounds_toArray, List.set_cons_zero, List.set_cons_succ, i64_w, i32_w]
            rfl
           refine pure_ (i := 5) (N := some 71) (v := ?_) (a' := ?_) #[true, true, true, true, true, true, false, false, false, false, true, false, false, false, false] rfl rfl (any_of HT_.out (by kernel_rfl)) (fun _ _ _ h => h) (Or.inl ⟨by rfl, ?_⟩) ?_ ?_
           rotate_left
           ·intro w'
            go_simp
            with_reducible rfl
           rotate_left
           ·simp only [Act.put, List.setIfInBounds_toArray, List.set_cons_zero, List.set_cons_succ, i64_w, i32_w]
            rfl
           refine pure_ (i := 6) (N := some 77) (v := ?_) (a' := ?_) #[true, true, true, true, true, true, true, false, false, false, true, false, false, false, false] rfl rfl (any_of HT_.out (by kernel_rfl)) (fun _ _ _ h => h) (Or.inl ⟨by rfl, ?_⟩) ?_ ?_
           rotate_left
           ·intro w'
            go_simp
            with_reducible rfl
           rotate_left
           ·simp only [Act.put, List.setIfInBounds_toArray, List.set_cons_zero, List.set_cons_succ, i64_w, i32_w]
            rfl
           refine pure_ (i := 7) (N := some 78) (v := ?_) (a' := ?_) #[true, true, true, true, true, true, true, true, false, false, true, false, false, false, false] rfl rfl (any_of HT_.out (by kernel_rfl)) (fun _ _ _ h => h) (Or.inl ⟨by rfl, ?_⟩) ?_ ?_
           rotate_left
           ·intro w'
            go_simp
            with_reducible rfl
           rotate_left
           ·simp only [Act.put, List.setIfInBounds_toArray, List.set_cons_zero, List.set_cons_succ, i64_w, i32_w]
            rfl
           refine pure_ (i := 8) (N := some 79) (v := ?_) (a' := ?_) #[true, true, true, true, true, true, true, true, true, false, true, false, false, false, false] rfl rfl (any_of HT_.out (by kernel_rfl)) (fun _ _ _ h => h) (Or.inl ⟨by rfl, ?_⟩) ?_ ?_
           rotate_left
           ·intro w'
            go_simp
            with_reducible rfl
           rotate_left
           ·simp only [Act.put, List.setIfInBounds_toArray, List.set_cons_zero, List.set_cons_succ, i64_w, i32_w]
            rfl
           refine pure_ (i := 9) (N := some 80) (v := ?_) (a' := ?_) #[true, true, true, true, true, true, true, true, true, true, true, false, false, false, false] rfl rfl (any_of HT_.out (by kernel_rfl)) (fun _ _ _ h => h) (Or.inl ⟨by rfl, ?_⟩) ?_ ?_
           rotate_left
           ·intro w'
            go_simp
            with_reducible rfl
           rotate_left
           ·simp only [Act.put, List.setIfInBounds_toArray, List.set_cons_zero, List.set_cons_succ, i64_w, i32_w]
            rfl
           exact norm_ (by simp only [putAll, Act.put, List.setIfInBounds_toArray, List.set_cons_zero, List.set_cons_succ]) (hCont (.slice Ao43 t275.length co43, gb283) _ ⟨hHeld, (kr_ (HO277.out)), (bk_ BK262.out), (bk_ BK271.out), (bk_ BK283.out), GW283.out, GE283.out, NB262_283.out, NB283_262.out, NB271_283.out, NB283_271.out, (hb_ HB.out)⟩)
         rintro ⟨v276, gb283⟩ w45 ⟨hS_, h0_, h1_, h2_, h3_, h4_, h5_, h6_, h7_, h8_, h9_, h10_⟩
         have n0_ : Aside0 (Kd.R k57 57 w45 w.heap.size (fun _ => True) v276 t275) := ⟨h0_⟩
         have n1_ : Aside0 (w45.heap[gb262]? = some (.cells #[.int .i64 a1_0, .int .i64 a1_1] 23 (0, 0))) := ⟨h1_⟩
         have n2_ : Aside0 (w45.heap[gb271]? = some (.cells #[.int .i64 (wrap64 (a1_0 + (wrap64 (Int.tmod (IntKind.u64.wrap (a3)) 20)))), .int .i64 a1_1] 23 (0, 0))) := ⟨h2_⟩
         have n3_ : Aside0 (w45.heap[gb283]? = some (.cells #[.int .i64 0, .int .i64 0] 23 (0, 0))) := ⟨h3_⟩
         have n4_ : Aside0 (w.heap.size ≤ gb283) := ⟨h4_⟩
         have n5_ : Aside0 (w.heap.size ≤ gb283) := ⟨h5_⟩
         have n6_ : Aside0 (gb262 ≠ gb283) := ⟨h6_⟩
         have n7_ : Aside0 (gb283 ≠ gb262) := ⟨h7_⟩
         have n8_ : Aside0 (gb271 ≠ gb283) := ⟨h8_⟩
         have n9_ : Aside0 (gb283 ≠ gb271) := ⟨h9_⟩
         have n10_ : Aside0 (Below w.heap.size w w45) := ⟨h10_⟩
         clear BK262
         clear BK271
         clear HB
         clear h0_ h1_ h2_ h3_ h4_ h5_ h6_ h7_ h8_ h9_ h10_
         have HO277 := n0_
         have BK262 := n1_
         have BK271 := n2_
         have BK283 := n3_
         have GW283 := n4_
         have GE283 := n5_
         have NB262_283 := n6_
         have NB283_262 := n7_
         have NB271_283 := n8_
         have NB283_271 := n9_
         have HB := n10_
         clear n0_ n1_ n2_ n3_ n4_ n5_ n6_ n7_ n8_ n9_ n10_
         have hHeld : w45.cell? ⟨gb262, 0, none⟩ = some (.int .i64 a1_0) ∧ w45.cell? ⟨gb262, 1, none⟩ = some (.int .i64 a1_1) := hS_
         refine norm_ (a' := ?_) ?_ ?_
         rotate_left
         ·simp only [putAll, Act.put, List.setIfInBounds_toArray, List.set_cons_zero, List.set_cons_succ]
          rfl
         refine pure_ (i := 11) (N := some 15) (v := ?_) (a' := ?_) #[true, true, true, true, true, true, true, true, true, true, true, true, false, false, false] rfl rfl (any_of HT_.out (by kernel_rfl)) (fun _ _ _ h => h) (Or.inl ⟨by rfl, ?_⟩) ?_ ?_
         rotate_left
         ·intro w'
          go_simp
          with_reducible rfl
         rotate_left
         ·simp only [Act.put, List.setIfInBounds_toArray, List.set_cons_zero, List.set_cons_succ, i64_w, i32_w]
          rfl
         refine one_ (i := 12) (N := none) #[true, true, true, true, true, true, true, true, true, true, true, true, true, false, false] rfl rfl (one_of HT_.out (by kernel_rfl)) (by decide) (fun K hK => ?_)
         have hs46 : w45.cell? ⟨gb283, 0, none⟩ = some (.int .i64 0) := (blk_cell BK283.out 0).trans rfl
         have hfs46 := blk_frozen BK283.out 0
         have hns46_0 := NB262_283.out
         have hns46_1 := NB271_283.out
         have hms46_0 := NB283_262.out
         have hms46_1 := NB283_271.out
         have hs47 : w45.cell? ⟨gb283, 1, none⟩ = some (.int .i64 0) := (blk_cell BK283.out 1).trans rfl
         have hfs47 := blk_frozen BK283.out 1
         have hns47_0 := NB262_283.out
         have hns47_1 := NB271_283.out
         have hms47_0 := NB283_262.out
         have hms47_1 := NB283_271.out
         refine skip_ (w1 := ?_) (by rfl) rfl ?_ ?_
         rotate_left
         ·go_simp
          rfl
         refine hK.out _ _ ⟨((cell_far (p := ⟨gb283, _, none⟩) NB262_283.out _).trans (((cell_far (p := ⟨gb283, _, none⟩) NB262_283.out _).trans (hHeld.1)))), ((cell_far (p := ⟨gb283, _, none⟩) NB262_283.out _).trans (((cell_far (p := ⟨gb283, _, none⟩) NB262_283.out _).trans (hHeld.2))))⟩ (fun hHeld => ?_)
         clear hK K
         refine pure_ (i := 13) (N := some 17) (v := ?_) (a' := ?_) #[true, true, true, true, true, true, true, true, true, true, true, true, true, true, false] rfl rfl (any_of HT_.out (by kernel_rfl)) (fun _ _ _ h => h) (Or.inl ⟨by rfl, ?_⟩) ?_ ?_
         rotate_left
         ·intro w'
          go_simp
          with_reducible rfl
         rotate_left
         ·simp only [Act.put, List.setIfInBounds_toArray, List.set_cons_zero, List.set_cons_succ, i64_w, i32_w]
          rfl
         refine pure_ (i := 14) (N := some 18) (v := ?_) (a' := ?_) #[true, true, true, true, true, true, true, true, true, true, true, true, true, true, true] rfl rfl (any_of HT_.out (by kernel_rfl)) (fun _ _ _ h => h) (Or.inl ⟨by rfl, ?_⟩) ?_ ?_
         rotate_left
         ·intro w'
          go_simp
          with_reducible rfl
         rotate_left
         ·simp only [Act.put, List.setIfInBounds_toArray, List.set_cons_zero, List.set_cons_succ, i64_w, i32_w]
          rfl
         refine done_ (done_of HT_.out (by kernel_rfl)) ?_
         try go_wp2
         have n0_ : Aside0 (Kd.R k57 57 ((w45.setCell ⟨gb283, 0, none⟩ (.int .i64 t279)).setCell ⟨gb283, 1, none⟩ (.int .i64 t280)) w.heap.size (fun _ => True) v276 t275) := ⟨by (with_reducible repeat (first | apply Kd.R_alloc | apply Kd.R_drewN | apply Kd.R_drew)); exact Kd.R_mono (Kd.R_far (p := ⟨gb283, 1, none⟩) (Kd.R_far (p := ⟨gb283, 0, none⟩) (Kd.R_types HO277.out BK283.out (by decide)) (fun _ hk => hk.2) (.int .i64 t279)) (fun _ hk => hk.2) (.int .i64 t280)) (fun _ hk => trivial)⟩
         have n1_ : Aside0 (((w45.setCell ⟨gb283, 0, none⟩ (.int .i64 t279)).setCell ⟨gb283, 1, none⟩ (.int .i64 t280)).heap[gb262]? = some (.cells #[.int .i64 a1_0, .int .i64 a1_1] 23 (0, 0))) := ⟨by (with_reducible repeat (first | refine blk_drewN ?_ _ | refine blk_drew ?_ | refine blk_alloc ?_ _)); refine blk_far ?_ NB262_283.out _; (with_reducible repeat (first | refine blk_drewN ?_ _ | refine blk_drew ?_ | refine blk_alloc ?_ _)); refine blk_far ?_ NB262_283.out _; (with_reducible repeat (first | refine blk_drewN ?_ _ | refine blk_drew ?_ | refine blk_alloc ?_ _)); exact BK262.out⟩
         have n2_ : Aside0 (((w45.setCell ⟨gb283, 0, none⟩ (.int .i64 t279)).setCell ⟨gb283, 1, none⟩ (.int .i64 t280)).heap[gb271]? = some (.cells #[.int .i64 (wrap64 (a1_0 + (wrap64 (Int.tmod (IntKind.u64.wrap (a3)) 20)))), .int .i64 a1_1] 23 (0, 0))) := ⟨by (with_reducible repeat (first | refine blk_drewN ?_ _ | refine blk_drew ?_ | refine blk_alloc ?_ _)); refine blk_far ?_ NB271_283.out _; (with_reducible repeat (first | refine blk_drewN ?_ _ | refine blk_drew ?_ | refine blk_alloc ?_ _)); refine blk_far ?_ NB271_283.out _; (with_reducible repeat (first | refine blk_drewN ?_ _ | refine blk_drew ?_ | refine blk_alloc ?_ _)); exact BK271.out⟩
         have n3_ : Aside0 (((w45.setCell ⟨gb283, 0, none⟩ (.int .i64 t279)).setCell ⟨gb283, 1, none⟩ (.int .i64 t280)).heap[gb283]? = some (.cells #[.int .i64 t279, .int .i64 t280] 23 (0, 0))) := ⟨by (with_reducible repeat (first | refine blk_drewN ?_ _ | refine blk_drew ?_ | refine blk_alloc ?_ _)); refine blk_put (cs := #[.int .i64 t279, .int .i64 0]) ?_ 1 _ rfl; (with_reducible repeat (first | refine blk_drewN ?_ _ | refine blk_drew ?_ | refine blk_alloc ?_ _)); refine blk_put (cs := #[.int .i64 0, .int .i64 0]) ?_ 0 _ rfl; (with_reducible repeat (first | refine blk_drewN ?_ _ | refine blk_drew ?_ | refine blk_alloc ?_ _)); exact BK283.out⟩
         have n4_ : Aside0 (Below w.heap.size w ((w45.setCell ⟨gb283, 0, none⟩ (.int .i64 t279)).setCell ⟨gb283, 1, none⟩ (.int .i64 t280))) := ⟨hb_ HB.out⟩
         (try clear HO277)
         (try clear BK262)
         (try clear BK271)
         (try clear BK283)
         (try clear HB)
         generalize ((w45.setCell ⟨gb283, 0, none⟩ (.int .i64 t279)).setCell ⟨gb283, 1, none⟩ (.int .i64 t280)) = w48 at n0_ n1_ n2_ n3_ n4_ ⊢
         have HO277 := n0_
         have BK262 := n1_
         have BK271 := n2_
         have BK283 := n3_
         have HB := n4_
         clear n0_ n1_ n2_ n3_ n4_
         have n0_ := Aside0.mk (Kd.R_drew HO277.out)
         have n1_ := Aside0.mk (blk_drew BK262.out)
         have n2_ := Aside0.mk (blk_drew BK271.out)
         have n3_ := Aside0.mk (blk_drew BK283.out)
         have n4_ := Aside0.mk (below_drew1 HB.out)
         clear HO277
         clear BK262
         clear BK271
         clear BK283
         clear HB
         have HO277 := n0_
         have BK262 := n1_
         have BK271 := n2_
         have BK283 := n3_
         have HB := n4_
         clear n0_ n1_ n2_ n3_ n4_
         refine start_ (n := 15) (S := fun w' => w'.cell? ⟨gb271, 0, none⟩ = some (.int .i64 (wrap64 (a1_0 + (wrap64 (Int.tmod (IntKind.u64.wrap (a3)) 20))))) ∧ w'.cell? ⟨gb271, 1, none⟩ = some (.int .i64 a1_1)) (ds := []) #[false, false, false, false, false, false, false, false, false, false, false, false, false, false, false] (by kernel_rfl) rfl rfl ⟨(blk_cell BK271.out 0).trans rfl, (blk_cell BK271.out 1).trans rfl⟩ (fun hHeld => ?_); refine with_tabW comfitlaw06_TagsMore.tab13 comfitlaw06_TagsMore.bits13 (fun HT_ HW_ => ?_)
         generalize w48.drew = w49 at HO277 BK262 BK271 BK283 HB hHeld ⊢
         refine pure_ (i := 0) (N := some 82) (v := ?_) (a' := ?_) #[true, false, false, false, false, false, false, false, false, false, false, false, false, false, false] rfl rfl (any_of HT_.out (by kernel_rfl)) (fun _ _ _ h => h) (Or.inl ⟨by rfl, ?_⟩) ?_ ?_
         rotate_left
         ·intro w'
          go_simp
          with_reducible rfl
         rotate_left
         ·simp only [Act.put, List.setIfInBounds_toArray, List.set_cons_zero, List.set_cons_succ, i64_w, i32_w]
          rfl
         refine pure_ (i := 3) (N := some 85) (v := ?_) (a' := ?_) #[true, false, false, true, false, false, false, false, false, false, false, false, false, false, false] rfl rfl (any_of HT_.out (by kernel_rfl)) (fun _ _ _ h => h) (Or.inl ⟨by rfl, ?_⟩) ?_ ?_
         rotate_left
         ·intro w'
          go_simp
          with_reducible rfl
         rotate_left
         ·simp only [Act.put, List.setIfInBounds_toArray, List.set_cons_zero, List.set_cons_succ, i64_w, i32_w]
          rfl
         refine take_ (i := 2) (N := some 84) (v := ?_) (a' := ?_) #[true, false, true, true, false, false, false, false, false, false, false, false, false, false, false] rfl rfl (take_ofW HT_.out HW_.out (by kernel_rfl)) (fun _ _ _ h => h) (Or.inl ⟨by rfl, ?_⟩) hHeld ?_ ?_
         rotate_left
         ·rintro w' ⟨s0, s1⟩
          go_simp
          with_reducible rfl
         rotate_left
         ·simp only [Act.put, List.setIfInBounds_toArray, List.set_cons_zero, List.set_cons_succ, i64_w, i32_w]
          rfl
         refine join_ (σ := Value × Nat) 4 #[true, true, true, true, true, true, true, true, true, true, true, false, false, false, false] (fun s_ => [(83, s_.1), (86, .tuple #[.int .i64 t287, .agg #[.int .i64 t288, .int .i64 t289], .int .i64 t290, .int .i64 t291]), (20, .pointer (some ⟨s_.2, 0, none⟩)), (81, .tuple #[.int .i64 t287, .agg #[.int .i64 t288, .int .i64 t289], .int .i64 t290, .int .i64 t291]), (87, .int .i64 t287), (88, .agg #[.int .i64 t288, .int .i64 t289]), (89, .int .i64 t290), (90, .int .i64 t291)]) (fun s_ w' => (w'.cell? ⟨gb271, 0, none⟩ = some (.int .i64 (wrap64 (a1_0 + (wrap64 (Int.tmod (IntKind.u64.wrap (a3)) 20))))) ∧ w'.cell? ⟨gb271, 1, none⟩ = some (.int .i64 a1_1)) ∧ (Kd.R k57 57 w' w.heap.size (fun k_ => some k_ ≠ (s_.1 : Value).ownBlock) v276 t275) ∧ (Kd.R k57 57 w' w.heap.size (fun k_ => some k_ ≠ (v276 : Value).ownBlock) s_.1 t284) ∧ (w'.heap[gb262]? = some (.cells #[.int .i64 a1_0, .int .i64 a1_1] 23 (0, 0))) ∧ (w'.heap[gb271]? = some (.cells #[.int .i64 (wrap64 (a1_0 + (wrap64 (Int.tmod (IntKind.u64.wrap (a3)) 20)))), .int .i64 a1_1] 23 (0, 0))) ∧ (w'.heap[gb283]? = some (.cells #[.int .i64 t279, .int .i64 t280] 23 (0, 0))) ∧ (w'.heap[s_.2]? = some (.cells #[.int .i64 0, .int .i64 0] 23 (0, 0))) ∧ (w.heap.size ≤ s_.2) ∧ (w.heap.size ≤ s_.2) ∧ (gb262 ≠ s_.2) ∧ (s_.2 ≠ gb262) ∧ (gb271 ≠ s_.2) ∧ (s_.2 ≠ gb271) ∧ (gb283 ≠ s_.2) ∧ (s_.2 ≠ gb283) ∧ (Below w.heap.size w w')) ?_ ?_
         rotate_left
         ·intro hCont
          refine two_ (i := 1) (j := 10) (Ni := some 83) (Nj := some 20) #[true, true, true, true, false, false, false, false, false, false, false, false, false, false, false] #[true, false, true, true, false, false, false, false, false, false, true, false, false, false, false] rfl rfl rfl rfl (two_of HT_.out (by kernel_rfl)) (by decide) (by decide) (fun K hK => ?_) (fun K hK => ?_)
          ·skip
           refine goes_ Try.func11 (by kernel_rfl) rfl #[.slice A0 l0.length c0] (by rfl) rfl rfl al_ ?_
           with_reducible refine (comfitlaw06_Of.calls k2 _ _ l0 t284 _ ?side1 ?side2 A37.out).mono ?_
           (case side1 => exact kc_ (Kd.C_below HR0.out HB.out))
           (case side2 => exact HC0.out)
           rintro e w50 ⟨v285, rfl, ho0, hb⟩
           refine ⟨_, rfl, ?_⟩
           have n0_ := Aside0.mk (Kd.R_elder' (kr_ (HO277.out)) (Kd.R_base ho0) hb)
           have n1_ := Aside0.mk (Kd.R_lower (Kd.R_new' ho0 (Kd.R_lt (kr_ (HO277.out)))) (below_size (hb_ HB.out)))
           have n2_ := Aside0.mk (bkb_ BK262.out hb)
           have n3_ := Aside0.mk (bkb_ BK271.out hb)
           have n4_ := Aside0.mk (bkb_ BK283.out hb)
           have n5_ := Aside0.mk (below_step (hb_ HB.out) hb)
           clear HO277
           clear BK262
           clear BK271
           clear BK283
           clear HB
           have HO277 := n0_
           have HO286 := n1_
           have BK262 := n2_
           have BK271 := n3_
           have BK283 := n4_
           have HB := n5_
           clear n0_ n1_ n2_ n3_ n4_ n5_
           (try clear hb)
           (try clear hb2)
           (try clear hk)
           (try clear hi)
           (try clear ho0)
           obtain ⟨Ao51, co51, eo51⟩ := Kd.R_slice HO286.out
           (first | subst eo51 | (injection eo51 with f1_ f2_ f3_; have f4_ := f1_.symm; have f5_ := f3_.symm; clear f1_ f2_ f3_; subst f4_; subst f5_))
           refine hK.out _ _ ⟨(blk_cell BK271.out 0).trans rfl, (blk_cell BK271.out 1).trans rfl⟩ (fun hHeld => ?_)
           clear hK K
           refine norm_ (a' := ?_) ?_ ?_
           rotate_left
           ·show Act.put _ (some 83) _ = _
            simp only [Act.put, List.setIfInBounds_toArray, List.set_cons_zero, List.set_cons_succ, i64_w, i32_w]
            rfl
           refine two_ (i := 4) (j := 10) (Ni := some 86) (Nj := some 20) #[true, true, true, true, true, false, false, false, false, false, false, false, false, false, false] #[true, true, true, true, false, false, false, false, false, false, true, false, false, false, false] rfl rfl rfl rfl (two_of HT_.out (by kernel_rfl)) (by decide) (by decide) (fun K hK => ?_) (fun K hK => ?_)
           ·skip
            refine goes_ Try.func10 (by kernel_rfl) rfl #[.slice Ao51 t284.length co51, .agg #[.int .i64 (wrap64 (a1_0 + (wrap64 (Int.tmod (IntKind.u64.wrap (a3)) 20)))), .int .i64 a1_1], .int .i64 x68_2] (by rfl) rfl rfl al_ ?_
            with_reducible refine (tags_Go.calls k2 _ _ t284 (wrap64 (a1_0 + (wrap64 (Int.tmod (IntKind.u64.wrap (a3)) 20)))) a1_1 x68_2 t287 t288 t289 t290 t291 _ ?side1 ?side2 A38.out).mono ?_
            (case side1 => exact kc_ (Kd.R_reads' HO286.out).2.2)
            (case side2 => exact (Kd.R_reads' HO286.out).2.1)
            rintro e w52 ⟨rfl, hb⟩
            refine ⟨_, rfl, ?_⟩
            have n0_ := Aside0.mk (Kd.R_below (kr_ (HO277.out)) hb)
            have n1_ := Aside0.mk (Kd.R_below (kr_ (HO286.out)) hb)
            have n2_ := Aside0.mk (bkb_ BK262.out hb)
            have n3_ := Aside0.mk (bkb_ BK271.out hb)
            have n4_ := Aside0.mk (bkb_ BK283.out hb)
            have n5_ := Aside0.mk (below_step (hb_ HB.out) hb)
            clear HO277
            clear HO286
            clear BK262
            clear BK271
            clear BK283
            clear HB
            have HO277 := n0_
            have HO286 := n1_
            have BK262 := n2_
            have BK271 := n3_
            have BK283 := n4_
            have HB := n5_
            clear n0_ n1_ n2_ n3_ n4_ n5_
            (try clear hb)
            (try clear hb2)
            (try clear hk)
            (try clear hi)
            refine hK.out _ _ ⟨(blk_cell BK271.out 0).trans rfl, (blk_cell BK271.out 1).trans rfl⟩ (fun hHeld => ?_)
            clear hK K
            refine norm_ (a' := ?_) ?_ ?_
            rotate_left
            ·show Act.put _ (some 86) _ = _
             simp only [Act.put, List.setIfInBounds_toArray, List.set_cons_zero, List.set_cons_succ, i64_w, i32_w]
             rfl
            refine pure_ (i := 5) (N := some 81) (v := ?_) (a' := ?_) #[true, true, true, true, true, true, false, false, false, false, false, false, false, false, false] rfl rfl (any_of HT_.out (by kernel_rfl)) (fun _ _ _ h => h) (Or.inl ⟨by rfl, ?_⟩) ?_ ?_
            rotate_left
            ·intro w'
             go_simp
             with_reducible rfl
            rotate_left
            ·simp only [Act.put, List.setIfInBounds_toArray, List.set_cons_zero, List.set_cons_succ, i64_w, i32_w]
             rfl
            refine pure_ (i := 6) (N := some 87) (v := ?_) (a' := ?_) #[true, true, true, true, true, true, true, false, false, false, false, false, false, false, false] rfl rfl (any_of HT_.out (by kernel_rfl)) (fun _ _ _ h => h) (Or.inl ⟨by rfl, ?_⟩) ?_ ?_
            rotate_left
            ·intro w'
             go_simp
             with_reducible rfl
            rotate_left
            ·simp only [Act.put, List.setIfInBounds_toArray, List.set_cons_zero, List.set_cons_succ, i64_w, i32_w]
             rfl
            refine pure_ (i := 7) (N := some 88) (v := ?_) (a' := ?_) #[true, true, true, true, true, true, true, true, false, false, false, false, false, false, false] rfl rfl (any_of HT_.out (by kernel_rfl)) (fun _ _ _ h => h) (Or.inl ⟨by rfl, ?_⟩) ?_ ?_
            rotate_left
            ·intro w'
             go_simp
             with_reducible rfl
            rotate_left
            ·simp only [Act.put, List.setIfInBounds_toArray, List.set_cons_zero, List.set_cons_succ, i64_w, i32_w]
             rfl
            refine pure_ (i := 8) (N := some 89) (v := ?_) (a' := ?_) #[true, true, true, true, true, true, true, true, true, false, false, false, false, false, false] rfl rfl (any_of HT_.out (by kernel_rfl)) (fun _ _ _ h => h) (Or.inl ⟨by rfl, ?_⟩) ?_ ?_
            rotate_left
            ·intro w'
             go_simp
             with_reducible rfl
            rotate_left
            ·simp only [Act.put, List.setIfInBounds_toArray, List.set_cons_zero, List.set_cons_succ, i64_w, i32_w]
             rfl
            refine pure_ (i := 9) (N := some 90) (v := ?_) (a' := ?_) #[true, true, true, true, true, true, true, true, true, true, false, false, false, false, false] rfl rfl (any_of HT_.out (by kernel_rfl)) (fun _ _ _ h => h) (Or.inl ⟨by rfl, ?_⟩) ?_ ?_
            rotate_left
            ·intro w'
             go_simp
             with_reducible rfl
            rotate_left
            ·simp only [Act.put, List.setIfInBounds_toArray, List.set_cons_zero, List.set_cons_succ, i64_w, i32_w]
             rfl
            refine one_ (i := 10) (N := some 20) #[true, true, true, true, true, true, true, true, true, true, true, false, false, false, false] rfl rfl (one_of HT_.out (by kernel_rfl)) (by decide) (fun K hK => ?_)
            refine box_step ?hg (N := 20) ?hd (cs := #[.int .i64 0, .int .i64 0]) (t := 23) ?hr ?_; (case hd => rfl); (case hg => rfl); (case hr => first | (go_simp; done) | (go_simp; rfl))
            intro gb292 hg w53 hbox hb
            have n0_ := Aside0.mk (Kd.R_below (kr_ (HO277.out)) hb)
            have n1_ := Aside0.mk (Kd.R_below (kr_ (HO286.out)) hb)
            have n2_ := Aside0.mk (bkb_ BK262.out hb)
            have n3_ := Aside0.mk (bkb_ BK271.out hb)
            have n4_ := Aside0.mk (bkb_ BK283.out hb)
            have n5_ := Aside0.mk (below_step (hb_ HB.out) hb)
            have n6_ := Aside0.mk (hbox)
            have n7_ := Aside0.mk ((by rw [hg]; exact (below_size (hb_ HB.out)) : w.heap.size ≤ gb292))
            have n8_ := Aside0.mk ((by rw [hg]; exact (below_size (hb_ HB.out)) : w.heap.size ≤ gb292))
            have n9_ := Aside0.mk ((by rw [hg]; exact Nat.ne_of_lt (bkl_ BK262.out) : gb262 ≠ gb292))
            have n10_ := Aside0.mk ((by rw [hg]; exact Nat.ne_of_gt (bkl_ BK262.out) : gb292 ≠ gb262))
            have n11_ := Aside0.mk ((by rw [hg]; exact Nat.ne_of_lt (bkl_ BK271.out) : gb271 ≠ gb292))
            have n12_ := Aside0.mk ((by rw [hg]; exact Nat.ne_of_gt (bkl_ BK271.out) : gb292 ≠ gb271))
            have n13_ := Aside0.mk ((by rw [hg]; exact Nat.ne_of_lt (bkl_ BK283.out) : gb283 ≠ gb292))
            have n14_ := Aside0.mk ((by rw [hg]; exact Nat.ne_of_gt (bkl_ BK283.out) : gb292 ≠ gb283))
            clear HO277
            clear HO286
            clear BK262
            clear BK271
            clear BK283
            clear HB
            have HO277 := n0_
            have HO286 := n1_
            have BK262 := n2_
            have BK271 := n3_
            have BK283 := n4_
            have HB := n5_
            have BK292 := n6_
            have GW292 := n7_
            have GE292 := n8_
            have NB262_292 := n9_
            have NB292_262 := n10_
            have NB271_292 := n11_
            have NB292_271 := n12_
            have NB283_292 := n13_
            have NB292_283 := n14_
            clear n0_ n1_ n2_ n3_ n4_ n5_ n6_ n7_ n8_ n9_ n10_ n11_ n12_ n13_ n14_
            clear hb hbox hg
            refine hK.out _ _ ⟨(blk_cell BK271.out 0).trans rfl, (blk_cell BK271.out 1).trans rfl⟩ (fun hHeld => ?_)
            clear hK K
            refine norm_ (a' := ?_) ?_ ?_
            rotate_left
            ·show Act.put _ (some 20) _ = _
             simp only [Act.put, List.setIfInBounds_toArray, List.set_cons_zero, List.set_cons_succ, i64_w, i32_w]
             rfl
            exact norm_ (by simp only [putAll, Act.put, List.setIfInBounds_toArray, List.set_cons_zero, List.set_cons_succ]) (hCont (.slice Ao51 t284.length co51, gb292) _ ⟨hHeld, (by (with_reducible repeat (first | apply Kd.R_alloc | apply Kd.R_drewN | apply Kd.R_drew)); exact Kd.R_mono HO277.out (fun _ hk => hk.2)), (by (with_reducible repeat (first | apply Kd.R_alloc | apply Kd.R_drewN | apply Kd.R_drew)); exact Kd.R_mono HO286.out (fun _ hk => hk.2)), (bk_ BK262.out), (bk_ BK271.out), (bk_ BK283.out), (bk_ BK292.out), GW292.out, GE292.out, NB262_292.out, NB292_262.out, NB271_292.out, NB292_271.out, NB283_292.out, NB292_283.out, (hb_ HB.out)⟩)
           ·skip
            refine box_step ?hg (N := 20) ?hd (cs := #[.int .i64 0, .int .i64 0]) (t := 23) ?hr ?_; (case hd => rfl); (case hg => rfl); (case hr => first | (go_simp; done) | (go_simp; rfl))
            intro gb292 hg w51 hbox hb
            have n0_ := Aside0.mk (Kd.R_below (kr_ (HO277.out)) hb)
            have n1_ := Aside0.mk (Kd.R_below (kr_ (HO286.out)) hb)
            have n2_ := Aside0.mk (bkb_ BK262.out hb)
            have n3_ := Aside0.mk (bkb_ BK271.out hb)
            have n4_ := Aside0.mk (bkb_ BK283.out hb)
            have n5_ := Aside0.mk (below_step (hb_ HB.out) hb)
            have n6_ := Aside0.mk (hbox)
            have n7_ := Aside0.mk ((by rw [hg]; exact (below_size (hb_ HB.out)) : w.heap.size ≤ gb292))
            have n8_ := Aside0.mk ((by rw [hg]; exact (below_size (hb_ HB.out)) : w.heap.size ≤ gb292))
            have n9_ := Aside0.mk ((by rw [hg]; exact Nat.ne_of_lt (bkl_ BK262.out) : gb262 ≠ gb292))
            have n10_ := Aside0.mk ((by rw [hg]; exact Nat.ne_of_gt (bkl_ BK262.out) : gb292 ≠ gb262))
            have n11_ := Aside0.mk ((by rw [hg]; exact Nat.ne_of_lt (bkl_ BK271.out) : gb271 ≠ gb292))
            have n12_ := Aside0.mk ((by rw [hg]; exact Nat.ne_of_gt (bkl_ BK271.out) : gb292 ≠ gb271))
            have n13_ := Aside0.mk ((by rw [hg]; exact Nat.ne_of_lt (bkl_ BK283.out) : gb283 ≠ gb292))
            have n14_ := Aside0.mk ((by rw [hg]; exact Nat.ne_of_gt (bkl_ BK283.out) : gb292 ≠ gb283))
            clear HO277
            clear HO286
            clear BK262
            clear BK271
            clear BK283
            clear HB
            have HO277 := n0_
            have HO286 := n1_
            have BK262 := n2_
            have BK271 := n3_
            have BK283 := n4_
            have HB := n5_
            have BK292 := n6_
            have GW292 := n7_
            have GE292 := n8_
            have NB262_292 := n9_
            have NB292_262 := n10_
            have NB271_292 := n11_
            have NB292_271 := n12_
            have NB283_292 := n13_
            have NB292_283 := n14_
            clear n0_ n1_ n2_ n3_ n4_ n5_ n6_ n7_ n8_ n9_ n10_ n11_ n12_ n13_ n14_
            clear hb hbox hg
            obtain ⟨Ao52, co52, eo52⟩ := Kd.R_slice HO286.out
            (first | subst eo52 | (injection eo52 with f1_ f2_ f3_; have f4_ := f1_.symm; have f5_ := f3_.symm; clear f1_ f2_ f3_; subst f4_; subst f5_))
            refine hK.out _ _ ⟨(blk_cell BK271.out 0).trans rfl, (blk_cell BK271.out 1).trans rfl⟩ (fun hHeld => ?_)
            clear hK K
            refine norm_ (a' := ?_) ?_ ?_
            rotate_left
            ·show Act.put _ (some 20) _ = _
             simp only [Act.put, List.setIfInBounds_toArray, List.set_cons_zero, List.set_cons_succ, i64_w, i32_w]
             rfl
            refine one_ (i := 4) (N := some 86) #[true, true, true, true, true, false, false, false, false, false, true, false, false, false, false] rfl rfl (one_of HT_.out (by kernel_rfl)) (by decide) (fun K hK => ?_)
            refine goes_ Try.func10 (by kernel_rfl) rfl #[.slice Ao52 t284.length co52, .agg #[.int .i64 (wrap64 (a1_0 + (wrap64 (Int.tmod (IntKind.u64.wrap (a3)) 20)))), .int .i64 a1_1], .int .i64 x68_2] (by rfl) rfl rfl al_ ?_
            with_reducible refine (tags_Go.calls k2 _ _ t284 (wrap64 (a1_0 + (wrap64 (Int.tmod (IntKind.u64.wrap (a3)) 20)))) a1_1 x68_2 t287 t288 t289 t290 t291 _ ?side1 ?side2 A38.out).mono ?_
            (case side1 => exact kc_ (Kd.R_reads' HO286.out).2.2)
            (case side2 => exact (Kd.R_reads' HO286.out).2.1)
            rintro e w53 ⟨rfl, hb⟩
            refine ⟨_, rfl, ?_⟩
            have n0_ := Aside0.mk (Kd.R_below (kr_ (HO277.out)) hb)
            have n1_ := Aside0.mk (Kd.R_below (kr_ (HO286.out)) hb)
            have n2_ := Aside0.mk (bkb_ BK262.out hb)
            have n3_ := Aside0.mk (bkb_ BK271.out hb)
            have n4_ := Aside0.mk (bkb_ BK283.out hb)
            have n5_ := Aside0.mk (bkb_ BK292.out hb)
            have n6_ := Aside0.mk (below_step (hb_ HB.out) hb)
            clear HO277
            clear HO286
            clear BK262
            clear BK271
            clear BK283
            clear BK292
            clear HB
            have HO277 := n0_
            have HO286 := n1_
            have BK262 := n2_
            have BK271 := n3_
            have BK283 := n4_
            have BK292 := n5_
            have HB := n6_
            clear n0_ n1_ n2_ n3_ n4_ n5_ n6_
            (try clear hb)
            (try clear hb2)
            (try clear hk)
            (try clear hi)
            refine hK.out _ _ ⟨(blk_cell BK271.out 0).trans rfl, (blk_cell BK271.out 1).trans rfl⟩ (fun hHeld => ?_)
            clear hK K
            refine norm_ (a' := ?_) ?_ ?_
            rotate_left
            ·show Act.put _ (some 86) _ = _
             simp only [Act.put, List.setIfInBounds_toArray, List.set_cons_zero, List.set_cons_succ, i64_w, i32_w]
             rfl
            refine pure_ (i := 5) (N := some 81) (v := ?_) (a' := ?_) #[true, true, true, true, true, true, false, false, false, false, true, false, false, false, false] rfl rfl (any_of HT_.out (by kernel_rfl)) (fun _ _ _ h => h) (Or.inl ⟨by rfl, ?_⟩) ?_ ?_
            rotate_left
            ·intro w'
             go_simp
             with_reducible rfl
            rotate_left
            ·simp only [Act.put, List.setIfInBounds_toArray, List.set_cons_zero, List.set_cons_succ, i64_w, i32_w]
             rfl
            refine pure_ (i := 6) (N := some 87) (v := ?_) (a' := ?_) #[true, true, true, true, true, true, true, false, false, false, true, false, false, false, false] rfl rfl (any_of HT_.out (by kernel_rfl)) (fun _ _ _ h => h) (Or.inl ⟨by rfl, ?_⟩) ?_ ?_
            rotate_left
            ·intro w'
             go_simp
             with_reducible rfl
            rotate_left
            ·simp only [Act.put, List.setIfInBounds_toArray, List.set_cons_zero, List.set_cons_succ, i64_w, i32_w]
             rfl
            refine pure_ (i := 7) (N := some 88) (v := ?_) (a' := ?_) #[true, true, true, true, true, true, true, true, false, false, true, false, false, false, false] rfl rfl (any_of HT_.out (by kernel_rfl)) (fun _ _ _ h => h) (Or.inl ⟨by rfl, ?_⟩) ?_ ?_
            rotate_left
            ·intro w'
             go_simp
             with_reducible rfl
            rotate_left
            ·simp only [Act.put, List.setIfInBounds_toArray, List.set_cons_zero, List.set_cons_succ, i64_w, i32_w]
             rfl
            refine pure_ (i := 8) (N := some 89) (v := ?_) (a' := ?_) #[true, true, true, true, true, true, true, true, true, false, true, false, false, false, false] rfl rfl (any_of HT_.out (by kernel_rfl)) (fun _ _ _ h => h) (Or.inl ⟨by rfl, ?_⟩) ?_ ?_
            rotate_left
            ·intro w'
             go_simp
             with_reducible rfl
            rotate_left
            ·simp only [Act.put, List.setIfInBounds_toArray, List.set_cons_zero, List.set_cons_succ, i64_w, i32_w]
             rfl
            refine pure_ (i := 9) (N := some 90) (v := ?_) (a' := ?_) #[true, true, true, true, true, true, true, true, true, true, true, false, false, false, false] rfl rfl (any_of HT_.out (by kernel_rfl)) (fun _ _ _ h => h) (Or.inl ⟨by rfl, ?_⟩) ?_ ?_
            rotate_left
            ·intro w'
             go_simp
             with_reducible rfl
            rotate_left
            ·simp only [Act.put, List.setIfInBounds_toArray, List.set_cons_zero, List.set_cons_succ, i64_w, i32_w]
             rfl
            exact norm_ (by simp only [putAll, Act.put, List.setIfInBounds_toArray, List.set_cons_zero, List.set_cons_succ]) (hCont (.slice Ao52 t284.length co52, gb292) _ ⟨hHeld, (by (with_reducible repeat (first | apply Kd.R_alloc | apply Kd.R_drewN | apply Kd.R_drew)); exact Kd.R_mono HO277.out (fun _ hk => hk.2)), (by (with_reducible repeat (first | apply Kd.R_alloc | apply Kd.R_drewN | apply Kd.R_drew)); exact Kd.R_mono HO286.out (fun _ hk => hk.2)), (bk_ BK262.out), (bk_ BK271.out), (bk_ BK283.out), (bk_ BK292.out), GW292.out, GE292.out, NB262_292.out, NB292_262.out, NB271_292.out, NB292_271.out, NB283_292.out, NB292_283.out, (hb_ HB.out)⟩)
          ·skip
           refine box_step ?hg (N := 20) ?hd (cs := #[.int .i64 0, .int .i64 0]) (t := 23) ?hr ?_; (case hd => rfl); (case hg => rfl); (case hr => first | (go_simp; done) | (go_simp; rfl))
           intro gb292 hg w50 hbox hb
           have n0_ := Aside0.mk (Kd.R_below (kr_ (HO277.out)) hb)
           have n1_ := Aside0.mk (bkb_ BK262.out hb)
           have n2_ := Aside0.mk (bkb_ BK271.out hb)
           have n3_ := Aside0.mk (bkb_ BK283.out hb)
           have n4_ := Aside0.mk (below_step (hb_ HB.out) hb)
           have n5_ := Aside0.mk (hbox)
           have n6_ := Aside0.mk ((by rw [hg]; exact (below_size (hb_ HB.out)) : w.heap.size ≤ gb292))
           have n7_ := Aside0.mk ((by rw [hg]; exact (below_size (hb_ HB.out)) : w.heap.size ≤ gb292))
           have n8_ := Aside0.mk ((by rw [hg]; exact Nat.ne_of_lt (bkl_ BK262.out) : gb262 ≠ gb292))
           have n9_ := Aside0.mk ((by rw [hg]; exact Nat.ne_of_gt (bkl_ BK262.out) : gb292 ≠ gb262))
           have n10_ := Aside0.mk ((by rw [hg]; exact Nat.ne_of_lt (bkl_ BK271.out) : gb271 ≠ gb292))
           have n11_ := Aside0.mk ((by rw [hg]; exact Nat.ne_of_gt (bkl_ BK271.out) : gb292 ≠ gb271))
           have n12_ := Aside0.mk ((by rw [hg]; exact Nat.ne_of_lt (bkl_ BK283.out) : gb283 ≠ gb292))
           have n13_ := Aside0.mk ((by rw [hg]; exact Nat.ne_of_gt (bkl_ BK283.out) : gb292 ≠ gb283))
           clear HO277
           clear BK262
           clear BK271
           clear BK283
           clear HB
           have HO277 := n0_
           have BK262 := n1_
           have BK271 := n2_
           have BK283 := n3_
           have HB := n4_
           have BK292 := n5_
           have GW292 := n6_
           have GE292 := n7_
           have NB262_292 := n8_
           have NB292_262 := n9_
           have NB271_292 := n10_
           have NB292_271 := n11_
           have NB283_292 := n12_
           have NB292_283 := n13_
           clear n0_ n1_ n2_ n3_ n4_ n5_ n6_ n7_ n8_ n9_ n10_ n11_ n12_ n13_
           clear hb hbox hg
           refine hK.out _ _ ⟨(blk_cell BK271.out 0).trans rfl, (blk_cell BK271.out 1).trans rfl⟩ (fun hHeld => ?_)
           clear hK K
           refine norm_ (a' := ?_) ?_ ?_
           rotate_left
           ·show Act.put _ (some 20) _ = _
            simp only [Act.put, List.setIfInBounds_toArray, List.set_cons_zero, List.set_cons_succ, i64_w, i32_w]
            rfl
           refine one_ (i := 1) (N := some 83) #[true, true, true, true, false, false, false, false, false, false, true, false, false, false, false] rfl rfl (one_of HT_.out (by kernel_rfl)) (by decide) (fun K hK => ?_)
           refine goes_ Try.func11 (by kernel_rfl) rfl #[.slice A0 l0.length c0] (by rfl) rfl rfl al_ ?_
           with_reducible refine (comfitlaw06_Of.calls k2 _ _ l0 t284 _ ?side1 ?side2 A37.out).mono ?_
           (case side1 => exact kc_ (Kd.C_below HR0.out HB.out))
           (case side2 => exact HC0.out)
           rintro e w51 ⟨v285, rfl, ho0, hb⟩
           refine ⟨_, rfl, ?_⟩
           have n0_ := Aside0.mk (Kd.R_elder' (kr_ (HO277.out)) (Kd.R_base ho0) hb)
           have n1_ := Aside0.mk (Kd.R_lower (Kd.R_new' ho0 (Kd.R_lt (kr_ (HO277.out)))) (below_size (hb_ HB.out)))
           have n2_ := Aside0.mk (bkb_ BK262.out hb)
           have n3_ := Aside0.mk (bkb_ BK271.out hb)
           have n4_ := Aside0.mk (bkb_ BK283.out hb)
           have n5_ := Aside0.mk (bkb_ BK292.out hb)
           have n6_ := Aside0.mk (below_step (hb_ HB.out) hb)
           clear HO277
           clear BK262
           clear BK271
           clear BK283
           clear BK292
           clear HB
           have HO277 := n0_
           have HO286 := n1_
           have BK262 := n2_
           have BK271 := n3_
           have BK283 := n4_
           have BK292 := n5_
           have HB := n6_
           clear n0_ n1_ n2_ n3_ n4_ n5_ n6_
           (try clear hb)
           (try clear hb2)
           (try clear hk)
           (try clear hi)
           (try clear ho0)
           obtain ⟨Ao52, co52, eo52⟩ := Kd.R_slice HO286.out
           (first | subst eo52 | (injection eo52 with f1_ f2_ f3_; have f4_ := f1_.symm; have f5_ := f3_.symm; clear f1_ f2_ f3_; subst f4_; subst f5_))
           refine hK.out _ _ ⟨(blk_cell BK271.out 0).trans rfl, (blk_cell BK271.out 1).trans rfl⟩ (fun hHeld => ?_)
           clear hK K
           refine norm_ (a' := ?_) ?_ ?_
           rotate_left
           ·show Act.put _ (some 83) _ = _
            simp only [Act.put, List.setIfInBounds_toArray, List.set_cons_zero, List.set_cons_succ, i64_w, i32_w]
            rfl
           refine one_ (i := 4) (N := some 86) #[true, true, true, true, true, false, false, false, false, false, true, false, false, false, false] rfl rfl (one_of HT_.out (by kernel_rfl)) (by decide) (fun K hK => ?_)
           refine goes_ Try.func10 (by kernel_rfl) rfl #[.slice Ao52 t284.length co52, .agg #[.int .i64 (wrap64 (a1_0 + (wrap64 (Int.tmod (IntKind.u64.wrap (a3)) 20)))), .int .i64 a1_1], .int .i64 x68_2] (by rfl) rfl rfl al_ ?_
           with_reducible refine (tags_Go.calls k2 _ _ t284 (wrap64 (a1_0 + (wrap64 (Int.tmod (IntKind.u64.wrap (a3)) 20)))) a1_1 x68_2 t287 t288 t289 t290 t291 _ ?side1 ?side2 A38.out).mono ?_
           (case side1 => exact kc_ (Kd.R_reads' HO286.out).2.2)
           (case side2 => exact (Kd.R_reads' HO286.out).2.1)
           rintro e w53 ⟨rfl, hb⟩
           refine ⟨_, rfl, ?_⟩
           have n0_ := Aside0.mk (Kd.R_below (kr_ (HO277.out)) hb)
           have n1_ := Aside0.mk (Kd.R_below (kr_ (HO286.out)) hb)
           have n2_ := Aside0.mk (bkb_ BK262.out hb)
           have n3_ := Aside0.mk (bkb_ BK271.out hb)
           have n4_ := Aside0.mk (bkb_ BK283.out hb)
           have n5_ := Aside0.mk (bkb_ BK292.out hb)
           have n6_ := Aside0.mk (below_step (hb_ HB.out) hb)
           clear HO277
           clear HO286
           clear BK262
           clear BK271
           clear BK283
           clear BK292
           clear HB
           have HO277 := n0_
           have HO286 := n1_
           have BK262 := n2_
           have BK271 := n3_
           have BK283 := n4_
           have BK292 := n5_
           have HB := n6_
           clear n0_ n1_ n2_ n3_ n4_ n5_ n6_
           (try clear hb)
           (try clear hb2)
           (try clear hk)
           (try clear hi)
           refine hK.out _ _ ⟨(blk_cell BK271.out 0).trans rfl, (blk_cell BK271.out 1).trans rfl⟩ (fun hHeld => ?_)
           clear hK K
           refine norm_ (a' := ?_) ?_ ?_
           rotate_left
           ·show Act.put _ (some 86) _ = _
            simp only [Act.put, List.setIfInBounds_toArray, List.set_cons_zero, List.set_cons_succ, i64_w, i32_w]
            rfl
           refine pure_ (i := 5) (N := some 81) (v := ?_) (a' := ?_) #[true, true, true, true, true, true, false, false, false, false, true, false, false, false, false] rfl rfl (any_of HT_.out (by kernel_rfl)) (fun _ _ _ h => h) (Or.inl ⟨by rfl, ?_⟩) ?_ ?_
           rotate_left
           ·intro w'
            go_simp
            with_reducible rfl
           rotate_left
           ·simp only [Act.put, List.setIfInBounds_toArray, List.set_cons_zero, List.set_cons_succ, i64_w, i32_w]
            rfl
           refine pure_ (i := 6) (N := some 87) (v := ?_) (a' := ?_) #[true, true, true, true, true, true, true, false, false, false, true, false, false, false, false] rfl rfl (any_of HT_.out (by kernel_rfl)) (fun _ _ _ h => h) (Or.inl ⟨by rfl, ?_⟩) ?_ ?_
           rotate_left
           ·intro w'
            go_simp
            with_reducible rfl
           rotate_left
           ·simp only [Act.put, List.setIfInBounds_toArray, List.set_cons_zero, List.set_cons_succ, i64_w, i32_w]
            rfl
           refine pure_ (i := 7) (N := some 88) (v := ?_) (a' := ?_) #[true, true, true, true, true, true, true, true, false, false, true, false, false, false, false] rfl rfl (any_of HT_.out (by kernel_rfl)) (fun _ _ _ h => h) (Or.inl ⟨by rfl, ?_⟩) ?_ ?_
           rotate_left
           ·intro w'
            go_simp
            with_reducible rfl
           rotate_left
           ·simp only [Act.put, List.setIfInBounds_toArray, List.set_cons_zero, List.set_cons_succ, i64_w, i32_w]
            rfl
           refine pure_ (i := 8) (N := some 89) (v := ?_) (a' := ?_) #[true, true, true, true, true, true, true, true, true, false, true, false, false, false, false] rfl rfl (any_of HT_.out (by kernel_rfl)) (fun _ _ _ h => h) (Or.inl ⟨by rfl, ?_⟩) ?_ ?_
           rotate_left
           ·intro w'
            go_simp
            with_reducible rfl
           rotate_left
           ·simp only [Act.put, List.setIfInBounds_toArray, List.set_cons_zero, List.set_cons_succ, i64_w, i32_w]
            rfl
           refine pure_ (i := 9) (N := some 90) (v := ?_) (a' := ?_) #[true, true, true, true, true, true, true, true, true, true, true, false, false, false, false] rfl rfl (any_of HT_.out (by kernel_rfl)) (fun _ _ _ h => h) (Or.inl ⟨by rfl, ?_⟩) ?_ ?_
           rotate_left
           ·intro w'
            go_simp
            with_reducible rfl
           rotate_left
           ·simp only [Act.put, List.setIfInBounds_toArray, List.set_cons_zero, List.set_cons_succ, i64_w, i32_w]
            rfl
           exact norm_ (by simp only [putAll, Act.put, List.setIfInBounds_toArray, List.set_cons_zero, List.set_cons_succ]) (hCont (.slice Ao52 t284.length co52, gb292) _ ⟨hHeld, (by (with_reducible repeat (first | apply Kd.R_alloc | apply Kd.R_drewN | apply Kd.R_drew)); exact Kd.R_mono HO277.out (fun _ hk => hk.2)), (by (with_reducible repeat (first | apply Kd.R_alloc | apply Kd.R_drewN | apply Kd.R_drew)); exact Kd.R_mono HO286.out (fun _ hk => hk.2)), (bk_ BK262.out), (bk_ BK271.out), (bk_ BK283.out), (bk_ BK292.out), GW292.out, GE292.out, NB262_292.out, NB292_262.out, NB271_292.out, NB292_271.out, NB283_292.out, NB292_283.out, (hb_ HB.out)⟩)
         rintro ⟨v285, gb292⟩ w54 ⟨hS_, h0_, h1_, h2_, h3_, h4_, h5_, h6_, h7_, h8_, h9_, h10_, h11_, h12_, h13_, h14_⟩
         have n0_ : Aside0 (Kd.R k57 57 w54 w.heap.size (fun k_ => some k_ ≠ (v285 : Value).ownBlock) v276 t275) := ⟨h0_⟩
         have n1_ : Aside0 (Kd.R k57 57 w54 w.heap.size (fun k_ => some k_ ≠ (v276 : Value).ownBlock) v285 t284) := ⟨h1_⟩
         have n2_ : Aside0 (w54.heap[gb262]? = some (.cells #[.int .i64 a1_0, .int .i64 a1_1] 23 (0, 0))) := ⟨h2_⟩
         have n3_ : Aside0 (w54.heap[gb271]? = some (.cells #[.int .i64 (wrap64 (a1_0 + (wrap64 (Int.tmod (IntKind.u64.wrap (a3)) 20)))), .int .i64 a1_1] 23 (0, 0))) := ⟨h3_⟩
         have n4_ : Aside0 (w54.heap[gb283]? = some (.cells #[.int .i64 t279, .int .i64 t280] 23 (0, 0))) := ⟨h4_⟩
         have n5_ : Aside0 (w54.heap[gb292]? = some (.cells #[.int .i64 0, .int .i64 0] 23 (0, 0))) := ⟨h5_⟩
         have n6_ : Aside0 (w.heap.size ≤ gb292) := ⟨h6_⟩
         have n7_ : Aside0 (w.heap.size ≤ gb292) := ⟨h7_⟩
         have n8_ : Aside0 (gb262 ≠ gb292) := ⟨h8_⟩
         have n9_ : Aside0 (gb292 ≠ gb262) := ⟨h9_⟩
         have n10_ : Aside0 (gb271 ≠ gb292) := ⟨h10_⟩
         have n11_ : Aside0 (gb292 ≠ gb271) := ⟨h11_⟩
         have n12_ : Aside0 (gb283 ≠ gb292) := ⟨h12_⟩
         have n13_ : Aside0 (gb292 ≠ gb283) := ⟨h13_⟩
         have n14_ : Aside0 (Below w.heap.size w w54) := ⟨h14_⟩
         clear HO277
         clear BK262
         clear BK271
         clear BK283
         clear HB
         clear h0_ h1_ h2_ h3_ h4_ h5_ h6_ h7_ h8_ h9_ h10_ h11_ h12_ h13_ h14_
         have HO277 := n0_
         have HO286 := n1_
         have BK262 := n2_
         have BK271 := n3_
         have BK283 := n4_
         have BK292 := n5_
         have GW292 := n6_
         have GE292 := n7_
         have NB262_292 := n8_
         have NB292_262 := n9_
         have NB271_292 := n10_
         have NB292_271 := n11_
         have NB283_292 := n12_
         have NB292_283 := n13_
         have HB := n14_
         clear n0_ n1_ n2_ n3_ n4_ n5_ n6_ n7_ n8_ n9_ n10_ n11_ n12_ n13_ n14_
         have hHeld : w54.cell? ⟨gb271, 0, none⟩ = some (.int .i64 (wrap64 (a1_0 + (wrap64 (Int.tmod (IntKind.u64.wrap (a3)) 20))))) ∧ w54.cell? ⟨gb271, 1, none⟩ = some (.int .i64 a1_1) := hS_
         refine norm_ (a' := ?_) ?_ ?_
         rotate_left
         ·simp only [putAll, Act.put, List.setIfInBounds_toArray, List.set_cons_zero, List.set_cons_succ]
          rfl
         refine pure_ (i := 11) (N := some 19) (v := ?_) (a' := ?_) #[true, true, true, true, true, true, true, true, true, true, true, true, false, false, false] rfl rfl (any_of HT_.out (by kernel_rfl)) (fun _ _ _ h => h) (Or.inl ⟨by rfl, ?_⟩) ?_ ?_
         rotate_left
         ·intro w'
          go_simp
          with_reducible rfl
         rotate_left
         ·simp only [Act.put, List.setIfInBounds_toArray, List.set_cons_zero, List.set_cons_succ, i64_w, i32_w]
          rfl
         refine one_ (i := 12) (N := none) #[true, true, true, true, true, true, true, true, true, true, true, true, true, false, false] rfl rfl (one_of HT_.out (by kernel_rfl)) (by decide) (fun K hK => ?_)
         have hs55 : w54.cell? ⟨gb292, 0, none⟩ = some (.int .i64 0) := (blk_cell BK292.out 0).trans rfl
         have hfs55 := blk_frozen BK292.out 0
         have hns55_0 := NB262_292.out
         have hns55_1 := NB271_292.out
         have hns55_2 := NB283_292.out
         have hms55_0 := NB292_262.out
         have hms55_1 := NB292_271.out
         have hms55_2 := NB292_283.out
         have hs56 : w54.cell? ⟨gb292, 1, none⟩ = some (.int .i64 0) := (blk_cell BK292.out 1).trans rfl
         have hfs56 := blk_frozen BK292.out 1
         have hns56_0 := NB262_292.out
         have hns56_1 := NB271_292.out
         have hns56_2 := NB283_292.out
         have hms56_0 := NB292_262.out
         have hms56_1 := NB292_271.out
         have hms56_2 := NB292_283.out
         refine skip_ (w1 := ?_) (by rfl) rfl ?_ ?_
         rotate_left
         ·go_simp
          rfl
         refine hK.out _ _ ⟨((cell_far (p := ⟨gb292, _, none⟩) NB271_292.out _).trans (((cell_far (p := ⟨gb292, _, none⟩) NB271_292.out _).trans (hHeld.1)))), ((cell_far (p := ⟨gb292, _, none⟩) NB271_292.out _).trans (((cell_far (p := ⟨gb292, _, none⟩) NB271_292.out _).trans (hHeld.2))))⟩ (fun hHeld => ?_)
         clear hK K
         refine pure_ (i := 13) (N := some 21) (v := ?_) (a' := ?_) #[true, true, true, true, true, true, true, true, true, true, true, true, true, true, false] rfl rfl (any_of HT_.out (by kernel_rfl)) (fun _ _ _ h => h) (Or.inl ⟨by rfl, ?_⟩) ?_ ?_
         rotate_left
         ·intro w'
          go_simp
          with_reducible rfl
         rotate_left
         ·simp only [Act.put, List.setIfInBounds_toArray, List.set_cons_zero, List.set_cons_succ, i64_w, i32_w]
          rfl
         refine pure_ (i := 14) (N := some 22) (v := ?_) (a' := ?_) #[true, true, true, true, true, true, true, true, true, true, true, true, true, true, true] rfl rfl (any_of HT_.out (by kernel_rfl)) (fun _ _ _ h => h) (Or.inl ⟨by rfl, ?_⟩) ?_ ?_
         rotate_left
         ·intro w'
          go_simp
          with_reducible rfl
         rotate_left
         ·simp only [Act.put, List.setIfInBounds_toArray, List.set_cons_zero, List.set_cons_succ, i64_w, i32_w]
          rfl
         refine done_ (done_of HT_.out (by kernel_rfl)) ?_
         go_upto_region 14 with (fail)
         go_cut [106] (fun v106 wc => ∃ (kq : Nat) (x106_38 : Bool), v106 = .bool x106_38 ∧ Aside0 (j2 kq l0 0 (wrap64 (Int.tmod (IntKind.u64.wrap (a3)) 20)) t278 t281 t287 t290 (wrap64 ((wrap64 (Int.tmod (IntKind.u64.wrap (a4)) 60)) + 1)) x68_2 x106_38 a1_0 a1_1 (wrap64 (a1_0 + (wrap64 (Int.tmod (IntKind.u64.wrap (a3)) 20)))) a1_1 t279 t280 t288 t289 = some r) ∧ Aside0 (kq ≤ k2) ∧ Aside0 (wc.heap[gb262]? = some (.cells #[.int .i64 a1_0, .int .i64 a1_1] 23 (0, 0))) ∧ Aside0 (wc.heap[gb271]? = some (.cells #[.int .i64 (wrap64 (a1_0 + (wrap64 (Int.tmod (IntKind.u64.wrap (a3)) 20)))), .int .i64 a1_1] 23 (0, 0))) ∧ Aside0 (wc.heap[gb283]? = some (.cells #[.int .i64 t279, .int .i64 t280] 23 (0, 0))) ∧ Aside0 (wc.heap[gb292]? = some (.cells #[.int .i64 t288, .int .i64 t289] 23 (0, 0))) ∧ Aside0 (Below w.heap.size w wc))
         case first =>
          have H := HC39.out
          clear HC39
          by_cases c57 : t282 = 0
          ·rw [if_pos c57] at H
           have c57b0 : (t282 == 0) = true := beq_iff_eq.mpr c57
           have c57b1 : (t282 != 0) = false := bne_eq_false_iff_eq.mpr c57
           clear c57
           (first | rw [c57b0] | (simp only [i64_w, i32_w]; rw [c57b0]) | skip)
           by_cases c58 : t291 = 0
           ·rw [if_pos c58] at H
            have c58b0 : (t291 == 0) = true := beq_iff_eq.mpr c58
            have c58b1 : (t291 != 0) = false := bne_eq_false_iff_eq.mpr c58
            clear c58
            by_cases c59 : t278 < 0
            ·rw [if_pos c59] at H
             have c59b0 : decide (t278 < 0) = true := decide_eq_true c59
             clear c59
             as_aux_lemma =>
              have H' := Aside0.mk H
              clear H
              go_wp2
              go_meet
              case rel => (try rw [← Niq25.out]); exact ⟨_, (true), sr_, H', ⟨by have := HJ5.out; have := HK2.out; first | omega | exact Nat.le_refl _⟩, ⟨by (with_reducible repeat (first | refine blk_drewN ?_ _ | refine blk_drew ?_ | refine blk_alloc ?_ _)); refine blk_far ?_ NB262_292.out _; (with_reducible repeat (first | refine blk_drewN ?_ _ | refine blk_drew ?_ | refine blk_alloc ?_ _)); refine blk_far ?_ NB262_292.out _; (with_reducible repeat (first | refine blk_drewN ?_ _ | refine blk_drew ?_ | refine blk_alloc ?_ _)); exact BK262.out⟩, ⟨by (with_reducible repeat (first | refine blk_drewN ?_ _ | refine blk_drew ?_ | refine blk_alloc ?_ _)); refine blk_far ?_ NB271_292.out _; (with_reducible repeat (first | refine blk_drewN ?_ _ | refine blk_drew ?_ | refine blk_alloc ?_ _)); refine blk_far ?_ NB271_292.out _; (with_reducible repeat (first | refine blk_drewN ?_ _ | refine blk_drew ?_ | refine blk_alloc ?_ _)); exact BK271.out⟩, ⟨by (with_reducible repeat (first | refine blk_drewN ?_ _ | refine blk_drew ?_ | refine blk_alloc ?_ _)); refine blk_far ?_ NB283_292.out _; (with_reducible repeat (first | refine blk_drewN ?_ _ | refine blk_drew ?_ | refine blk_alloc ?_ _)); refine blk_far ?_ NB283_292.out _; (with_reducible repeat (first | refine blk_drewN ?_ _ | refine blk_drew ?_ | refine blk_alloc ?_ _)); exact BK283.out⟩, ⟨by (with_reducible repeat (first | refine blk_drewN ?_ _ | refine blk_drew ?_ | refine blk_alloc ?_ _)); refine blk_put (cs := #[.int .i64 t288, .int .i64 0]) ?_ 1 _ rfl; (with_reducible repeat (first | refine blk_drewN ?_ _ | refine blk_drew ?_ | refine blk_alloc ?_ _)); refine blk_put (cs := #[.int .i64 0, .int .i64 0]) ?_ 0 _ rfl; (with_reducible repeat (first | refine blk_drewN ?_ _ | refine blk_drew ?_ | refine blk_alloc ?_ _)); exact BK292.out⟩, ⟨hb_ HB.out⟩⟩
            rw [if_neg c59] at H
            have c59b0 : decide (t278 < 0) = false := decide_eq_false c59
            clear c59
            as_aux_lemma =>
             have H' := Aside0.mk H
             clear H
             go_wp2
             go_meet
             case rel => (try rw [← Niq25.out]); exact ⟨_, (decide (t278 ≥ (l0.length : Int))), sr_, H', ⟨by have := HJ5.out; have := HK2.out; first | omega | exact Nat.le_refl _⟩, ⟨by (with_reducible repeat (first | refine blk_drewN ?_ _ | refine blk_drew ?_ | refine blk_alloc ?_ _)); refine blk_far ?_ NB262_292.out _; (with_reducible repeat (first | refine blk_drewN ?_ _ | refine blk_drew ?_ | refine blk_alloc ?_ _)); refine blk_far ?_ NB262_292.out _; (with_reducible repeat (first | refine blk_drewN ?_ _ | refine blk_drew ?_ | refine blk_alloc ?_ _)); exact BK262.out⟩, ⟨by (with_reducible repeat (first | refine blk_drewN ?_ _ | refine blk_drew ?_ | refine blk_alloc ?_ _)); refine blk_far ?_ NB271_292.out _; (with_reducible repeat (first | refine blk_drewN ?_ _ | refine blk_drew ?_ | refine blk_alloc ?_ _)); refine blk_far ?_ NB271_292.out _; (with_reducible repeat (first | refine blk_drewN ?_ _ | refine blk_drew ?_ | refine blk_alloc ?_ _)); exact BK271.out⟩, ⟨by (with_reducible repeat (first | refine blk_drewN ?_ _ | refine blk_drew ?_ | refine blk_alloc ?_ _)); refine blk_far ?_ NB283_292.out _; (with_reducible repeat (first | refine blk_drewN ?_ _ | refine blk_drew ?_ | refine blk_alloc ?_ _)); refine blk_far ?_ NB283_292.out _; (with_reducible repeat (first | refine blk_drewN ?_ _ | refine blk_drew ?_ | refine blk_alloc ?_ _)); exact BK283.out⟩, ⟨by (with_reducible repeat (first | refine blk_drewN ?_ _ | refine blk_drew ?_ | refine blk_alloc ?_ _)); refine blk_put (cs := #[.int .i64 t288, .int .i64 0]) ?_ 1 _ rfl; (with_reducible repeat (first | refine blk_drewN ?_ _ | refine blk_drew ?_ | refine blk_alloc ?_ _)); refine blk_put (cs := #[.int .i64 0, .int .i64 0]) ?_ 0 _ rfl; (with_reducible repeat (first | refine blk_drewN ?_ _ | refine blk_drew ?_ | refine blk_alloc ?_ _)); exact BK292.out⟩, ⟨hb_ HB.out⟩⟩
           rw [if_neg c58] at H
           have c58b0 : (t291 == 0) = false := beq_eq_false_iff_ne.mpr c58
           have c58b1 : (t291 != 0) = true := bne_iff_ne.mpr c58
           as_aux_lemma =>
            have H' := Aside0.mk H
            clear H
            go_wp2
            go_meet
            case rel => (try rw [← Niq25.out]); exact ⟨_, (true), sr_, H', ⟨by have := HJ5.out; have := HK2.out; first | omega | exact Nat.le_refl _⟩, ⟨by (with_reducible repeat (first | refine blk_drewN ?_ _ | refine blk_drew ?_ | refine blk_alloc ?_ _)); refine blk_far ?_ NB262_292.out _; (with_reducible repeat (first | refine blk_drewN ?_ _ | refine blk_drew ?_ | refine blk_alloc ?_ _)); refine blk_far ?_ NB262_292.out _; (with_reducible repeat (first | refine blk_drewN ?_ _ | refine blk_drew ?_ | refine blk_alloc ?_ _)); exact BK262.out⟩, ⟨by (with_reducible repeat (first | refine blk_drewN ?_ _ | refine blk_drew ?_ | refine blk_alloc ?_ _)); refine blk_far ?_ NB271_292.out _; (with_reducible repeat (first | refine blk_drewN ?_ _ | refine blk_drew ?_ | refine blk_alloc ?_ _)); refine blk_far ?_ NB271_292.out _; (with_reducible repeat (first | refine blk_drewN ?_ _ | refine blk_drew ?_ | refine blk_alloc ?_ _)); exact BK271.out⟩, ⟨by (with_reducible repeat (first | refine blk_drewN ?_ _ | refine blk_drew ?_ | refine blk_alloc ?_ _)); refine blk_far ?_ NB283_292.out _; (with_reducible repeat (first | refine blk_drewN ?_ _ | refine blk_drew ?_ | refine blk_alloc ?_ _)); refine blk_far ?_ NB283_292.out _; (with_reducible repeat (first | refine blk_drewN ?_ _ | refine blk_drew ?_ | refine blk_alloc ?_ _)); exact BK283.out⟩, ⟨by (with_reducible repeat (first | refine blk_drewN ?_ _ | refine blk_drew ?_ | refine blk_alloc ?_ _)); refine blk_put (cs := #[.int .i64 t288, .int .i64 0]) ?_ 1 _ rfl; (with_reducible repeat (first | refine blk_drewN ?_ _ | refine blk_drew ?_ | refine blk_alloc ?_ _)); refine blk_put (cs := #[.int .i64 0, .int .i64 0]) ?_ 0 _ rfl; (with_reducible repeat (first | refine blk_drewN ?_ _ | refine blk_drew ?_ | refine blk_alloc ?_ _)); exact BK292.out⟩, ⟨hb_ HB.out⟩⟩
          rw [if_neg c57] at H
          have c57b0 : (t282 == 0) = false := beq_eq_false_iff_ne.mpr c57
          have c57b1 : (t282 != 0) = true := bne_iff_ne.mpr c57
          (first | rw [c57b0] | (simp only [i64_w, i32_w]; rw [c57b0]) | skip)
          as_aux_lemma =>
           have H' := Aside0.mk H
           clear H
           go_wp2
           go_meet
           case rel => (try rw [← Niq25.out]); exact ⟨_, (true), sr_, H', ⟨by have := HJ5.out; have := HK2.out; first | omega | exact Nat.le_refl _⟩, ⟨by (with_reducible repeat (first | refine blk_drewN ?_ _ | refine blk_drew ?_ | refine blk_alloc ?_ _)); refine blk_far ?_ NB262_292.out _; (with_reducible repeat (first | refine blk_drewN ?_ _ | refine blk_drew ?_ | refine blk_alloc ?_ _)); refine blk_far ?_ NB262_292.out _; (with_reducible repeat (first | refine blk_drewN ?_ _ | refine blk_drew ?_ | refine blk_alloc ?_ _)); exact BK262.out⟩, ⟨by (with_reducible repeat (first | refine blk_drewN ?_ _ | refine blk_drew ?_ | refine blk_alloc ?_ _)); refine blk_far ?_ NB271_292.out _; (with_reducible repeat (first | refine blk_drewN ?_ _ | refine blk_drew ?_ | refine blk_alloc ?_ _)); refine blk_far ?_ NB271_292.out _; (with_reducible repeat (first | refine blk_drewN ?_ _ | refine blk_drew ?_ | refine blk_alloc ?_ _)); exact BK271.out⟩, ⟨by (with_reducible repeat (first | refine blk_drewN ?_ _ | refine blk_drew ?_ | refine blk_alloc ?_ _)); refine blk_far ?_ NB283_292.out _; (with_reducible repeat (first | refine blk_drewN ?_ _ | refine blk_drew ?_ | refine blk_alloc ?_ _)); refine blk_far ?_ NB283_292.out _; (with_reducible repeat (first | refine blk_drewN ?_ _ | refine blk_drew ?_ | refine blk_alloc ?_ _)); exact BK283.out⟩, ⟨by (with_reducible repeat (first | refine blk_drewN ?_ _ | refine blk_drew ?_ | refine blk_alloc ?_ _)); refine blk_put (cs := #[.int .i64 t288, .int .i64 0]) ?_ 1 _ rfl; (with_reducible repeat (first | refine blk_drewN ?_ _ | refine blk_drew ?_ | refine blk_alloc ?_ _)); refine blk_put (cs := #[.int .i64 0, .int .i64 0]) ?_ 0 _ rfl; (with_reducible repeat (first | refine blk_drewN ?_ _ | refine blk_drew ?_ | refine blk_alloc ?_ _)); exact BK292.out⟩, ⟨hb_ HB.out⟩⟩
         case rest =>
          clear HC39
          try clear c1
          try clear p2
          try clear q2
          try clear c5
          try clear p6
          try clear c10
          try clear c11
          try clear q25
          try clear c57
          try clear c57b0
          try clear c57b1
          try clear c58
          try clear c58b0
          try clear c58b1
          try clear c59
          try clear c59b0
          obtain ⟨kq, x106_38, rfl, HA, HJ38, BK262, BK271, BK283, BK292, HB⟩ := hcut
          cases kq with
          | zero => exact absurd HA.out (by simp [j2])
          | succ kj38 =>
           have H := HA.out
           clear HA
           simp only [j2] at H
           by_cases c60 : x106_38 = true
           ·subst c60
            have H1 : (none) = some r := by rw [if_pos rfl] at H; exact H
            clear H
            have H := H1
            clear H1
            exact absurd H (by simp)
           ·replace c60 := Bool.eq_false_iff.mpr c60
            subst c60
            have H1 : (if 0 = 0 then (if t278 = t287 then (if (!((wrap64 (t279 + (wrap64 (Int.tmod (IntKind.u64.wrap (a3)) 20)))) == t288) || (!(t280 == t289))) = true then (j3 kj38 l0 0 (wrap64 (Int.tmod (IntKind.u64.wrap (a3)) 20)) t278 (wrap64 ((wrap64 (Int.tmod (IntKind.u64.wrap (a4)) 60)) + 1)) x68_2 true a1_0 a1_1 (wrap64 (a1_0 + (wrap64 (Int.tmod (IntKind.u64.wrap (a3)) 20)))) a1_1 (wrap64 (t279 + (wrap64 (Int.tmod (IntKind.u64.wrap (a3)) 20)))) t280) else (j3 kj38 l0 0 (wrap64 (Int.tmod (IntKind.u64.wrap (a3)) 20)) t278 (wrap64 ((wrap64 (Int.tmod (IntKind.u64.wrap (a4)) 60)) + 1)) x68_2 (t281 != t290) a1_0 a1_1 (wrap64 (a1_0 + (wrap64 (Int.tmod (IntKind.u64.wrap (a3)) 20)))) a1_1 (wrap64 (t279 + (wrap64 (Int.tmod (IntKind.u64.wrap (a3)) 20)))) t280)) else (j3 kj38 l0 0 (wrap64 (Int.tmod (IntKind.u64.wrap (a3)) 20)) t278 (wrap64 ((wrap64 (Int.tmod (IntKind.u64.wrap (a4)) 60)) + 1)) x68_2 true a1_0 a1_1 (wrap64 (a1_0 + (wrap64 (Int.tmod (IntKind.u64.wrap (a3)) 20)))) a1_1 (wrap64 (t279 + (wrap64 (Int.tmod (IntKind.u64.wrap (a3)) 20)))) t280)) else (if 0 = 1 then (if t278 = t287 then (if (!(t279 == t288) || (!((wrap64 (t280 + (wrap64 (Int.tmod (IntKind.u64.wrap (a3)) 20)))) == t289))) = true then (j5 kj38 l0 1 (wrap64 (Int.tmod (IntKind.u64.wrap (a3)) 20)) t278 (wrap64 ((wrap64 (Int.tmod (IntKind.u64.wrap (a4)) 60)) + 1)) x68_2 true a1_0 a1_1 (wrap64 (a1_0 + (wrap64 (Int.tmod (IntKind.u64.wrap (a3)) 20)))) a1_1 t279 (wrap64 (t280 + (wrap64 (Int.tmod (IntKind.u64.wrap (a3)) 20))))) else (j5 kj38 l0 1 (wrap64 (Int.tmod (IntKind.u64.wrap (a3)) 20)) t278 (wrap64 ((wrap64 (Int.tmod (IntKind.u64.wrap (a4)) 60)) + 1)) x68_2 (t281 != t290) a1_0 a1_1 (wrap64 (a1_0 + (wrap64 (Int.tmod (IntKind.u64.wrap (a3)) 20)))) a1_1 t279 (wrap64 (t280 + (wrap64 (Int.tmod (IntKind.u64.wrap (a3)) 20)))))) else (j5 kj38 l0 1 (wrap64 (Int.tmod (IntKind.u64.wrap (a3)) 20)) t278 (wrap64 ((wrap64 (Int.tmod (IntKind.u64.wrap (a4)) 60)) + 1)) x68_2 true a1_0 a1_1 (wrap64 (a1_0 + (wrap64 (Int.tmod (IntKind.u64.wrap (a3)) 20)))) a1_1 t279 (wrap64 (t280 + (wrap64 (Int.tmod (IntKind.u64.wrap (a3)) 20)))))) else (none))) = some r := by rw [if_neg (show ¬ (false = true) by decide)] at H; exact H
            clear H
            have H := H1
            clear H1
            (first | rw [if_pos (show ((0 : Int) = (0 : Int)) by decide)] at H | rw [if_pos (show ((0 : Nat) = (0 : Nat)) by decide)] at H)
            have HC61 := Aside0.mk H
            clear H
            have hnb62 := NB283_262.out
            have hnc62 := NB262_283.out
            have hnb63 := NB283_271.out
            have hnc63 := NB271_283.out
            have hnb64 := NB283_292.out
            have hnc64 := NB292_283.out
            have hcz65_0 : wc.cell? ⟨gb283, 0, none⟩ = some (.int .i64 t279) := (blk_cell BK283.out 0).trans rfl
            have hcz65_1 : wc.cell? ⟨gb283, 1, none⟩ = some (.int .i64 t280) := (blk_cell BK283.out 1).trans rfl
            have hfz65_0 := blk_frozen BK283.out 0
            have hfz65_1 := blk_frozen BK283.out 1
            go_upto_region 17 with (fail)
            go_cut [125] (fun v125 wc => ∃ (kq : Nat) (x125_60 : Bool), v125 = .bool x125_60 ∧ Aside0 (j3 kq l0 0 (wrap64 (Int.tmod (IntKind.u64.wrap (a3)) 20)) t278 (wrap64 ((wrap64 (Int.tmod (IntKind.u64.wrap (a4)) 60)) + 1)) x68_2 x125_60 a1_0 a1_1 (wrap64 (a1_0 + (wrap64 (Int.tmod (IntKind.u64.wrap (a3)) 20)))) a1_1 (wrap64 (t279 + (wrap64 (Int.tmod (IntKind.u64.wrap (a3)) 20)))) t280 = some r) ∧ Aside0 (kq ≤ kj38) ∧ Aside0 (wc.heap[gb262]? = some (.cells #[.int .i64 a1_0, .int .i64 a1_1] 23 (0, 0))) ∧ Aside0 (wc.heap[gb271]? = some (.cells #[.int .i64 (wrap64 (a1_0 + (wrap64 (Int.tmod (IntKind.u64.wrap (a3)) 20)))), .int .i64 a1_1] 23 (0, 0))) ∧ Aside0 (wc.heap[gb283]? = some (.cells #[.int .i64 (wrap64 (t279 + (wrap64 (Int.tmod (IntKind.u64.wrap (a3)) 20)))), .int .i64 t280] 23 (0, 0))) ∧ Aside0 (wc.heap[gb292]? = some (.cells #[.int .i64 t288, .int .i64 t289] 23 (0, 0))) ∧ Aside0 (Below w.heap.size w wc))
            case first =>
             have H := HC61.out
             clear HC61
             by_cases c66 : t278 = t287
             ·rw [if_pos c66] at H
              have c66b0 : (t278 == t287) = true := beq_iff_eq.mpr c66
              have c66b1 : (t278 != t287) = false := bne_eq_false_iff_eq.mpr c66
              clear c66
              (first | rw [c66b0] | (simp only [i64_w, i32_w]; rw [c66b0]) | skip)
              by_cases c67 : (!((wrap64 (t279 + (wrap64 (Int.tmod (IntKind.u64.wrap (a3)) 20)))) == t288) || (!(t280 == t289))) = true
              ·rw [if_pos c67] at H
               have c67b0 : (!((wrap64 (t279 + (wrap64 (Int.tmod (IntKind.u64.wrap (a3)) 20)))) == t288) || (!(t280 == t289))) = true := c67
               clear c67
               as_aux_lemma =>
                have H' := Aside0.mk H
                clear H
                have hnb68 := NB283_262.out
                have hnc68 := NB262_283.out
                have hnb69 := NB283_271.out
                have hnc69 := NB271_283.out
                have hnb70 := NB283_292.out
                have hnc70 := NB292_283.out
                have hcz71_0 : wc.cell? ⟨gb283, 0, none⟩ = some (.int .i64 t279) := (blk_cell BK283.out 0).trans rfl
                have hcz71_1 : wc.cell? ⟨gb283, 1, none⟩ = some (.int .i64 t280) := (blk_cell BK283.out 1).trans rfl
                have hfz71_0 := blk_frozen BK283.out 0
                have hfz71_1 := blk_frozen BK283.out 1
                have hnb72 := NB292_262.out
                have hnc72 := NB262_292.out
                have hnb73 := NB292_271.out
                have hnc73 := NB271_292.out
                have hcz74_0 : wc.cell? ⟨gb292, 0, none⟩ = some (.int .i64 t288) := (blk_cell BK292.out 0).trans rfl
                have hcz74_1 : wc.cell? ⟨gb292, 1, none⟩ = some (.int .i64 t289) := (blk_cell BK292.out 1).trans rfl
                have hfz74_0 := blk_frozen BK292.out 0
                have hfz74_1 := blk_frozen BK292.out 1
                go_wp2
                go_meet
                case rel => (try rw [← Niq25.out]); exact ⟨_, (true), sr_, H', ⟨by have := HJ5.out; have := HK2.out; have := HJ38.out; first | omega | exact Nat.le_refl _⟩, ⟨by (with_reducible repeat (first | refine blk_drewN ?_ _ | refine blk_drew ?_ | refine blk_alloc ?_ _)); refine blk_far ?_ NB262_283.out _; (with_reducible repeat (first | refine blk_drewN ?_ _ | refine blk_drew ?_ | refine blk_alloc ?_ _)); exact BK262.out⟩, ⟨by (with_reducible repeat (first | refine blk_drewN ?_ _ | refine blk_drew ?_ | refine blk_alloc ?_ _)); refine blk_far ?_ NB271_283.out _; (with_reducible repeat (first | refine blk_drewN ?_ _ | refine blk_drew ?_ | refine blk_alloc ?_ _)); exact BK271.out⟩, ⟨by (with_reducible repeat (first | refine blk_drewN ?_ _ | refine blk_drew ?_ | refine blk_alloc ?_ _)); refine blk_put (cs := #[.int .i64 t279, .int .i64 t280]) ?_ 0 _ rfl; (with_reducible repeat (first | refine blk_drewN ?_ _ | refine blk_drew ?_ | refine blk_alloc ?_ _)); exact BK283.out⟩, ⟨by (with_reducible repeat (first | refine blk_drewN ?_ _ | refine blk_drew ?_ | refine blk_alloc ?_ _)); refine blk_far ?_ NB292_283.out _; (with_reducible repeat (first | refine blk_drewN ?_ _ | refine blk_drew ?_ | refine blk_alloc ?_ _)); exact BK292.out⟩, ⟨hb_ HB.out⟩⟩
              rw [if_neg c67] at H
              have c67b0 : (!((wrap64 (t279 + (wrap64 (Int.tmod (IntKind.u64.wrap (a3)) 20)))) == t288) || (!(t280 == t289))) = false := by simpa using c67
              clear c67
              as_aux_lemma =>
               have H' := Aside0.mk H
               clear H
               have hnb75 := NB283_262.out
               have hnc75 := NB262_283.out
               have hnb76 := NB283_271.out
               have hnc76 := NB271_283.out
               have hnb77 := NB283_292.out
               have hnc77 := NB292_283.out
               have hcz78_0 : wc.cell? ⟨gb283, 0, none⟩ = some (.int .i64 t279) := (blk_cell BK283.out 0).trans rfl
               have hcz78_1 : wc.cell? ⟨gb283, 1, none⟩ = some (.int .i64 t280) := (blk_cell BK283.out 1).trans rfl
               have hfz78_0 := blk_frozen BK283.out 0
               have hfz78_1 := blk_frozen BK283.out 1
               have hnb79 := NB292_262.out
               have hnc79 := NB262_292.out
               have hnb80 := NB292_271.out
               have hnc80 := NB271_292.out
               have hcz81_0 : wc.cell? ⟨gb292, 0, none⟩ = some (.int .i64 t288) := (blk_cell BK292.out 0).trans rfl
               have hcz81_1 : wc.cell? ⟨gb292, 1, none⟩ = some (.int .i64 t289) := (blk_cell BK292.out 1).trans rfl
               have hfz81_0 := blk_frozen BK292.out 0
               have hfz81_1 := blk_frozen BK292.out 1
               go_wp2
               go_meet
               case rel => (try rw [← Niq25.out]); exact ⟨_, ((t281 != t290)), sr_, H', ⟨by have := HJ5.out; have := HK2.out; have := HJ38.out; first | omega | exact Nat.le_refl _⟩, ⟨by (with_reducible repeat (first | refine blk_drewN ?_ _ | refine blk_drew ?_ | refine blk_alloc ?_ _)); refine blk_far ?_ NB262_283.out _; (with_reducible repeat (first | refine blk_drewN ?_ _ | refine blk_drew ?_ | refine blk_alloc ?_ _)); exact BK262.out⟩, ⟨by (with_reducible repeat (first | refine blk_drewN ?_ _ | refine blk_drew ?_ | refine blk_alloc ?_ _)); refine blk_far ?_ NB271_283.out _; (with_reducible repeat (first | refine blk_drewN ?_ _ | refine blk_drew ?_ | refine blk_alloc ?_ _)); exact BK271.out⟩, ⟨by (with_reducible repeat (first | refine blk_drewN ?_ _ | refine blk_drew ?_ | refine blk_alloc ?_ _)); refine blk_put (cs := #[.int .i64 t279, .int .i64 t280]) ?_ 0 _ rfl; (with_reducible repeat (first | refine blk_drewN ?_ _ | refine blk_drew ?_ | refine blk_alloc ?_ _)); exact BK283.out⟩, ⟨by (with_reducible repeat (first | refine blk_drewN ?_ _ | refine blk_drew ?_ | refine blk_alloc ?_ _)); refine blk_far ?_ NB292_283.out _; (with_reducible repeat (first | refine blk_drewN ?_ _ | refine blk_drew ?_ | refine blk_alloc ?_ _)); exact BK292.out⟩, ⟨hb_ HB.out⟩⟩
             rw [if_neg c66] at H
             have c66b0 : (t278 == t287) = false := beq_eq_false_iff_ne.mpr c66
             have c66b1 : (t278 != t287) = true := bne_iff_ne.mpr c66
             (first | rw [c66b0] | (simp only [i64_w, i32_w]; rw [c66b0]) | skip)
             as_aux_lemma =>
              have H' := Aside0.mk H
              clear H
              go_wp2
              go_meet
              case rel => (try rw [← Niq25.out]); exact ⟨_, (true), sr_, H', ⟨by have := HJ5.out; have := HK2.out; have := HJ38.out; first | omega | exact Nat.le_refl _⟩, ⟨by (with_reducible repeat (first | refine blk_drewN ?_ _ | refine blk_drew ?_ | refine blk_alloc ?_ _)); refine blk_far ?_ NB262_283.out _; (with_reducible repeat (first | refine blk_drewN ?_ _ | refine blk_drew ?_ | refine blk_alloc ?_ _)); exact BK262.out⟩, ⟨by (with_reducible repeat (first | refine blk_drewN ?_ _ | refine blk_drew ?_ | refine blk_alloc ?_ _)); refine blk_far ?_ NB271_283.out _; (with_reducible repeat (first | refine blk_drewN ?_ _ | refine blk_drew ?_ | refine blk_alloc ?_ _)); exact BK271.out⟩, ⟨by (with_reducible repeat (first | refine blk_drewN ?_ _ | refine blk_drew ?_ | refine blk_alloc ?_ _)); refine blk_put (cs := #[.int .i64 t279, .int .i64 t280]) ?_ 0 _ rfl; (with_reducible repeat (first | refine blk_drewN ?_ _ | refine blk_drew ?_ | refine blk_alloc ?_ _)); exact BK283.out⟩, ⟨by (with_reducible repeat (first | refine blk_drewN ?_ _ | refine blk_drew ?_ | refine blk_alloc ?_ _)); refine blk_far ?_ NB292_283.out _; (with_reducible repeat (first | refine blk_drewN ?_ _ | refine blk_drew ?_ | refine blk_alloc ?_ _)); exact BK292.out⟩, ⟨hb_ HB.out⟩⟩
            case rest =>
             clear HC61
             try clear c1
             try clear p2
             try clear q2
             try clear c5
             try clear c6
             try clear p6
             try clear c7
             try clear c8
             try clear c10
             try clear c11
             try clear q25
             try clear c57
             try clear c57b0
             try clear c57b1
             try clear c58
             try clear c58b0
             try clear c58b1
             try clear c59
             try clear c59b0
             try clear c60
             try clear c62
             try clear c63
             try clear c64
             try clear p64
             try clear c66
             try clear c66b0
             try clear c66b1
             try clear c67
             try clear c67b0
             try clear c68
             try clear c69
             try clear c70
             try clear c72
             try clear c73
             try clear c75
             try clear c76
             try clear c77
             try clear c79
             try clear c80
             try clear hcz65_0
             try clear hcz65_1
             try clear hcz71_0
             try clear hcz71_1
             try clear hcz74_0
             try clear hcz74_1
             try clear hcz78_0
             try clear hcz78_1
             try clear hcz81_0
             try clear hcz81_1
             try clear hfz65_0
             try clear hfz65_1
             try clear hfz71_0
             try clear hfz71_1
             try clear hfz74_0
             try clear hfz74_1
             try clear hfz78_0
             try clear hfz78_1
             try clear hfz81_0
             try clear hfz81_1
             try clear p2
             try clear p6
             try clear q2
             try clear q25
             obtain ⟨kq, x125_60, rfl, HA, HJ60, BK262, BK271, BK283, BK292, HB⟩ := hcut
             cases kq with
             | zero => exact absurd HA.out (by simp [j3])
             | succ kj60 =>
              have H := HA.out
              clear HA
              simp only [j3] at H
              by_cases c82 : x125_60 = true
              ·subst c82
               have H1 : (none) = some r := by rw [if_pos rfl] at H; exact H
               clear H
               have H := H1
               clear H1
               exact absurd H (by simp)
              ·replace c82 := Bool.eq_false_iff.mpr c82
               subst c82
               have H1 : (if 0 ≤ t278 then (if t278 < (l0.length : Int) then (if ((rd_T39 l0 t278).f0) = 2 then (if ((rd_T39 l0 t278).f1) = 0 then (if 0 = 0 then (j4 kj60 l0 0 (wrap64 (Int.tmod (IntKind.u64.wrap (a3)) 20)) (wrap64 ((wrap64 (Int.tmod (IntKind.u64.wrap (a4)) 60)) + 1)) x68_2 ((wrap64 (t279 + (wrap64 (Int.tmod (IntKind.u64.wrap (a3)) 20)))) == (wrap64 (Int.tmod (IntKind.u64.wrap (a3)) 20))) a1_0 a1_1 (wrap64 (a1_0 + (wrap64 (Int.tmod (IntKind.u64.wrap (a3)) 20)))) a1_1) else (if 0 = 1 then (j4 kj60 l0 1 (wrap64 (Int.tmod (IntKind.u64.wrap (a3)) 20)) (wrap64 ((wrap64 (Int.tmod (IntKind.u64.wrap (a4)) 60)) + 1)) x68_2 (t280 == (wrap64 (Int.tmod (IntKind.u64.wrap (a3)) 20))) a1_0 a1_1 (wrap64 (a1_0 + (wrap64 (Int.tmod (IntKind.u64.wrap (a3)) 20)))) a1_1) else (none))) else (j4 kj60 l0 0 (wrap64 (Int.tmod (IntKind.u64.wrap (a3)) 20)) (wrap64 ((wrap64 (Int.tmod (IntKind.u64.wrap (a4)) 60)) + 1)) x68_2 false a1_0 a1_1 (wrap64 (a1_0 + (wrap64 (Int.tmod (IntKind.u64.wrap (a3)) 20)))) a1_1)) else (j4 kj60 l0 0 (wrap64 (Int.tmod (IntKind.u64.wrap (a3)) 20)) (wrap64 ((wrap64 (Int.tmod (IntKind.u64.wrap (a4)) 60)) + 1)) x68_2 false a1_0 a1_1 (wrap64 (a1_0 + (wrap64 (Int.tmod (IntKind.u64.wrap (a3)) 20)))) a1_1)) else (none)) else (none)) = some r := by rw [if_neg (show ¬ (false = true) by decide)] at H; exact H
               clear H
               have H := H1
               clear H1
               have HC83 := Aside0.mk H
               clear H
               go_upto_region 19 with (fail)
               go_cut [147] (fun v147 wc => ∃ (kq : Nat) (x147_82 : Bool), v147 = .bool x147_82 ∧ Aside0 (j4 kq l0 0 (wrap64 (Int.tmod (IntKind.u64.wrap (a3)) 20)) (wrap64 ((wrap64 (Int.tmod (IntKind.u64.wrap (a4)) 60)) + 1)) x68_2 x147_82 a1_0 a1_1 (wrap64 (a1_0 + (wrap64 (Int.tmod (IntKind.u64.wrap (a3)) 20)))) a1_1 = some r) ∧ Aside0 (kq ≤ kj60) ∧ Aside0 (wc.heap[gb262]? = some (.cells #[.int .i64 a1_0, .int .i64 a1_1] 23 (0, 0))) ∧ Aside0 (wc.heap[gb271]? = some (.cells #[.int .i64 (wrap64 (a1_0 + (wrap64 (Int.tmod (IntKind.u64.wrap (a3)) 20)))), .int .i64 a1_1] 23 (0, 0))) ∧ Aside0 (wc.heap[gb283]? = some (.cells #[.int .i64 (wrap64 (t279 + (wrap64 (Int.tmod (IntKind.u64.wrap (a3)) 20)))), .int .i64 t280] 23 (0, 0))) ∧ Aside0 (wc.heap[gb292]? = some (.cells #[.int .i64 t288, .int .i64 t289] 23 (0, 0))) ∧ Aside0 (Below w.heap.size w wc))
               case first =>
                have H := HC83.out
                clear HC83
                by_cases c84 : 0 ≤ t278
                ·rw [if_pos c84] at H
                 have c84b0 : decide (0 ≤ t278) = true := decide_eq_true c84
                 clear c84
                 (first | rw [c84b0] | (simp only [i64_w, i32_w]; rw [c84b0]) | skip)
                 by_cases c85 : t278 < (l0.length : Int)
                 ·rw [if_pos c85] at H
                  have c85b0 : decide (t278 < (l0.length : Int)) = true := decide_eq_true c85
                  clear c85
                  by_cases c86 : ((rd_T39 l0 t278).f0) = 2
                  ·rw [if_pos c86] at H
                   have c86b0 : (((rd_T39 l0 t278).f0) == 2) = true := beq_iff_eq.mpr c86
                   have c86b1 : (((rd_T39 l0 t278).f0) != 2) = false := bne_eq_false_iff_eq.mpr c86
                   clear c86
                   by_cases c87 : ((rd_T39 l0 t278).f1) = 0
                   ·rw [if_pos c87] at H
                    have c87b0 : (((rd_T39 l0 t278).f1) == 0) = true := beq_iff_eq.mpr c87
                    have c87b1 : (((rd_T39 l0 t278).f1) != 0) = false := bne_eq_false_iff_eq.mpr c87
                    clear c87
                    (first | rw [if_pos (show ((0 : Int) = (0 : Int)) by decide)] at H | rw [if_pos (show ((0 : Nat) = (0 : Nat)) by decide)] at H)
                    as_aux_lemma =>
                     have H' := Aside0.mk H
                     clear H
                     have p293 : 0 ≤ (t278 : Int) := of_decide_eq_true (by first | (with_reducible assumption) | assumption)
                     have q293 : t278 < (l0.length : Int) := of_decide_eq_true (by first | (with_reducible assumption) | assumption)
                     obtain ⟨ad293, e293, hx293_0, hx293_1, hx293_2, hx293_3⟩ := at_T39 HR0.out t278 p293 q293
                     (try rw [← Niq25.out] at hx293_0)
                     (try rw [← Niq25.out] at hx293_1)
                     (try rw [← Niq25.out] at hx293_2)
                     (try rw [← Niq25.out] at hx293_3)
                     cases e293
                     replace hx293_0 := (HB.out.cell (World.block_lt_of_cell? w _ hx293_0)).trans hx293_0
                     replace hx293_1 := (HB.out.cell (World.block_lt_of_cell? w _ hx293_1)).trans hx293_1
                     replace hx293_2 := (HB.out.cell (World.block_lt_of_cell? w _ hx293_2)).trans hx293_2
                     replace hx293_3 := (HB.out.cell (World.block_lt_of_cell? w _ hx293_3)).trans hx293_3
                     replace p293 := eq_true p293
                     replace q293 := eq_true q293
                     have p294 : 0 ≤ (t278 : Int) := of_decide_eq_true (by first | (with_reducible assumption) | assumption)
                     have q294 : t278 < (l0.length : Int) := of_decide_eq_true (by first | (with_reducible assumption) | assumption)
                     obtain ⟨ad294, e294, hx294_0, hx294_1, hx294_2, hx294_3⟩ := at_T39 HR0.out t278 p294 q294
                     (try rw [← Niq25.out] at hx294_0)
                     (try rw [← Niq25.out] at hx294_1)
                     (try rw [← Niq25.out] at hx294_2)
                     (try rw [← Niq25.out] at hx294_3)
                     obtain rfl : ad293 = ad294 := (by injection e294)
                     replace hx294_0 := (HB.out.cell (World.block_lt_of_cell? w _ hx294_0)).trans hx294_0
                     replace hx294_1 := (HB.out.cell (World.block_lt_of_cell? w _ hx294_1)).trans hx294_1
                     replace hx294_2 := (HB.out.cell (World.block_lt_of_cell? w _ hx294_2)).trans hx294_2
                     replace hx294_3 := (HB.out.cell (World.block_lt_of_cell? w _ hx294_3)).trans hx294_3
                     replace p294 := eq_true p294
                     replace q294 := eq_true q294
                     have hnb88 := NB283_262.out
                     have hnc88 := NB262_283.out
                     have hnb89 := NB283_271.out
                     have hnc89 := NB271_283.out
                     have hnb90 := NB283_292.out
                     have hnc90 := NB292_283.out
                     have hcz91_0 : wc.cell? ⟨gb283, 0, none⟩ = some (.int .i64 (wrap64 (t279 + (wrap64 (Int.tmod (IntKind.u64.wrap (a3)) 20))))) := (blk_cell BK283.out 0).trans rfl
                     have hcz91_1 : wc.cell? ⟨gb283, 1, none⟩ = some (.int .i64 t280) := (blk_cell BK283.out 1).trans rfl
                     have hfz91_0 := blk_frozen BK283.out 0
                     have hfz91_1 := blk_frozen BK283.out 1
                     go_wp2
                     go_meet
                     case rel => (try rw [← Niq25.out]); exact ⟨_, (((wrap64 (t279 + (wrap64 (Int.tmod (IntKind.u64.wrap (a3)) 20)))) == (wrap64 (Int.tmod (IntKind.u64.wrap (a3)) 20)))), sr_, H', ⟨by have := HJ5.out; have := HK2.out; have := HJ38.out; have := HJ60.out; first | omega | exact Nat.le_refl _⟩, ⟨bk_ BK262.out⟩, ⟨bk_ BK271.out⟩, ⟨bk_ BK283.out⟩, ⟨bk_ BK292.out⟩, ⟨hb_ HB.out⟩⟩
                   rw [if_neg c87] at H
                   have c87b0 : (((rd_T39 l0 t278).f1) == 0) = false := beq_eq_false_iff_ne.mpr c87
                   have c87b1 : (((rd_T39 l0 t278).f1) != 0) = true := bne_iff_ne.mpr c87
                   as_aux_lemma =>
                    have H' := Aside0.mk H
                    clear H
                    have p293 : 0 ≤ (t278 : Int) := of_decide_eq_true (by first | (with_reducible assumption) | assumption)
                    have q293 : t278 < (l0.length : Int) := of_decide_eq_true (by first | (with_reducible assumption) | assumption)
                    obtain ⟨ad293, e293, hx293_0, hx293_1, hx293_2, hx293_3⟩ := at_T39 HR0.out t278 p293 q293
                    (try rw [← Niq25.out] at hx293_0)
                    (try rw [← Niq25.out] at hx293_1)
                    (try rw [← Niq25.out] at hx293_2)
                    (try rw [← Niq25.out] at hx293_3)
                    cases e293
                    replace hx293_0 := (HB.out.cell (World.block_lt_of_cell? w _ hx293_0)).trans hx293_0
                    replace hx293_1 := (HB.out.cell (World.block_lt_of_cell? w _ hx293_1)).trans hx293_1
                    replace hx293_2 := (HB.out.cell (World.block_lt_of_cell? w _ hx293_2)).trans hx293_2
                    replace hx293_3 := (HB.out.cell (World.block_lt_of_cell? w _ hx293_3)).trans hx293_3
                    replace p293 := eq_true p293
                    replace q293 := eq_true q293
                    have p294 : 0 ≤ (t278 : Int) := of_decide_eq_true (by first | (with_reducible assumption) | assumption)
                    have q294 : t278 < (l0.length : Int) := of_decide_eq_true (by first | (with_reducible assumption) | assumption)
                    obtain ⟨ad294, e294, hx294_0, hx294_1, hx294_2, hx294_3⟩ := at_T39 HR0.out t278 p294 q294
                    (try rw [← Niq25.out] at hx294_0)
                    (try rw [← Niq25.out] at hx294_1)
                    (try rw [← Niq25.out] at hx294_2)
                    (try rw [← Niq25.out] at hx294_3)
                    obtain rfl : ad293 = ad294 := (by injection e294)
                    replace hx294_0 := (HB.out.cell (World.block_lt_of_cell? w _ hx294_0)).trans hx294_0
                    replace hx294_1 := (HB.out.cell (World.block_lt_of_cell? w _ hx294_1)).trans hx294_1
                    replace hx294_2 := (HB.out.cell (World.block_lt_of_cell? w _ hx294_2)).trans hx294_2
                    replace hx294_3 := (HB.out.cell (World.block_lt_of_cell? w _ hx294_3)).trans hx294_3
                    replace p294 := eq_true p294
                    replace q294 := eq_true q294
                    go_wp2
                    go_meet
                    case rel => (try rw [← Niq25.out]); exact ⟨_, (false), sr_, H', ⟨by have := HJ5.out; have := HK2.out; have := HJ38.out; have := HJ60.out; first | omega | exact Nat.le_refl _⟩, ⟨bk_ BK262.out⟩, ⟨bk_ BK271.out⟩, ⟨bk_ BK283.out⟩, ⟨bk_ BK292.out⟩, ⟨hb_ HB.out⟩⟩
                  rw [if_neg c86] at H
                  have c86b0 : (((rd_T39 l0 t278).f0) == 2) = false := beq_eq_false_iff_ne.mpr c86
                  have c86b1 : (((rd_T39 l0 t278).f0) != 2) = true := bne_iff_ne.mpr c86
                  as_aux_lemma =>
                   have H' := Aside0.mk H
                   clear H
                   have p293 : 0 ≤ (t278 : Int) := of_decide_eq_true (by first | (with_reducible assumption) | assumption)
                   have q293 : t278 < (l0.length : Int) := of_decide_eq_true (by first | (with_reducible assumption) | assumption)
                   obtain ⟨ad293, e293, hx293_0, hx293_1, hx293_2, hx293_3⟩ := at_T39 HR0.out t278 p293 q293
                   (try rw [← Niq25.out] at hx293_0)
                   (try rw [← Niq25.out] at hx293_1)
                   (try rw [← Niq25.out] at hx293_2)
                   (try rw [← Niq25.out] at hx293_3)
                   cases e293
                   replace hx293_0 := (HB.out.cell (World.block_lt_of_cell? w _ hx293_0)).trans hx293_0
                   replace hx293_1 := (HB.out.cell (World.block_lt_of_cell? w _ hx293_1)).trans hx293_1
                   replace hx293_2 := (HB.out.cell (World.block_lt_of_cell? w _ hx293_2)).trans hx293_2
                   replace hx293_3 := (HB.out.cell (World.block_lt_of_cell? w _ hx293_3)).trans hx293_3
                   replace p293 := eq_true p293
                   replace q293 := eq_true q293
                   go_wp2
                   go_meet
                   case rel => (try rw [← Niq25.out]); exact ⟨_, (false), sr_, H', ⟨by have := HJ5.out; have := HK2.out; have := HJ38.out; have := HJ60.out; first | omega | exact Nat.le_refl _⟩, ⟨bk_ BK262.out⟩, ⟨bk_ BK271.out⟩, ⟨bk_ BK283.out⟩, ⟨bk_ BK292.out⟩, ⟨hb_ HB.out⟩⟩
                 rw [if_neg c85] at H
                 exact absurd H (by simp)
                rw [if_neg c84] at H
                exact absurd H (by simp)
               case rest =>
                clear HC83
                try clear c1
                try clear p2
                try clear q2
                try clear hx2
                try clear c5
                try clear c6
                try clear p6
                try clear c7
                try clear c8
                try clear c9
                try clear c10
                try clear c11
                try clear q25
                try clear p29
                try clear q29
                try clear hx29
                try clear c57
                try clear c57b0
                try clear c57b1
                try clear c58
                try clear c58b0
                try clear c58b1
                try clear c59
                try clear c59b0
                try clear c60
                try clear c62
                try clear c63
                try clear c64
                try clear p64
                try clear c66
                try clear c66b0
                try clear c66b1
                try clear c67
                try clear c67b0
                try clear c68
                try clear c69
                try clear c70
                try clear c72
                try clear c73
                try clear c75
                try clear c76
                try clear c77
                try clear c79
                try clear c80
                try clear c82
                try clear c84
                try clear c84b0
                try clear c85
                try clear c85b0
                try clear c86
                try clear c86b0
                try clear c86b1
                try clear c87
                try clear c87b0
                try clear c87b1
                try clear c88
                try clear c89
                try clear c90
                try clear hcz65_0
                try clear hcz65_1
                try clear hcz71_0
                try clear hcz71_1
                try clear hcz74_0
                try clear hcz74_1
                try clear hcz78_0
                try clear hcz78_1
                try clear hcz81_0
                try clear hcz81_1
                try clear hcz91_0
                try clear hcz91_1
                try clear hfz65_0
                try clear hfz65_1
                try clear hfz71_0
                try clear hfz71_1
                try clear hfz74_0
                try clear hfz74_1
                try clear hfz78_0
                try clear hfz78_1
                try clear hfz81_0
                try clear hfz81_1
                try clear hfz91_0
                try clear hfz91_1
                try clear hx293_0
                try clear hx293_1
                try clear hx293_2
                try clear hx293_3
                try clear hx294_0
                try clear hx294_1
                try clear hx294_2
                try clear hx294_3
                try clear p2
                try clear p293
                try clear p294
                try clear p6
                try clear p64
                try clear q2
                try clear q25
                try clear q293
                try clear q294
                obtain ⟨kq, x147_82, rfl, HA, HJ82, BK262, BK271, BK283, BK292, HB⟩ := hcut
                cases kq with
                | zero => exact absurd HA.out (by simp [j4])
                | succ kj82 =>
                 have H := HA.out
                 clear HA
                 simp only [j4] at H
                 by_cases c92 : x147_82 = true
                 ·subst c92
                  have H1 : ((comfitlaw06_awake.f kj82).bind fun t295 => (some t295)) = some r := by rw [if_pos rfl] at H; exact H
                  clear H
                  have H := H1
                  clear H1
                  replace H := Option.bind_eq_some_iff.mp H
                  obtain ⟨t295, A930, H⟩ := H
                  replace H : (some t295) = some r := H
                  have A93 := Aside0.mk A930
                  clear A930
                  as_aux_lemma =>
                   obtain rfl := Option.some.inj H
                   go_wp2_with (first | ((with_reducible refine gate_callee (f := 14) rfl ?_); refine goesL_ (some 148) rfl rfl Try.func14 (by kernel_rfl) rfl #[] rfl al_ ?_; (with_reducible refine (comfitlaw06_awake.calls kj82  t295 _ A93.out).mono ?_); rintro e w94 ⟨rfl, hb⟩; refine ⟨_, rfl, ?_⟩; have n0_ := Aside0.mk (bkb_ BK262.out hb); have n1_ := Aside0.mk (bkb_ BK271.out hb); have n2_ := Aside0.mk (bkb_ BK283.out hb); have n3_ := Aside0.mk (bkb_ BK292.out hb); have n4_ := Aside0.mk (below_step (hb_ HB.out) hb); clear BK262; clear BK271; clear BK283; clear BK292; clear HB; have BK262 := n0_; have BK271 := n1_; have BK283 := n2_; have BK292 := n3_; have HB := n4_; clear n0_ n1_ n2_ n3_ n4_; (try clear hb); (try clear hb2); (try clear hk); (try clear hi)))
                   go_ret
                   exact ⟨by first | rfl | (simp [errW_none, errW_some] <;> rfl) | (simp [*, errW_none, errW_some] <;> rfl), hb_ HB.out⟩
                 ·replace c92 := Bool.eq_false_iff.mpr c92
                  subst c92
                  have H1 : (comfitlaw06_TagsMore.l0 kj82 l0 0 (wrap64 (Int.tmod (IntKind.u64.wrap (a3)) 20)) (wrap64 ((wrap64 (Int.tmod (IntKind.u64.wrap (a4)) 60)) + 1)) (wrap64 (x68_2 + 1)) a1_0 a1_1 (wrap64 (a1_0 + (wrap64 (Int.tmod (IntKind.u64.wrap (a3)) 20)))) a1_1) = some r := by rw [if_neg (show ¬ (false = true) by decide)] at H; exact H
                  clear H
                  have H := H1
                  clear H1
                  as_aux_lemma =>
                   have H' := Aside0.mk H
                   clear H
                   go_wp2
                   go_roundg kj82
                   case measure => have := HJ5.out; have := HK2.out; have := HJ38.out; have := HJ60.out; have := HJ82.out; omega
                   case rel => (try rw [← Niq25.out]); exact ⟨(wrap64 (x68_2 + 1)), sr_, H', ⟨by have := HJ5.out; have := HK2.out; have := HJ38.out; have := HJ60.out; have := HJ82.out; omega⟩, ⟨bk_ BK262.out⟩, ⟨bk_ BK271.out⟩, ⟨hb_ HB.out⟩⟩
        rw [if_neg c34] at H
        have c34b0 : decide (x68_2 < (wrap64 ((wrap64 (Int.tmod (IntKind.u64.wrap (a4)) 60)) + 1))) = false := decide_eq_false c34
        clear c34
        replace H := Option.bind_eq_some_iff.mp H
        obtain ⟨t274, A950, H⟩ := H
        replace H : (some t274) = some r := H
        have A95 := Aside0.mk A950
        clear A950
        as_aux_lemma =>
         obtain rfl := Option.some.inj H
         go_wp2_with (first | ((with_reducible refine gate_callee (f := 14) rfl ?_); refine goesL_ (some 150) rfl rfl Try.func14 (by kernel_rfl) rfl #[] rfl al_ ?_; (with_reducible refine (comfitlaw06_awake.calls k2  t274 _ A95.out).mono ?_); rintro e w96 ⟨rfl, hb⟩; refine ⟨_, rfl, ?_⟩; have n0_ := Aside0.mk (bkb_ BK262.out hb); have n1_ := Aside0.mk (bkb_ BK271.out hb); have n2_ := Aside0.mk (below_step (hb_ HB.out) hb); clear BK262; clear BK271; clear HB; have BK262 := n0_; have BK271 := n1_; have HB := n2_; clear n0_ n1_ n2_; (try clear hb); (try clear hb2); (try clear hk); (try clear hi)))
         go_ret
         exact ⟨by first | rfl | (simp [errW_none, errW_some] <;> rfl) | (simp [*, errW_none, errW_some] <;> rfl), hb_ HB.out⟩
     ·replace c28 := Bool.eq_false_iff.mpr c28
      subst c28
      have H1 : ((comfitlaw06_awake.f kj5).bind fun t273 => (some t273)) = some r := by rw [if_neg (show ¬ (false = true) by decide)] at H; exact H
      clear H
      have H := H1
      clear H1
      replace H := Option.bind_eq_some_iff.mp H
      obtain ⟨t273, A970, H⟩ := H
      replace H : (some t273) = some r := H
      have A97 := Aside0.mk A970
      clear A970
      as_aux_lemma =>
       obtain rfl := Option.some.inj H
       have hcz98_0 : wc.cell? ⟨gb262, 0, none⟩ = some (.int .i64 a1_0) := (blk_cell BK262.out 0).trans rfl
       have hcz98_1 : wc.cell? ⟨gb262, 1, none⟩ = some (.int .i64 a1_1) := (blk_cell BK262.out 1).trans rfl
       have hfz98_0 := blk_frozen BK262.out 0
       have hfz98_1 := blk_frozen BK262.out 1
       go_wp2_with (first | ((with_reducible refine gate_dst (N := 13) rfl ?_); (try (refine gate_guard (by rfl) ?_; dsimp only)); refine box_event ?hg (N := 13) ?hd (cs := #[.int .i64 0, .int .i64 0]) (t := 23) ?hr ?_; (case hd => rfl); (case hg => rfl); (case hr => first | (go_simp; done) | (go_simp; rfl)); intro gb271 hg w99 hbox hb; have n0_ := Aside0.mk (bkb_ BK262.out hb); have n1_ := Aside0.mk (below_step (hb_ HB.out) hb); have n2_ := Aside0.mk (hbox); have n3_ := Aside0.mk ((by rw [hg]; exact (below_size (hb_ HB.out)) : w.heap.size ≤ gb271)); have n4_ := Aside0.mk ((by rw [hg]; exact (below_size (hb_ HB.out)) : w.heap.size ≤ gb271)); have n5_ := Aside0.mk ((by rw [hg]; exact Nat.ne_of_lt (bkl_ BK262.out) : gb262 ≠ gb271)); have n6_ := Aside0.mk ((by rw [hg]; exact Nat.ne_of_gt (bkl_ BK262.out) : gb271 ≠ gb262)); clear BK262; clear HB; have BK262 := n0_; have HB := n1_; have BK271 := n2_; have GW271 := n3_; have GE271 := n4_; have NB262_271 := n5_; have NB271_262 := n6_; clear n0_ n1_ n2_ n3_ n4_ n5_ n6_; clear hb hbox hg; have hnb100 := NB271_262.out; have hnc100 := NB262_271.out; have hcz101_0 : w99.cell? ⟨gb271, 0, none⟩ = some (.int .i64 0) := (blk_cell BK271.out 0).trans rfl; have hcz101_1 : w99.cell? ⟨gb271, 1, none⟩ = some (.int .i64 0) := (blk_cell BK271.out 1).trans rfl; have hfz101_0 := blk_frozen BK271.out 0; have hfz101_1 := blk_frozen BK271.out 1) | ((with_reducible refine gate_callee (f := 13) rfl ?_); refine goesL_ (some 63) rfl rfl Try.func13 (by kernel_rfl) rfl #[.agg #[.int .i64 (wrap64 (a1_0 + (wrap64 (Int.tmod (IntKind.u64.wrap (a3)) 20)))), .int .i64 a1_1]] rfl al_ ?_; (with_reducible refine (comfitref06_Jars.calls (wrap64 (a1_0 + (wrap64 (Int.tmod (IntKind.u64.wrap (a3)) 20)))) a1_1 false _ A27.out).mono ?_); rintro e w102 ⟨rfl, hb⟩; refine ⟨_, rfl, ?_⟩; have n0_ := Aside0.mk (blk_below (g := gb262) (o := .cells #[.int .i64 a1_0, .int .i64 a1_1] 23 (0, 0)) (by (with_reducible repeat (first | refine blk_drewN ?_ _ | refine blk_drew ?_ | refine blk_alloc ?_ _)); refine blk_far ?_ NB262_271.out _; (with_reducible repeat (first | refine blk_drewN ?_ _ | refine blk_drew ?_ | refine blk_alloc ?_ _)); refine blk_far ?_ NB262_271.out _; (with_reducible repeat (first | refine blk_drewN ?_ _ | refine blk_drew ?_ | refine blk_alloc ?_ _)); refine blk_far ?_ NB262_271.out _; (with_reducible repeat (first | refine blk_drewN ?_ _ | refine blk_drew ?_ | refine blk_alloc ?_ _)); exact BK262.out) hb); have n1_ := Aside0.mk (blk_below (g := gb271) (o := .cells #[.int .i64 (wrap64 (a1_0 + (wrap64 (Int.tmod (IntKind.u64.wrap (a3)) 20)))), .int .i64 a1_1] 23 (0, 0)) (by (with_reducible repeat (first | refine blk_drewN ?_ _ | refine blk_drew ?_ | refine blk_alloc ?_ _)); refine blk_put (cs := #[.int .i64 a1_0, .int .i64 a1_1]) ?_ 0 _ rfl; (with_reducible repeat (first | refine blk_drewN ?_ _ | refine blk_drew ?_ | refine blk_alloc ?_ _)); refine blk_put (cs := #[.int .i64 a1_0, .int .i64 0]) ?_ 1 _ rfl; (with_reducible repeat (first | refine blk_drewN ?_ _ | refine blk_drew ?_ | refine blk_alloc ?_ _)); refine blk_put (cs := #[.int .i64 0, .int .i64 0]) ?_ 0 _ rfl; (with_reducible repeat (first | refine blk_drewN ?_ _ | refine blk_drew ?_ | refine blk_alloc ?_ _)); exact BK271.out) hb); have n2_ := Aside0.mk (below_step (hb_ HB.out) hb); clear BK262; clear BK271; clear HB; have BK262 := n0_; have BK271 := n1_; have HB := n2_; clear n0_ n1_ n2_; (try clear hb); (try clear hb2); (try clear hk); (try clear hi)) | ((with_reducible refine gate_callee (f := 14) rfl ?_); refine goesL_ (some 65) rfl rfl Try.func14 (by kernel_rfl) rfl #[] rfl al_ ?_; (with_reducible refine (comfitlaw06_awake.calls kj5  t273 _ A97.out).mono ?_); rintro e w103 ⟨rfl, hb⟩; refine ⟨_, rfl, ?_⟩; have n0_ := Aside0.mk (bkb_ BK262.out hb); have n1_ := Aside0.mk (bkb_ BK271.out hb); have n2_ := Aside0.mk (below_step (hb_ HB.out) hb); clear BK262; clear BK271; clear HB; have BK262 := n0_; have BK271 := n1_; have HB := n2_; clear n0_ n1_ n2_; (try clear hb); (try clear hb2); (try clear hk); (try clear hi)))
       go_ret
       exact ⟨by first | rfl | (simp [errW_none, errW_some] <;> rfl) | (simp [*, errW_none, errW_some] <;> rfl), hb_ HB.out⟩
    ·rw [if_neg c26] at H
     have c26b0 : ((iq25) == 0) = false := beq_eq_false_iff_ne.mpr c26
     have c26b1 : ((iq25) != 0) = true := bne_iff_ne.mpr c26
     by_cases c104 : (iq25) = 1
     ·rw [if_pos c104] at H
      subst c104
      replace H := Option.bind_eq_some_iff.mp H
      obtain ⟨t299, A1050, H⟩ := H
      replace H : (if t299 = true then (comfitlaw06_TagsMore.l0 kj5 l0 1 (wrap64 (Int.tmod (IntKind.u64.wrap (a3)) 20)) (wrap64 ((wrap64 (Int.tmod (IntKind.u64.wrap (a4)) 60)) + 1)) 0 a1_0 a1_1 a1_0 (wrap64 (a1_1 + (wrap64 (Int.tmod (IntKind.u64.wrap (a3)) 20))))) else ((comfitlaw06_awake.f kj5).bind fun t300 => (some t300))) = some r := H
      have A105 := Aside0.mk A1050
      clear A1050
      by_cases c106 : t299 = true
      ·subst c106
       have H1 : (comfitlaw06_TagsMore.l0 kj5 l0 1 (wrap64 (Int.tmod (IntKind.u64.wrap (a3)) 20)) (wrap64 ((wrap64 (Int.tmod (IntKind.u64.wrap (a4)) 60)) + 1)) 0 a1_0 a1_1 a1_0 (wrap64 (a1_1 + (wrap64 (Int.tmod (IntKind.u64.wrap (a3)) 20))))) = some r := by rw [if_pos rfl] at H; exact H
       clear H
       have H := H1
       clear H1
       have H' := Aside0.mk H
       clear H
       have hcz107_0 : wc.cell? ⟨gb262, 0, none⟩ = some (.int .i64 a1_0) := (blk_cell BK262.out 0).trans rfl
       have hcz107_1 : wc.cell? ⟨gb262, 1, none⟩ = some (.int .i64 a1_1) := (blk_cell BK262.out 1).trans rfl
       have hfz107_0 := blk_frozen BK262.out 0
       have hfz107_1 := blk_frozen BK262.out 1
       go_wp2_with (first | ((with_reducible refine gate_dst (N := 13) rfl ?_); (try (refine gate_guard (by rfl) ?_; dsimp only)); refine box_event ?hg (N := 13) ?hd (cs := #[.int .i64 0, .int .i64 0]) (t := 23) ?hr ?_; (case hd => rfl); (case hg => rfl); (case hr => first | (go_simp; done) | (go_simp; rfl)); intro gb271 hg w108 hbox hb; have n0_ := Aside0.mk (bkb_ BK262.out hb); have n1_ := Aside0.mk (below_step (hb_ HB.out) hb); have n2_ := Aside0.mk (hbox); have n3_ := Aside0.mk ((by rw [hg]; exact (below_size (hb_ HB.out)) : w.heap.size ≤ gb271)); have n4_ := Aside0.mk ((by rw [hg]; exact (below_size (hb_ HB.out)) : w.heap.size ≤ gb271)); have n5_ := Aside0.mk ((by rw [hg]; exact Nat.ne_of_lt (bkl_ BK262.out) : gb262 ≠ gb271)); have n6_ := Aside0.mk ((by rw [hg]; exact Nat.ne_of_gt (bkl_ BK262.out) : gb271 ≠ gb262)); clear BK262; clear HB; have BK262 := n0_; have HB := n1_; have BK271 := n2_; have GW271 := n3_; have GE271 := n4_; have NB262_271 := n5_; have NB271_262 := n6_; clear n0_ n1_ n2_ n3_ n4_ n5_ n6_; clear hb hbox hg; have hnb109 := NB271_262.out; have hnc109 := NB262_271.out; have hcz110_0 : w108.cell? ⟨gb271, 0, none⟩ = some (.int .i64 0) := (blk_cell BK271.out 0).trans rfl; have hcz110_1 : w108.cell? ⟨gb271, 1, none⟩ = some (.int .i64 0) := (blk_cell BK271.out 1).trans rfl; have hfz110_0 := blk_frozen BK271.out 0; have hfz110_1 := blk_frozen BK271.out 1) | ((with_reducible refine gate_callee (f := 13) rfl ?_); refine goesL_ (some 63) rfl rfl Try.func13 (by kernel_rfl) rfl #[.agg #[.int .i64 a1_0, .int .i64 (wrap64 (a1_1 + (wrap64 (Int.tmod (IntKind.u64.wrap (a3)) 20))))]] rfl al_ ?_; (with_reducible refine (comfitref06_Jars.calls a1_0 (wrap64 (a1_1 + (wrap64 (Int.tmod (IntKind.u64.wrap (a3)) 20)))) true _ A105.out).mono ?_); rintro e w111 ⟨rfl, hb⟩; refine ⟨_, rfl, ?_⟩; have n0_ := Aside0.mk (blk_below (g := gb262) (o := .cells #[.int .i64 a1_0, .int .i64 a1_1] 23 (0, 0)) (by (with_reducible repeat (first | refine blk_drewN ?_ _ | refine blk_drew ?_ | refine blk_alloc ?_ _)); refine blk_far ?_ NB262_271.out _; (with_reducible repeat (first | refine blk_drewN ?_ _ | refine blk_drew ?_ | refine blk_alloc ?_ _)); refine blk_far ?_ NB262_271.out _; (with_reducible repeat (first | refine blk_drewN ?_ _ | refine blk_drew ?_ | refine blk_alloc ?_ _)); refine blk_far ?_ NB262_271.out _; (with_reducible repeat (first | refine blk_drewN ?_ _ | refine blk_drew ?_ | refine blk_alloc ?_ _)); exact BK262.out) hb); have n1_ := Aside0.mk (blk_below (g := gb271) (o := .cells #[.int .i64 a1_0, .int .i64 (wrap64 (a1_1 + (wrap64 (Int.tmod (IntKind.u64.wrap (a3)) 20))))] 23 (0, 0)) (by (with_reducible repeat (first | refine blk_drewN ?_ _ | refine blk_drew ?_ | refine blk_alloc ?_ _)); refine blk_put (cs := #[.int .i64 a1_0, .int .i64 a1_1]) ?_ 1 _ rfl; (with_reducible repeat (first | refine blk_drewN ?_ _ | refine blk_drew ?_ | refine blk_alloc ?_ _)); refine blk_put (cs := #[.int .i64 a1_0, .int .i64 0]) ?_ 1 _ rfl; (with_reducible repeat (first | refine blk_drewN ?_ _ | refine blk_drew ?_ | refine blk_alloc ?_ _)); refine blk_put (cs := #[.int .i64 0, .int .i64 0]) ?_ 0 _ rfl; (with_reducible repeat (first | refine blk_drewN ?_ _ | refine blk_drew ?_ | refine blk_alloc ?_ _)); exact BK271.out) hb); have n2_ := Aside0.mk (below_step (hb_ HB.out) hb); clear BK262; clear BK271; clear HB; have BK262 := n0_; have BK271 := n1_; have HB := n2_; clear n0_ n1_ n2_; (try clear hb); (try clear hb2); (try clear hk); (try clear hi)))
       go_loopg [68] kj5 (fun kq v68 w' => ∃ (x68_2 : Int), v68 = .int .i64 x68_2 ∧ Aside0 (comfitlaw06_TagsMore.l0 kq l0 1 (wrap64 (Int.tmod (IntKind.u64.wrap (a3)) 20)) (wrap64 ((wrap64 (Int.tmod (IntKind.u64.wrap (a4)) 60)) + 1)) x68_2 a1_0 a1_1 a1_0 (wrap64 (a1_1 + (wrap64 (Int.tmod (IntKind.u64.wrap (a3)) 20)))) = some r) ∧ Aside0 (kq ≤ kj5) ∧ Aside0 (w'.heap[gb262]? = some (.cells #[.int .i64 a1_0, .int .i64 a1_1] 23 (0, 0))) ∧ Aside0 (w'.heap[gb271]? = some (.cells #[.int .i64 a1_0, .int .i64 (wrap64 (a1_1 + (wrap64 (Int.tmod (IntKind.u64.wrap (a3)) 20))))] 23 (0, 0))) ∧ Aside0 (Below w.heap.size w w'))
       case atStart => exact ⟨(0), sr_, H', ⟨Nat.le_refl _⟩, ⟨bk_ BK262.out⟩, ⟨bk_ BK271.out⟩, ⟨hb_ HB.out⟩⟩
       case round =>
        clear H'
        try clear c1
        try clear c2
        try clear p2
        try clear q2
        try clear hx2
        try clear c3
        try clear c5
        try clear c6
        try clear p6
        try clear c7
        try clear c8
        try clear c9
        try clear c10
        try clear c11
        try clear c13
        try clear c14
        try clear q25
        try clear c26
        try clear c26b0
        try clear c26b1
        try clear c28
        try clear p29
        try clear q29
        try clear hx29
        try clear c34
        try clear c34b0
        try clear c57
        try clear c57b0
        try clear c57b1
        try clear c58
        try clear c58b0
        try clear c58b1
        try clear c59
        try clear c59b0
        try clear c60
        try clear c62
        try clear c63
        try clear c64
        try clear p64
        try clear c66
        try clear c66b0
        try clear c66b1
        try clear c67
        try clear c67b0
        try clear c68
        try clear c69
        try clear c70
        try clear c72
        try clear c73
        try clear c75
        try clear c76
        try clear c77
        try clear c79
        try clear c80
        try clear c82
        try clear c84
        try clear c84b0
        try clear c85
        try clear c85b0
        try clear c86
        try clear c86b0
        try clear c86b1
        try clear c87
        try clear c87b0
        try clear c87b1
        try clear c88
        try clear c89
        try clear c90
        try clear c92
        try clear c100
        try clear c104
        try clear c106
        try clear c109
        try clear hcz101_0
        try clear hcz101_1
        try clear hcz107_0
        try clear hcz107_1
        try clear hcz110_0
        try clear hcz110_1
        try clear hcz65_0
        try clear hcz65_1
        try clear hcz71_0
        try clear hcz71_1
        try clear hcz74_0
        try clear hcz74_1
        try clear hcz78_0
        try clear hcz78_1
        try clear hcz81_0
        try clear hcz81_1
        try clear hcz91_0
        try clear hcz91_1
        try clear hcz98_0
        try clear hcz98_1
        try clear hfz101_0
        try clear hfz101_1
        try clear hfz107_0
        try clear hfz107_1
        try clear hfz110_0
        try clear hfz110_1
        try clear hfz65_0
        try clear hfz65_1
        try clear hfz71_0
        try clear hfz71_1
        try clear hfz74_0
        try clear hfz74_1
        try clear hfz78_0
        try clear hfz78_1
        try clear hfz81_0
        try clear hfz81_1
        try clear hfz91_0
        try clear hfz91_1
        try clear hfz98_0
        try clear hfz98_1
        try clear hx293_0
        try clear hx293_1
        try clear hx293_2
        try clear hx293_3
        try clear hx294_0
        try clear hx294_1
        try clear hx294_2
        try clear hx294_3
        try clear p2
        try clear p29
        try clear p293
        try clear p294
        try clear p6
        try clear p64
        try clear q2
        try clear q25
        try clear q29
        try clear q293
        try clear q294
        obtain ⟨x68_2, rfl, HA, HK2, BK262, BK271, HB⟩ := hrel
        cases gk with
        | zero => exact absurd HA.out (by simp [comfitlaw06_TagsMore.l0])
        | succ k2 =>
         have H := HA.out
         clear HA
         simp only [comfitlaw06_TagsMore.l0] at H
         by_cases c112 : x68_2 < (wrap64 ((wrap64 (Int.tmod (IntKind.u64.wrap (a4)) 60)) + 1))
         ·rw [if_pos c112] at H
          have c112b0 : decide (x68_2 < (wrap64 ((wrap64 (Int.tmod (IntKind.u64.wrap (a4)) 60)) + 1))) = true := decide_eq_true c112
          clear c112
          replace H := Option.bind_eq_some_iff.mp H
          obtain ⟨t275, A1130, H⟩ := H
          replace H : ((tags_Go.f k2 t275 a1_0 a1_1 x68_2).bind fun bt278 => ((comfitlaw06_Of.f k2 l0).bind fun t284 => ((tags_Go.f k2 t284 a1_0 (wrap64 (a1_1 + (wrap64 (Int.tmod (IntKind.u64.wrap (a3)) 20)))) x68_2).bind fun bt287 => (if bt278.2.2.2.2 = 0 then (if bt287.2.2.2.2 = 0 then (if bt278.1 < 0 then (j2 k2 l0 1 (wrap64 (Int.tmod (IntKind.u64.wrap (a3)) 20)) bt278.1 bt278.2.2.2.1 bt287.1 bt287.2.2.2.1 (wrap64 ((wrap64 (Int.tmod (IntKind.u64.wrap (a4)) 60)) + 1)) x68_2 true a1_0 a1_1 a1_0 (wrap64 (a1_1 + (wrap64 (Int.tmod (IntKind.u64.wrap (a3)) 20)))) bt278.2.1 bt278.2.2.1 bt287.2.1 bt287.2.2.1) else (j2 k2 l0 1 (wrap64 (Int.tmod (IntKind.u64.wrap (a3)) 20)) bt278.1 bt278.2.2.2.1 bt287.1 bt287.2.2.2.1 (wrap64 ((wrap64 (Int.tmod (IntKind.u64.wrap (a4)) 60)) + 1)) x68_2 (decide (bt278.1 ≥ (l0.length : Int))) a1_0 a1_1 a1_0 (wrap64 (a1_1 + (wrap64 (Int.tmod (IntKind.u64.wrap (a3)) 20)))) bt278.2.1 bt278.2.2.1 bt287.2.1 bt287.2.2.1)) else (j2 k2 l0 1 (wrap64 (Int.tmod (IntKind.u64.wrap (a3)) 20)) bt278.1 bt278.2.2.2.1 bt287.1 bt287.2.2.2.1 (wrap64 ((wrap64 (Int.tmod (IntKind.u64.wrap (a4)) 60)) + 1)) x68_2 true a1_0 a1_1 a1_0 (wrap64 (a1_1 + (wrap64 (Int.tmod (IntKind.u64.wrap (a3)) 20)))) bt278.2.1 bt278.2.2.1 bt287.2.1 bt287.2.2.1)) else (j2 k2 l0 1 (wrap64 (Int.tmod (IntKind.u64.wrap (a3)) 20)) bt278.1 bt278.2.2.2.1 bt287.1 bt287.2.2.2.1 (wrap64 ((wrap64 (Int.tmod (IntKind.u64.wrap (a4)) 60)) + 1)) x68_2 true a1_0 a1_1 a1_0 (wrap64 (a1_1 + (wrap64 (Int.tmod (IntKind.u64.wrap (a3)) 20)))) bt278.2.1 bt278.2.2.1 bt287.2.1 bt287.2.2.1))))) = some r := H
          have A113 := Aside0.mk A1130
          clear A1130
          replace H := Option.bind_eq_some_iff.mp H
          obtain ⟨⟨t278, t279, t280, t281, t282⟩, A1140, H⟩ := H
          replace H : ((comfitlaw06_Of.f k2 l0).bind fun t284 => ((tags_Go.f k2 t284 a1_0 (wrap64 (a1_1 + (wrap64 (Int.tmod (IntKind.u64.wrap (a3)) 20)))) x68_2).bind fun bt287 => (if t282 = 0 then (if bt287.2.2.2.2 = 0 then (if t278 < 0 then (j2 k2 l0 1 (wrap64 (Int.tmod (IntKind.u64.wrap (a3)) 20)) t278 t281 bt287.1 bt287.2.2.2.1 (wrap64 ((wrap64 (Int.tmod (IntKind.u64.wrap (a4)) 60)) + 1)) x68_2 true a1_0 a1_1 a1_0 (wrap64 (a1_1 + (wrap64 (Int.tmod (IntKind.u64.wrap (a3)) 20)))) t279 t280 bt287.2.1 bt287.2.2.1) else (j2 k2 l0 1 (wrap64 (Int.tmod (IntKind.u64.wrap (a3)) 20)) t278 t281 bt287.1 bt287.2.2.2.1 (wrap64 ((wrap64 (Int.tmod (IntKind.u64.wrap (a4)) 60)) + 1)) x68_2 (decide (t278 ≥ (l0.length : Int))) a1_0 a1_1 a1_0 (wrap64 (a1_1 + (wrap64 (Int.tmod (IntKind.u64.wrap (a3)) 20)))) t279 t280 bt287.2.1 bt287.2.2.1)) else (j2 k2 l0 1 (wrap64 (Int.tmod (IntKind.u64.wrap (a3)) 20)) t278 t281 bt287.1 bt287.2.2.2.1 (wrap64 ((wrap64 (Int.tmod (IntKind.u64.wrap (a4)) 60)) + 1)) x68_2 true a1_0 a1_1 a1_0 (wrap64 (a1_1 + (wrap64 (Int.tmod (IntKind.u64.wrap (a3)) 20)))) t279 t280 bt287.2.1 bt287.2.2.1)) else (j2 k2 l0 1 (wrap64 (Int.tmod (IntKind.u64.wrap (a3)) 20)) t278 t281 bt287.1 bt287.2.2.2.1 (wrap64 ((wrap64 (Int.tmod (IntKind.u64.wrap (a4)) 60)) + 1)) x68_2 true a1_0 a1_1 a1_0 (wrap64 (a1_1 + (wrap64 (Int.tmod (IntKind.u64.wrap (a3)) 20)))) t279 t280 bt287.2.1 bt287.2.2.1)))) = some r := H
          have A114 := Aside0.mk A1140
          clear A1140
          replace H := Option.bind_eq_some_iff.mp H
          obtain ⟨t284, A1150, H⟩ := H
          replace H : ((tags_Go.f k2 t284 a1_0 (wrap64 (a1_1 + (wrap64 (Int.tmod (IntKind.u64.wrap (a3)) 20)))) x68_2).bind fun bt287 => (if t282 = 0 then (if bt287.2.2.2.2 = 0 then (if t278 < 0 then (j2 k2 l0 1 (wrap64 (Int.tmod (IntKind.u64.wrap (a3)) 20)) t278 t281 bt287.1 bt287.2.2.2.1 (wrap64 ((wrap64 (Int.tmod (IntKind.u64.wrap (a4)) 60)) + 1)) x68_2 true a1_0 a1_1 a1_0 (wrap64 (a1_1 + (wrap64 (Int.tmod (IntKind.u64.wrap (a3)) 20)))) t279 t280 bt287.2.1 bt287.2.2.1) else (j2 k2 l0 1 (wrap64 (Int.tmod (IntKind.u64.wrap (a3)) 20)) t278 t281 bt287.1 bt287.2.2.2.1 (wrap64 ((wrap64 (Int.tmod (IntKind.u64.wrap (a4)) 60)) + 1)) x68_2 (decide (t278 ≥ (l0.length : Int))) a1_0 a1_1 a1_0 (wrap64 (a1_1 + (wrap64 (Int.tmod (IntKind.u64.wrap (a3)) 20)))) t279 t280 bt287.2.1 bt287.2.2.1)) else (j2 k2 l0 1 (wrap64 (Int.tmod (IntKind.u64.wrap (a3)) 20)) t278 t281 bt287.1 bt287.2.2.2.1 (wrap64 ((wrap64 (Int.tmod (IntKind.u64.wrap (a4)) 60)) + 1)) x68_2 true a1_0 a1_1 a1_0 (wrap64 (a1_1 + (wrap64 (Int.tmod (IntKind.u64.wrap (a3)) 20)))) t279 t280 bt287.2.1 bt287.2.2.1)) else (j2 k2 l0 1 (wrap64 (Int.tmod (IntKind.u64.wrap (a3)) 20)) t278 t281 bt287.1 bt287.2.2.2.1 (wrap64 ((wrap64 (Int.tmod (IntKind.u64.wrap (a4)) 60)) + 1)) x68_2 true a1_0 a1_1 a1_0 (wrap64 (a1_1 + (wrap64 (Int.tmod (IntKind.u64.wrap (a3)) 20)))) t279 t280 bt287.2.1 bt287.2.2.1))) = some r := H
          have A115 := Aside0.mk A1150
          clear A1150
          replace H := Option.bind_eq_some_iff.mp H
          obtain ⟨⟨t287, t288, t289, t290, t291⟩, A1160, H⟩ := H
          replace H : (if t282 = 0 then (if t291 = 0 then (if t278 < 0 then (j2 k2 l0 1 (wrap64 (Int.tmod (IntKind.u64.wrap (a3)) 20)) t278 t281 t287 t290 (wrap64 ((wrap64 (Int.tmod (IntKind.u64.wrap (a4)) 60)) + 1)) x68_2 true a1_0 a1_1 a1_0 (wrap64 (a1_1 + (wrap64 (Int.tmod (IntKind.u64.wrap (a3)) 20)))) t279 t280 t288 t289) else (j2 k2 l0 1 (wrap64 (Int.tmod (IntKind.u64.wrap (a3)) 20)) t278 t281 t287 t290 (wrap64 ((wrap64 (Int.tmod (IntKind.u64.wrap (a4)) 60)) + 1)) x68_2 (decide (t278 ≥ (l0.length : Int))) a1_0 a1_1 a1_0 (wrap64 (a1_1 + (wrap64 (Int.tmod (IntKind.u64.wrap (a3)) 20)))) t279 t280 t288 t289)) else (j2 k2 l0 1 (wrap64 (Int.tmod (IntKind.u64.wrap (a3)) 20)) t278 t281 t287 t290 (wrap64 ((wrap64 (Int.tmod (IntKind.u64.wrap (a4)) 60)) + 1)) x68_2 true a1_0 a1_1 a1_0 (wrap64 (a1_1 + (wrap64 (Int.tmod (IntKind.u64.wrap (a3)) 20)))) t279 t280 t288 t289)) else (j2 k2 l0 1 (wrap64 (Int.tmod (IntKind.u64.wrap (a3)) 20)) t278 t281 t287 t290 (wrap64 ((wrap64 (Int.tmod (IntKind.u64.wrap (a4)) 60)) + 1)) x68_2 true a1_0 a1_1 a1_0 (wrap64 (a1_1 + (wrap64 (Int.tmod (IntKind.u64.wrap (a3)) 20)))) t279 t280 t288 t289)) = some r := H
          have A116 := Aside0.mk A1160
          clear A1160
          have HC117 := Aside0.mk H
          clear H
          try go_wp2
          have n0_ := Aside0.mk (blk_drew BK262.out)
          have n1_ := Aside0.mk (blk_drew BK271.out)
          have n2_ := Aside0.mk (below_drew1 HB.out)
          clear BK262
          clear BK271
          clear HB
          have BK262 := n0_
          have BK271 := n1_
          have HB := n2_
          clear n0_ n1_ n2_
          refine start_ (n := 15) (S := fun w' => w'.cell? ⟨gb262, 0, none⟩ = some (.int .i64 a1_0) ∧ w'.cell? ⟨gb262, 1, none⟩ = some (.int .i64 a1_1)) (ds := []) #[false, false, false, false, false, false, false, false, false, false, false, false, false, false, false] (by kernel_rfl) rfl rfl ⟨(blk_cell BK262.out 0).trans rfl, (blk_cell BK262.out 1).trans rfl⟩ (fun hHeld => ?_); refine with_tabW comfitlaw06_TagsMore.tab12 comfitlaw06_TagsMore.bits12 (fun HT_ HW_ => ?_)
          generalize wr.drew = w118 at BK262 BK271 HB hHeld ⊢
          refine pure_ (i := 0) (N := some 72) (v := ?_) (a' := ?_) #[true, false, false, false, false, false, false, false, false, false, false, false, false, false, false] rfl rfl (any_of HT_.out (by kernel_rfl)) (fun _ _ _ h => h) (Or.inl ⟨by rfl, ?_⟩) ?_ ?_
          rotate_left
          ·intro w'
           go_simp
           with_reducible rfl
          rotate_left
          ·simp only [Act.put, List.setIfInBounds_toArray, List.set_cons_zero, List.set_cons_succ, i64_w, i32_w]
           rfl
          refine pure_ (i := 3) (N := some 75) (v := ?_) (a' := ?_) #[true, false, false, true, false, false, false, false, false, false, false, false, false, false, false] rfl rfl (any_of HT_.out (by kernel_rfl)) (fun _ _ _ h => h) (Or.inl ⟨by rfl, ?_⟩) ?_ ?_
          rotate_left
          ·intro w'
           go_simp
           with_reducible rfl
          rotate_left
          ·simp only [Act.put, List.setIfInBounds_toArray, List.set_cons_zero, List.set_cons_succ, i64_w, i32_w]
           rfl
          refine take_ (i := 2) (N := some 74) (v := ?_) (a' := ?_) #[true, false, true, true, false, false, false, false, false, false, false, false, false, false, false] rfl rfl (take_ofW HT_.out HW_.out (by kernel_rfl)) (fun _ _ _ h => h) (Or.inl ⟨by rfl, ?_⟩) hHeld ?_ ?_
          rotate_left
          ·rintro w' ⟨s0, s1⟩
           go_simp
           with_reducible rfl
          rotate_left
          ·simp only [Act.put, List.setIfInBounds_toArray, List.set_cons_zero, List.set_cons_succ, i64_w, i32_w]
           rfl
          refine join_ (σ := Value × Nat) 4 #[true, true, true, true, true, true, true, true, true, true, true, false, false, false, false] (fun s_ => [(73, s_.1), (76, .tuple #[.int .i64 t278, .agg #[.int .i64 t279, .int .i64 t280], .int .i64 t281, .int .i64 t282]), (16, .pointer (some ⟨s_.2, 0, none⟩)), (71, .tuple #[.int .i64 t278, .agg #[.int .i64 t279, .int .i64 t280], .int .i64 t281, .int .i64 t282]), (77, .int .i64 t278), (78, .agg #[.int .i64 t279, .int .i64 t280]), (79, .int .i64 t281), (80, .int .i64 t282)]) (fun s_ w' => (w'.cell? ⟨gb262, 0, none⟩ = some (.int .i64 a1_0) ∧ w'.cell? ⟨gb262, 1, none⟩ = some (.int .i64 a1_1)) ∧ (Kd.R k57 57 w' w.heap.size (fun _ => True) s_.1 t275) ∧ (w'.heap[gb262]? = some (.cells #[.int .i64 a1_0, .int .i64 a1_1] 23 (0, 0))) ∧ (w'.heap[gb271]? = some (.cells #[.int .i64 a1_0, .int .i64 (wrap64 (a1_1 + (wrap64 (Int.tmod (IntKind.u64.wrap (a3)) 20))))] 23 (0, 0))) ∧ (w'.heap[s_.2]? = some (.cells #[.int .i64 0, .int .i64 0] 23 (0, 0))) ∧ (w.heap.size ≤ s_.2) ∧ (w.heap.size ≤ s_.2) ∧ (gb262 ≠ s_.2) ∧ (s_.2 ≠ gb262) ∧ (gb271 ≠ s_.2) ∧ (s_.2 ≠ gb271) ∧ (Below w.heap.size w w')) ?_ ?_
          rotate_left
          ·intro hCont
           refine two_ (i := 1) (j := 10) (Ni := some 73) (Nj := some 16) #[true, true, true, true, false, false, false, false, false, false, false, false, false, false, false] #[true, false, true, true, false, false, false, false, false, false, true, false, false, false, false] rfl rfl rfl rfl (two_of HT_.out (by kernel_rfl)) (by decide) (by decide) (fun K hK => ?_) (fun K hK => ?_)
           ·skip
            refine goes_ Try.func11 (by kernel_rfl) rfl #[.slice A0 l0.length c0] (by rfl) rfl rfl al_ ?_
            with_reducible refine (comfitlaw06_Of.calls k2 _ _ l0 t275 _ ?side1 ?side2 A113.out).mono ?_
            (case side1 => exact kc_ (Kd.C_below HR0.out HB.out))
            (case side2 => exact HC0.out)
            rintro e w119 ⟨v276, rfl, ho0, hb⟩
            refine ⟨_, rfl, ?_⟩
            have n0_ := Aside0.mk (Kd.R_lower ho0 (below_size (hb_ HB.out)))
            have n1_ := Aside0.mk (bkb_ BK262.out hb)
            have n2_ := Aside0.mk (bkb_ BK271.out hb)
            have n3_ := Aside0.mk (below_step (hb_ HB.out) hb)
            clear BK262
            clear BK271
            clear HB
            have HO277 := n0_
            have BK262 := n1_
            have BK271 := n2_
            have HB := n3_
            clear n0_ n1_ n2_ n3_
            (try clear hb)
            (try clear hb2)
            (try clear hk)
            (try clear hi)
            (try clear ho0)
            obtain ⟨Ao120, co120, eo120⟩ := Kd.R_slice HO277.out
            (first | subst eo120 | (injection eo120 with f1_ f2_ f3_; have f4_ := f1_.symm; have f5_ := f3_.symm; clear f1_ f2_ f3_; subst f4_; subst f5_))
            refine hK.out _ _ ⟨(blk_cell BK262.out 0).trans rfl, (blk_cell BK262.out 1).trans rfl⟩ (fun hHeld => ?_)
            clear hK K
            refine norm_ (a' := ?_) ?_ ?_
            rotate_left
            ·show Act.put _ (some 73) _ = _
             simp only [Act.put, List.setIfInBounds_toArray, List.set_cons_zero, List.set_cons_succ, i64_w, i32_w]
             rfl
            refine two_ (i := 4) (j := 10) (Ni := some 76) (Nj := some 16) #[true, true, true, true, true, false, false, false, false, false, false, false, false, false, false] #[true, true, true, true, false, false, false, false, false, false, true, false, false, false, false] rfl rfl rfl rfl (two_of HT_.out (by kernel_rfl)) (by decide) (by decide) (fun K hK => ?_) (fun K hK => ?_)
            ·skip
             refine goes_ Try.func10 (by kernel_rfl) rfl #[.slice Ao120 t275.length co120, .agg #[.int .i64 a1_0, .int .i64 a1_1], .int .i64 x68_2] (by rfl) rfl rfl al_ ?_
             with_reducible refine (tags_Go.calls k2 _ _ t275 a1_0 a1_1 x68_2 t278 t279 t280 t281 t282 _ ?side1 ?side2 A114.out).mono ?_
             (case side1 => exact kc_ (Kd.R_reads' HO277.out).2.2)
             (case side2 => exact (Kd.R_reads' HO277.out).2.1)
             rintro e w121 ⟨rfl, hb⟩
             refine ⟨_, rfl, ?_⟩
             have n0_ := Aside0.mk (Kd.R_below (kr_ (HO277.out)) hb)
             have n1_ := Aside0.mk (bkb_ BK262.out hb)
             have n2_ := Aside0.mk (bkb_ BK271.out hb)
             have n3_ := Aside0.mk (below_step (hb_ HB.out) hb)
             clear HO277
             clear BK262
             clear BK271
             clear HB
             have HO277 := n0_
             have BK262 := n1_
             have BK271 := n2_
             have HB := n3_
             clear n0_ n1_ n2_ n3_
             (try clear hb)
             (try clear hb2)
             (try clear hk)
             (try clear hi)
             refine hK.out _ _ ⟨(blk_cell BK262.out 0).trans rfl, (blk_cell BK262.out 1).trans rfl⟩ (fun hHeld => ?_)
             clear hK K
             refine norm_ (a' := ?_) ?_ ?_
             rotate_left
             ·show Act.put _ (some 76) _ = _
              simp only [Act.put, List.setIfInBounds_toArray, List.set_cons_zero, List.set_cons_succ, i64_w, i32_w]
              rfl
             refine pure_ (i := 5) (N := some 71) (v := ?_) (a' := ?_) #[true, true, true, true, true, true, false, false, false, false, false, false, false, false, false] rfl rfl (any_of HT_.out (by kernel_rfl)) (fun _ _ _ h => h) (Or.inl ⟨by rfl, ?_⟩) ?_ ?_
             rotate_left
             ·intro w'
              go_simp
              with_reducible rfl
             rotate_left
             ·simp only [Act.put, List.setIfInBounds_toArray, List.set_cons_zero, List.set_cons_succ, i64_w, i32_w]
              rfl
             refine pure_ (i := 6) (N := some 77) (v := ?_) (a' := ?_) #[true, true, true, true, true, true, true, false, false, false, false, false, false, false, false] rfl rfl (any_of HT_.out (by kernel_rfl)) (fun _ _ _ h => h) (Or.inl ⟨by rfl, ?_⟩) ?_ ?_
             rotate_left
             ·intro w'
              go_simp
              with_reducible rfl
             rotate_left
             ·simp only [Act.put, List.setIfInBounds_toArray, List.set_cons_zero, List.set_cons_succ, i64_w, i32_w]
              rfl
             refine pure_ (i := 7) (N := some 78) (v := ?_) (a' := ?_) #[true, true, true, true, true, true, true, true, false, false, false, false, false, false, false] rfl rfl (any_of HT_.out (by kernel_rfl)) (fun _ _ _ h => h) (Or.inl ⟨by rfl, ?_⟩) ?_ ?_
             rotate_left
             ·intro w'
              go_simp
              with_reducible rfl
             rotate_left
             ·simp only [Act.put, List.setIfInBounds_toArray, List.set_cons_zero, List.set_cons_succ, i64_w, i32_w]
              rfl
             refine pure_ (i := 8) (N := some 79) (v := ?_) (a' := ?_) #[true, true, true, true, true, true, true, true, true, false, false, false, false, false, false] rfl rfl (any_of HT_.out (by kernel_rfl)) (fun _ _ _ h => h) (Or.inl ⟨by rfl, ?_⟩) ?_ ?_
             rotate_left
             ·intro w'
              go_simp
              with_reducible rfl
             rotate_left
             ·simp only [Act.put, List.setIfInBounds_toArray, List.set_cons_zero, List.set_cons_succ, i64_w, i32_w]
              rfl
             refine pure_ (i := 9) (N := some 80) (v := ?_) (a' := ?_) #[true, true, true, true, true, true, true, true, true, true, false, false, false, false, false] rfl rfl (any_of HT_.out (by kernel_rfl)) (fun _ _ _ h => h) (Or.inl ⟨by rfl, ?_⟩) ?_ ?_
             rotate_left
             ·intro w'
              go_simp
              with_reducible rfl
             rotate_left
             ·simp only [Act.put, List.setIfInBounds_toArray, List.set_cons_zero, List.set_cons_succ, i64_w, i32_w]
              rfl
             refine one_ (i := 10) (N := some 16) #[true, true, true, true, true, true, true, true, true, true, true, false, false, false, false] rfl rfl (one_of HT_.out (by kernel_rfl)) (by decide) (fun K hK => ?_)
             refine box_step ?hg (N := 16) ?hd (cs := #[.int .i64 0, .int .i64 0]) (t := 23) ?hr ?_; (case hd => rfl); (case hg => rfl); (case hr => first | (go_simp; done) | (go_simp; rfl))
             intro gb283 hg w122 hbox hb
             have n0_ := Aside0.mk (Kd.R_below (kr_ (HO277.out)) hb)
             have n1_ := Aside0.mk (bkb_ BK262.out hb)
             have n2_ := Aside0.mk (bkb_ BK271.out hb)
             have n3_ := Aside0.mk (below_step (hb_ HB.out) hb)
             have n4_ := Aside0.mk (hbox)
             have n5_ := Aside0.mk ((by rw [hg]; exact (below_size (hb_ HB.out)) : w.heap.size ≤ gb283))
             have n6_ := Aside0.mk ((by rw [hg]; exact (below_size (hb_ HB.out)) : w.heap.size ≤ gb283))
             have n7_ := Aside0.mk ((by rw [hg]; exact Nat.ne_of_lt (bkl_ BK262.out) : gb262 ≠ gb283))
             have n8_ := Aside0.mk ((by rw [hg]; exact Nat.ne_of_gt (bkl_ BK262.out) : gb283 ≠ gb262))
             have n9_ := Aside0.mk ((by rw [hg]; exact Nat.ne_of_lt (bkl_ BK271.out) : gb271 ≠ gb283))
             have n10_ := Aside0.mk ((by rw [hg]; exact Nat.ne_of_gt (bkl_ BK271.out) : gb283 ≠ gb271))
             clear HO277
             clear BK262
             clear BK271
             clear HB
             have HO277 := n0_
             have BK262 := n1_
             have BK271 := n2_
             have HB := n3_
             have BK283 := n4_
             have GW283 := n5_
             have GE283 := n6_
             have NB262_283 := n7_
             have NB283_262 := n8_
             have NB271_283 := n9_
             have NB283_271 := n10_
             clear n0_ n1_ n2_ n3_ n4_ n5_ n6_ n7_ n8_ n9_ n10_
             clear hb hbox hg
             refine hK.out _ _ ⟨(blk_cell BK262.out 0).trans rfl, (blk_cell BK262.out 1).trans rfl⟩ (fun hHeld => ?_)
             clear hK K
             refine norm_ (a' := ?_) ?_ ?_
             rotate_left
             ·show Act.put _ (some 16) _ = _
              simp only [Act.put, List.setIfInBounds_toArray, List.set_cons_zero, List.set_cons_succ, i64_w, i32_w]
              rfl
             exact norm_ (by simp only [putAll, Act.put, List.setIfInBounds_toArray, List.set_cons_zero, List.set_cons_succ]) (hCont (.slice Ao120 t275.length co120, gb283) _ ⟨hHeld, (kr_ (HO277.out)), (bk_ BK262.out), (bk_ BK271.out), (bk_ BK283.out), GW283.out, GE283.out, NB262_283.out, NB283_262.out, NB271_283.out, NB283_271.out, (hb_ HB.out)⟩)
            ·skip
             refine box_step ?hg (N := 16) ?hd (cs := #[.int .i64 0, .int .i64 0]) (t := 23) ?hr ?_; (case hd => rfl); (case hg => rfl); (case hr => first | (go_simp; done) | (go_simp; rfl))
             intro gb283 hg w120 hbox hb
             have n0_ := Aside0.mk (Kd.R_below (kr_ (HO277.out)) hb)
             have n1_ := Aside0.mk (bkb_ BK262.out hb)
             have n2_ := Aside0.mk (bkb_ BK271.out hb)
             have n3_ := Aside0.mk (below_step (hb_ HB.out) hb)
             have n4_ := Aside0.mk (hbox)
             have n5_ := Aside0.mk ((by rw [hg]; exact (below_size (hb_ HB.out)) : w.heap.size ≤ gb283))
             have n6_ := Aside0.mk ((by rw [hg]; exact (below_size (hb_ HB.out)) : w.heap.size ≤ gb283))
             have n7_ := Aside0.mk ((by rw [hg]; exact Nat.ne_of_lt (bkl_ BK262.out) : gb262 ≠ gb283))
             have n8_ := Aside0.mk ((by rw [hg]; exact Nat.ne_of_gt (bkl_ BK262.out) : gb283 ≠ gb262))
             have n9_ := Aside0.mk ((by rw [hg]; exact Nat.ne_of_lt (bkl_ BK271.out) : gb271 ≠ gb283))
             have n10_ := Aside0.mk ((by rw [hg]; exact Nat.ne_of_gt (bkl_ BK271.out) : gb283 ≠ gb271))
             clear HO277
             clear BK262
             clear BK271
             clear HB
             have HO277 := n0_
             have BK262 := n1_
             have BK271 := n2_
             have HB := n3_
             have BK283 := n4_
             have GW283 := n5_
             have GE283 := n6_
             have NB262_283 := n7_
             have NB283_262 := n8_
             have NB271_283 := n9_
             have NB283_271 := n10_
             clear n0_ n1_ n2_ n3_ n4_ n5_ n6_ n7_ n8_ n9_ n10_
             clear hb hbox hg
             obtain ⟨Ao121, co121, eo121⟩ := Kd.R_slice HO277.out
             (first | subst eo121 | (injection eo121 with f1_ f2_ f3_; have f4_ := f1_.symm; have f5_ := f3_.symm; clear f1_ f2_ f3_; subst f4_; subst f5_))
             refine hK.out _ _ ⟨(blk_cell BK262.out 0).trans rfl, (blk_cell BK262.out 1).trans rfl⟩ (fun hHeld => ?_)
             clear hK K
             refine norm_ (a' := ?_) ?_ ?_
             rotate_left
             ·show Act.put _ (some 16) _ = _
              simp only [Act.put, List.setIfInBounds_toArray, List.set_cons_zero, List.set_cons_succ, i64_w, i32_w]
              rfl
             refine one_ (i := 4) (N := some 76) #[true, true, true, true, true, false, false, false, false, false, true, false, false, false, false] rfl rfl (one_of HT_.out (by kernel_rfl)) (by decide) (fun K hK => ?_)
             refine goes_ Try.func10 (by kernel_rfl) rfl #[.slice Ao121 t275.length co121, .agg #[.int .i64 a1_0, .int .i64 a1_1], .int .i64 x68_2] (by rfl) rfl rfl al_ ?_
             with_reducible refine (tags_Go.calls k2 _ _ t275 a1_0 a1_1 x68_2 t278 t279 t280 t281 t282 _ ?side1 ?side2 A114.out).mono ?_
             (case side1 => exact kc_ (Kd.R_reads' HO277.out).2.2)
             (case side2 => exact (Kd.R_reads' HO277.out).2.1)
             rintro e w122 ⟨rfl, hb⟩
             refine ⟨_, rfl, ?_⟩
             have n0_ := Aside0.mk (Kd.R_below (kr_ (HO277.out)) hb)
             have n1_ := Aside0.mk (bkb_ BK262.out hb)
             have n2_ := Aside0.mk (bkb_ BK271.out hb)
             have n3_ := Aside0.mk (bkb_ BK283.out hb)
             have n4_ := Aside0.mk (below_step (hb_ HB.out) hb)
             clear HO277
             clear BK262
             clear BK271
             clear BK283
             clear HB
             have HO277 := n0_
             have BK262 := n1_
             have BK271 := n2_
             have BK283 := n3_
             have HB := n4_
             clear n0_ n1_ n2_ n3_ n4_
             (try clear hb)
             (try clear hb2)
             (try clear hk)
             (try clear hi)
             refine hK.out _ _ ⟨(blk_cell BK262.out 0).trans rfl, (blk_cell BK262.out 1).trans rfl⟩ (fun hHeld => ?_)
             clear hK K
             refine norm_ (a' := ?_) ?_ ?_
             rotate_left
             ·show Act.put _ (some 76) _ = _
              simp only [Act.put, List.setIfInBounds_toArray, List.set_cons_zero, List.set_cons_succ, i64_w, i32_w]
              rfl
             refine pure_ (i := 5) (N := some 71) (v := ?_) (a' := ?_) #[true, true, true, true, true, true, false, false, false, false, true, false, false, false, false] rfl rfl (any_of HT_.out (by kernel_rfl)) (fun _ _ _ h => h) (Or.inl ⟨by rfl, ?_⟩) ?_ ?_
             rotate_left
             ·intro w'
              go_simp
              with_reducible rfl
             rotate_left
             ·simp only [Act.put, List.setIfInBounds_toArray, List.set_cons_zero, List.set_cons_succ, i64_w, i32_w]
              rfl
             refine pure_ (i := 6) (N := some 77) (v := ?_) (a' := ?_) #[true, true, true, true, true, true, true, false, false, false, true, false, false, false, false] rfl rfl (any_of HT_.out (by kernel_rfl)) (fun _ _ _ h => h) (Or.inl ⟨by rfl, ?_⟩) ?_ ?_
             rotate_left
             ·intro w'
              go_simp
              with_reducible rfl
             rotate_left
             ·simp only [Act.put, List.setIfInBounds_toArray, List.set_cons_zero, List.set_cons_succ, i64_w, i32_w]
              rfl
             refine pure_ (i := 7) (N := some 78) (v := ?_) (a' := ?_) #[true, true, true, true, true, true, true, true, false, false, true, false, false, false, false] rfl rfl (any_of HT_.out (by kernel_rfl)) (fun _ _ _ h => h) (Or.inl ⟨by rfl, ?_⟩) ?_ ?_
             rotate_left
             ·intro w'
              go_simp
              with_reducible rfl
             rotate_left
             ·simp only [Act.put, List.setIfInBounds_toArray, List.set_cons_zero, List.set_cons_succ, i64_w, i32_w]
              rfl
             refine pure_ (i := 8) (N := some 79) (v := ?_) (a' := ?_) #[true, true, true, true, true, true, true, true, true, false, true, false, false, false, false] rfl rfl (any_of HT_.out (by kernel_rfl)) (fun _ _ _ h => h) (Or.inl ⟨by rfl, ?_⟩) ?_ ?_
             rotate_left
             ·intro w'
              go_simp
              with_reducible rfl
             rotate_left
             ·simp only [Act.put, List.setIfInBounds_toArray, List.set_cons_zero, List.set_cons_succ, i64_w, i32_w]
              rfl
             refine pure_ (i := 9) (N := some 80) (v := ?_) (a' := ?_) #[true, true, true, true, true, true, true, true, true, true, true, false, false, false, false] rfl rfl (any_of HT_.out (by kernel_rfl)) (fun _ _ _ h => h) (Or.inl ⟨by rfl, ?_⟩) ?_ ?_
             rotate_left
             ·intro w'
              go_simp
              with_reducible rfl
             rotate_left
             ·simp only [Act.put, List.setIfInBounds_toArray, List.set_cons_zero, List.set_cons_succ, i64_w, i32_w]
              rfl
             exact norm_ (by simp only [putAll, Act.put, List.setIfInBounds_toArray, List.set_cons_zero, List.set_cons_succ]) (hCont (.slice Ao121 t275.length co121, gb283) _ ⟨hHeld, (kr_ (HO277.out)), (bk_ BK262.out), (bk_ BK271.out), (bk_ BK283.out), GW283.out, GE283.out, NB262_283.out, NB283_262.out, NB271_283.out, NB283_271.out, (hb_ HB.out)⟩)
           ·skip
            refine box_step ?hg (N := 16) ?hd (cs := #[.int .i64 0, .int .i64 0]) (t := 23) ?hr ?_; (case hd => rfl); (case hg => rfl); (case hr => first | (go_simp; done) | (go_simp; rfl))
            intro gb283 hg w119 hbox hb
            have n0_ := Aside0.mk (bkb_ BK262.out hb)
            have n1_ := Aside0.mk (bkb_ BK271.out hb)
            have n2_ := Aside0.mk (below_step (hb_ HB.out) hb)
            have n3_ := Aside0.mk (hbox)
            have n4_ := Aside0.mk ((by rw [hg]; exact (below_size (hb_ HB.out)) : w.heap.size ≤ gb283))
            have n5_ := Aside0.mk ((by rw [hg]; exact (below_size (hb_ HB.out)) : w.heap.size ≤ gb283))
            have n6_ := Aside0.mk ((by rw [hg]; exact Nat.ne_of_lt (bkl_ BK262.out) : gb262 ≠ gb283))
            have n7_ := Aside0.mk ((by rw [hg]; exact Nat.ne_of_gt (bkl_ BK262.out) : gb283 ≠ gb262))
            have n8_ := Aside0.mk ((by rw [hg]; exact Nat.ne_of_lt (bkl_ BK271.out) : gb271 ≠ gb283))
            have n9_ := Aside0.mk ((by rw [hg]; exact Nat.ne_of_gt (bkl_ BK271.out) : gb283 ≠ gb271))
            clear BK262
            clear BK271
            clear HB
            have BK262 := n0_
            have BK271 := n1_
            have HB := n2_
            have BK283 := n3_
            have GW283 := n4_
            have GE283 := n5_
            have NB262_283 := n6_
            have NB283_262 := n7_
            have NB271_283 := n8_
            have NB283_271 := n9_
            clear n0_ n1_ n2_ n3_ n4_ n5_ n6_ n7_ n8_ n9_
            clear hb hbox hg
            refine hK.out _ _ ⟨(blk_cell BK262.out 0).trans rfl, (blk_cell BK262.out 1).trans rfl⟩ (fun hHeld => ?_)
            clear hK K
            refine norm_ (a' := ?_) ?_ ?_
            rotate_left
            ·show Act.put _ (some 16) _ = _
             simp only [Act.put, List.setIfInBounds_toArray, List.set_cons_zero, List.set_cons_succ, i64_w, i32_w]
             rfl
            refine one_ (i := 1) (N := some 73) #[true, true, true, true, false, false, false, false, false, false, true, false, false, false, false] rfl rfl (one_of HT_.out (by kernel_rfl)) (by decide) (fun K hK => ?_)
            refine goes_ Try.func11 (by kernel_rfl) rfl #[.slice A0 l0.length c0] (by rfl) rfl rfl al_ ?_
            with_reducible refine (comfitlaw06_Of.calls k2 _ _ l0 t275 _ ?side1 ?side2 A113.out).mono ?_
            (case side1 => exact kc_ (Kd.C_below HR0.out HB.out))
            (case side2 => exact HC0.out)
            rintro e w120 ⟨v276, rfl, ho0, hb⟩
            refine ⟨_, rfl, ?_⟩
            have n0_ := Aside0.mk (Kd.R_lower ho0 (below_size (hb_ HB.out)))
            have n1_ := Aside0.mk (bkb_ BK262.out hb)
            have n2_ := Aside0.mk (bkb_ BK271.out hb)
            have n3_ := Aside0.mk (bkb_ BK283.out hb)
            have n4_ := Aside0.mk (below_step (hb_ HB.out) hb)
            clear BK262
            clear BK271
            clear BK283
            clear HB
            have HO277 := n0_
            have BK262 := n1_
            have BK271 := n2_
            have BK283 := n3_
            have HB := n4_
            clear n0_ n1_ n2_ n3_ n4_
            (try clear hb)
            (try clear hb2)
            (try clear hk)
            (try clear hi)
            (try clear ho0)
            obtain ⟨Ao121, co121, eo121⟩ := Kd.R_slice HO277.out
            (first | subst eo121 | (injection eo121 with f1_ f2_ f3_; have f4_ := f1_.symm; have f5_ := f3_.symm; clear f1_ f2_ f3_; subst f4_; subst f5_))
            refine hK.out _ _ ⟨(blk_cell BK262.out 0).trans rfl, (blk_cell BK262.out 1).trans rfl⟩ (fun hHeld => ?_)
            clear hK K
            refine norm_ (a' := ?_) ?_ ?_
            rotate_left
            ·show Act.put _ (some 73) _ = _
             simp only [Act.put, List.setIfInBounds_toArray, List.set_cons_zero, List.set_cons_succ, i64_w, i32_w]
             rfl
            refine one_ (i := 4) (N := some 76) #[true, true, true, true, true, false, false, false, false, false, true, false, false, false, false] rfl rfl (one_of HT_.out (by kernel_rfl)) (by decide) (fun K hK => ?_)
            refine goes_ Try.func10 (by kernel_rfl) rfl #[.slice Ao121 t275.length co121, .agg #[.int .i64 a1_0, .int .i64 a1_1], .int .i64 x68_2] (by rfl) rfl rfl al_ ?_
            with_reducible refine (tags_Go.calls k2 _ _ t275 a1_0 a1_1 x68_2 t278 t279 t280 t281 t282 _ ?side1 ?side2 A114.out).mono ?_
            (case side1 => exact kc_ (Kd.R_reads' HO277.out).2.2)
            (case side2 => exact (Kd.R_reads' HO277.out).2.1)
            rintro e w122 ⟨rfl, hb⟩
            refine ⟨_, rfl, ?_⟩
            have n0_ := Aside0.mk (Kd.R_below (kr_ (HO277.out)) hb)
            have n1_ := Aside0.mk (bkb_ BK262.out hb)
            have n2_ := Aside0.mk (bkb_ BK271.out hb)
            have n3_ := Aside0.mk (bkb_ BK283.out hb)
            have n4_ := Aside0.mk (below_step (hb_ HB.out) hb)
            clear HO277
            clear BK262
            clear BK271
            clear BK283
            clear HB
            have HO277 := n0_
            have BK262 := n1_
            have BK271 := n2_
            have BK283 := n3_
            have HB := n4_
            clear n0_ n1_ n2_ n3_ n4_
            (try clear hb)
            (try clear hb2)
            (try clear hk)
            (try clear hi)
            refine hK.out _ _ ⟨(blk_cell BK262.out 0).trans rfl, (blk_cell BK262.out 1).trans rfl⟩ (fun hHeld => ?_)
            clear hK K
            refine norm_ (a' := ?_) ?_ ?_
            rotate_left
            ·show Act.put _ (some 76) _ = _
             simp only [Act.put, List.setIfInBounds_toArray, List.set_cons_zero, List.set_cons_succ, i64_w, i32_w]
             rfl
            refine pure_ (i := 5) (N := some 71) (v := ?_) (a' := ?_) #[true, true, true, true, true, true, false, false, false, false, true, false, false, false, false] rfl rfl (any_of HT_.out (by kernel_rfl)) (fun _ _ _ h => h) (Or.inl ⟨by rfl, ?_⟩) ?_ ?_
            rotate_left
            ·intro w'
             go_simp
             with_reducible rfl
            rotate_left
            ·simp only [Act.put, List.setIfInBounds_toArray, List.set_cons_zero, List.set_cons_succ, i64_w, i32_w]
             rfl
            refine pure_ (i := 6) (N := some 77) (v := ?_) (a' := ?_) #[true, true, true, true, true, true, true, false, false, false, true, false, false, false, false] rfl rfl (any_of HT_.out (by kernel_rfl)) (fun _ _ _ h => h) (Or.inl ⟨by rfl, ?_⟩) ?_ ?_
            rotate_left
            ·intro w'
             go_simp
             with_reducible rfl
            rotate_left
            ·simp only [Act.put, List.setIfInBounds_toArray, List.set_cons_zero, List.set_cons_succ, i64_w, i32_w]
             rfl
            refine pure_ (i := 7) (N := some 78) (v := ?_) (a' := ?_) #[true, true, true, true, true, true, true, true, false, false, true, false, false, false, false] rfl rfl (any_of HT_.out (by kernel_rfl)) (fun _ _ _ h => h) (Or.inl ⟨by rfl, ?_⟩) ?_ ?_
            rotate_left
            ·intro w'
             go_simp
             with_reducible rfl
            rotate_left
            ·simp only [Act.put, List.setIfInBounds_toArray, List.set_cons_zero, List.set_cons_succ, i64_w, i32_w]
             rfl
            refine pure_ (i := 8) (N := some 79) (v := ?_) (a' := ?_) #[true, true, true, true, true, true, true, true, true, false, true, false, false, false, false] rfl rfl (any_of HT_.out (by kernel_rfl)) (fun _ _ _ h => h) (Or.inl ⟨by rfl, ?_⟩) ?_ ?_
            rotate_left
            ·intro w'
             go_simp
             with_reducible rfl
            rotate_left
            ·simp only [Act.put, List.setIfInBounds_toArray, List.set_cons_zero, List.set_cons_succ, i64_w, i32_w]
             rfl
            refine pure_ (i := 9) (N := some 80) (v := ?_) (a' := ?_) #[true, true, true, true, true, true, true, true, true, true, true, false, false, false, false] rfl rfl (any_of HT_.out (by kernel_rfl)) (fun _ _ _ h => h) (Or.inl ⟨by rfl, ?_⟩) ?_ ?_
            rotate_left
            ·intro w'
             go_simp
             with_reducible rfl
            rotate_left
            ·simp only [Act.put, List.setIfInBounds_toArray, List.set_cons_zero, List.set_cons_succ, i64_w, i32_w]
             rfl
            exact norm_ (by simp only [putAll, Act.put, List.setIfInBounds_toArray, List.set_cons_zero, List.set_cons_succ]) (hCont (.slice Ao121 t275.length co121, gb283) _ ⟨hHeld, (kr_ (HO277.out)), (bk_ BK262.out), (bk_ BK271.out), (bk_ BK283.out), GW283.out, GE283.out, NB262_283.out, NB283_262.out, NB271_283.out, NB283_271.out, (hb_ HB.out)⟩)
          rintro ⟨v276, gb283⟩ w123 ⟨hS_, h0_, h1_, h2_, h3_, h4_, h5_, h6_, h7_, h8_, h9_, h10_⟩
          have n0_ : Aside0 (Kd.R k57 57 w123 w.heap.size (fun _ => True) v276 t275) := ⟨h0_⟩
          have n1_ : Aside0 (w123.heap[gb262]? = some (.cells #[.int .i64 a1_0, .int .i64 a1_1] 23 (0, 0))) := ⟨h1_⟩
          have n2_ : Aside0 (w123.heap[gb271]? = some (.cells #[.int .i64 a1_0, .int .i64 (wrap64 (a1_1 + (wrap64 (Int.tmod (IntKind.u64.wrap (a3)) 20))))] 23 (0, 0))) := ⟨h2_⟩
          have n3_ : Aside0 (w123.heap[gb283]? = some (.cells #[.int .i64 0, .int .i64 0] 23 (0, 0))) := ⟨h3_⟩
          have n4_ : Aside0 (w.heap.size ≤ gb283) := ⟨h4_⟩
          have n5_ : Aside0 (w.heap.size ≤ gb283) := ⟨h5_⟩
          have n6_ : Aside0 (gb262 ≠ gb283) := ⟨h6_⟩
          have n7_ : Aside0 (gb283 ≠ gb262) := ⟨h7_⟩
          have n8_ : Aside0 (gb271 ≠ gb283) := ⟨h8_⟩
          have n9_ : Aside0 (gb283 ≠ gb271) := ⟨h9_⟩
          have n10_ : Aside0 (Below w.heap.size w w123) := ⟨h10_⟩
          clear BK262
          clear BK271
          clear HB
          clear h0_ h1_ h2_ h3_ h4_ h5_ h6_ h7_ h8_ h9_ h10_
          have HO277 := n0_
          have BK262 := n1_
          have BK271 := n2_
          have BK283 := n3_
          have GW283 := n4_
          have GE283 := n5_
          have NB262_283 := n6_
          have NB283_262 := n7_
          have NB271_283 := n8_
          have NB283_271 := n9_
          have HB := n10_
          clear n0_ n1_ n2_ n3_ n4_ n5_ n6_ n7_ n8_ n9_ n10_
          have hHeld : w123.cell? ⟨gb262, 0, none⟩ = some (.int .i64 a1_0) ∧ w123.cell? ⟨gb262, 1, none⟩ = some (.int .i64 a1_1) := hS_
          refine norm_ (a' := ?_) ?_ ?_
          rotate_left
          ·simp only [putAll, Act.put, List.setIfInBounds_toArray, List.set_cons_zero, List.set_cons_succ]
           rfl
          refine pure_ (i := 11) (N := some 15) (v := ?_) (a' := ?_) #[true, true, true, true, true, true, true, true, true, true, true, true, false, false, false] rfl rfl (any_of HT_.out (by kernel_rfl)) (fun _ _ _ h => h) (Or.inl ⟨by rfl, ?_⟩) ?_ ?_
          rotate_left
          ·intro w'
           go_simp
           with_reducible rfl
          rotate_left
          ·simp only [Act.put, List.setIfInBounds_toArray, List.set_cons_zero, List.set_cons_succ, i64_w, i32_w]
           rfl
          refine one_ (i := 12) (N := none) #[true, true, true, true, true, true, true, true, true, true, true, true, true, false, false] rfl rfl (one_of HT_.out (by kernel_rfl)) (by decide) (fun K hK => ?_)
          have hs124 : w123.cell? ⟨gb283, 0, none⟩ = some (.int .i64 0) := (blk_cell BK283.out 0).trans rfl
          have hfs124 := blk_frozen BK283.out 0
          have hns124_0 := NB262_283.out
          have hns124_1 := NB271_283.out
          have hms124_0 := NB283_262.out
          have hms124_1 := NB283_271.out
          have hs125 : w123.cell? ⟨gb283, 1, none⟩ = some (.int .i64 0) := (blk_cell BK283.out 1).trans rfl
          have hfs125 := blk_frozen BK283.out 1
          have hns125_0 := NB262_283.out
          have hns125_1 := NB271_283.out
          have hms125_0 := NB283_262.out
          have hms125_1 := NB283_271.out
          refine skip_ (w1 := ?_) (by rfl) rfl ?_ ?_
          rotate_left
          ·go_simp
           rfl
          refine hK.out _ _ ⟨((cell_far (p := ⟨gb283, _, none⟩) NB262_283.out _).trans (((cell_far (p := ⟨gb283, _, none⟩) NB262_283.out _).trans (hHeld.1)))), ((cell_far (p := ⟨gb283, _, none⟩) NB262_283.out _).trans (((cell_far (p := ⟨gb283, _, none⟩) NB262_283.out _).trans (hHeld.2))))⟩ (fun hHeld => ?_)
          clear hK K
          refine pure_ (i := 13) (N := some 17) (v := ?_) (a' := ?_) #[true, true, true, true, true, true, true, true, true, true, true, true, true, true, false] rfl rfl (any_of HT_.out (by kernel_rfl)) (fun _ _ _ h => h) (Or.inl ⟨by rfl, ?_⟩) ?_ ?_
          rotate_left
          ·intro w'
           go_simp
           with_reducible rfl
          rotate_left
          ·simp only [Act.put, List.setIfInBounds_toArray, List.set_cons_zero, List.set_cons_succ, i64_w, i32_w]
           rfl
          refine pure_ (i := 14) (N := some 18) (v := ?_) (a' := ?_) #[true, true, true, true, true, true, true, true, true, true, true, true, true, true, true] rfl rfl (any_of HT_.out (by kernel_rfl)) (fun _ _ _ h => h) (Or.inl ⟨by rfl, ?_⟩) ?_ ?_
          rotate_left
          ·intro w'
           go_simp
           with_reducible rfl
          rotate_left
          ·simp only [Act.put, List.setIfInBounds_toArray, List.set_cons_zero, List.set_cons_succ, i64_w, i32_w]
           rfl
          refine done_ (done_of HT_.out (by kernel_rfl)) ?_
          try go_wp2
          have n0_ : Aside0 (Kd.R k57 57 ((w123.setCell ⟨gb283, 0, none⟩ (.int .i64 t279)).setCell ⟨gb283, 1, none⟩ (.int .i64 t280)) w.heap.size (fun _ => True) v276 t275) := ⟨by (with_reducible repeat (first | apply Kd.R_alloc | apply Kd.R_drewN | apply Kd.R_drew)); exact Kd.R_mono (Kd.R_far (p := ⟨gb283, 1, none⟩) (Kd.R_far (p := ⟨gb283, 0, none⟩) (Kd.R_types HO277.out BK283.out (by decide)) (fun _ hk => hk.2) (.int .i64 t279)) (fun _ hk => hk.2) (.int .i64 t280)) (fun _ hk => trivial)⟩
          have n1_ : Aside0 (((w123.setCell ⟨gb283, 0, none⟩ (.int .i64 t279)).setCell ⟨gb283, 1, none⟩ (.int .i64 t280)).heap[gb262]? = some (.cells #[.int .i64 a1_0, .int .i64 a1_1] 23 (0, 0))) := ⟨by (with_reducible repeat (first | refine blk_drewN ?_ _ | refine blk_drew ?_ | refine blk_alloc ?_ _)); refine blk_far ?_ NB262_283.out _; (with_reducible repeat (first | refine blk_drewN ?_ _ | refine blk_drew ?_ | refine blk_alloc ?_ _)); refine blk_far ?_ NB262_283.out _; (with_reducible repeat (first | refine blk_drewN ?_ _ | refine blk_drew ?_ | refine blk_alloc ?_ _)); exact BK262.out⟩
          have n2_ : Aside0 (((w123.setCell ⟨gb283, 0, none⟩ (.int .i64 t279)).setCell ⟨gb283, 1, none⟩ (.int .i64 t280)).heap[gb271]? = some (.cells #[.int .i64 a1_0, .int .i64 (wrap64 (a1_1 + (wrap64 (Int.tmod (IntKind.u64.wrap (a3)) 20))))] 23 (0, 0))) := ⟨by (with_reducible repeat (first | refine blk_drewN ?_ _ | refine blk_drew ?_ | refine blk_alloc ?_ _)); refine blk_far ?_ NB271_283.out _; (with_reducible repeat (first | refine blk_drewN ?_ _ | refine blk_drew ?_ | refine blk_alloc ?_ _)); refine blk_far ?_ NB271_283.out _; (with_reducible repeat (first | refine blk_drewN ?_ _ | refine blk_drew ?_ | refine blk_alloc ?_ _)); exact BK271.out⟩
          have n3_ : Aside0 (((w123.setCell ⟨gb283, 0, none⟩ (.int .i64 t279)).setCell ⟨gb283, 1, none⟩ (.int .i64 t280)).heap[gb283]? = some (.cells #[.int .i64 t279, .int .i64 t280] 23 (0, 0))) := ⟨by (with_reducible repeat (first | refine blk_drewN ?_ _ | refine blk_drew ?_ | refine blk_alloc ?_ _)); refine blk_put (cs := #[.int .i64 t279, .int .i64 0]) ?_ 1 _ rfl; (with_reducible repeat (first | refine blk_drewN ?_ _ | refine blk_drew ?_ | refine blk_alloc ?_ _)); refine blk_put (cs := #[.int .i64 0, .int .i64 0]) ?_ 0 _ rfl; (with_reducible repeat (first | refine blk_drewN ?_ _ | refine blk_drew ?_ | refine blk_alloc ?_ _)); exact BK283.out⟩
          have n4_ : Aside0 (Below w.heap.size w ((w123.setCell ⟨gb283, 0, none⟩ (.int .i64 t279)).setCell ⟨gb283, 1, none⟩ (.int .i64 t280))) := ⟨hb_ HB.out⟩
          (try clear HO277)
          (try clear BK262)
          (try clear BK271)
          (try clear BK283)
          (try clear HB)
          generalize ((w123.setCell ⟨gb283, 0, none⟩ (.int .i64 t279)).setCell ⟨gb283, 1, none⟩ (.int .i64 t280)) = w126 at n0_ n1_ n2_ n3_ n4_ ⊢
          have HO277 := n0_
          have BK262 := n1_
          have BK271 := n2_
          have BK283 := n3_
          have HB := n4_
          clear n0_ n1_ n2_ n3_ n4_
          have n0_ := Aside0.mk (Kd.R_drew HO277.out)
          have n1_ := Aside0.mk (blk_drew BK262.out)
          have n2_ := Aside0.mk (blk_drew BK271.out)
          have n3_ := Aside0.mk (blk_drew BK283.out)
          have n4_ := Aside0.mk (below_drew1 HB.out)
          clear HO277
          clear BK262
          clear BK271
          clear BK283
          clear HB
          have HO277 := n0_
          have BK262 := n1_
          have BK271 := n2_
          have BK283 := n3_
          have HB := n4_
          clear n0_ n1_ n2_ n3_ n4_
          refine start_ (n := 15) (S := fun w' => w'.cell? ⟨gb271, 0, none⟩ = some (.int .i64 a1_0) ∧ w'.cell? ⟨gb271, 1, none⟩ = some (.int .i64 (wrap64 (a1_1 + (wrap64 (Int.tmod (IntKind.u64.wrap (a3)) 20)))))) (ds := []) #[false, false, false, false, false, false, false, false, false, false, false, false, false, false, false] (by kernel_rfl) rfl rfl ⟨(blk_cell BK271.out 0).trans rfl, (blk_cell BK271.out 1).trans rfl⟩ (fun hHeld => ?_); refine with_tabW comfitlaw06_TagsMore.tab13 comfitlaw06_TagsMore.bits13 (fun HT_ HW_ => ?_)
          generalize w126.drew = w127 at HO277 BK262 BK271 BK283 HB hHeld ⊢
          refine pure_ (i := 0) (N := some 82) (v := ?_) (a' := ?_) #[true, false, false, false, false, false, false, false, false, false, false, false, false, false, false] rfl rfl (any_of HT_.out (by kernel_rfl)) (fun _ _ _ h => h) (Or.inl ⟨by rfl, ?_⟩) ?_ ?_
          rotate_left
          ·intro w'
           go_simp
           with_reducible rfl
          rotate_left
          ·simp only [Act.put, List.setIfInBounds_toArray, List.set_cons_zero, List.set_cons_succ, i64_w, i32_w]
           rfl
          refine pure_ (i := 3) (N := some 85) (v := ?_) (a' := ?_) #[true, false, false, true, false, false, false, false, false, false, false, false, false, false, false] rfl rfl (any_of HT_.out (by kernel_rfl)) (fun _ _ _ h => h) (Or.inl ⟨by rfl, ?_⟩) ?_ ?_
          rotate_left
          ·intro w'
           go_simp
           with_reducible rfl
          rotate_left
          ·simp only [Act.put, List.setIfInBounds_toArray, List.set_cons_zero, List.set_cons_succ, i64_w, i32_w]
           rfl
          refine take_ (i := 2) (N := some 84) (v := ?_) (a' := ?_) #[true, false, true, true, false, false, false, false, false, false, false, false, false, false, false] rfl rfl (take_ofW HT_.out HW_.out (by kernel_rfl)) (fun _ _ _ h => h) (Or.inl ⟨by rfl, ?_⟩) hHeld ?_ ?_
          rotate_left
          ·rintro w' ⟨s0, s1⟩
           go_simp
           with_reducible rfl
          rotate_left
          ·simp only [Act.put, List.setIfInBounds_toArray, List.set_cons_zero, List.set_cons_succ, i64_w, i32_w]
           rfl
          refine join_ (σ := Value × Nat) 4 #[true, true, true, true, true, true, true, true, true, true, true, false, false, false, false] (fun s_ => [(83, s_.1), (86, .tuple #[.int .i64 t287, .agg #[.int .i64 t288, .int .i64 t289], .int .i64 t290, .int .i64 t291]), (20, .pointer (some ⟨s_.2, 0, none⟩)), (81, .tuple #[.int .i64 t287, .agg #[.int .i64 t288, .int .i64 t289], .int .i64 t290, .int .i64 t291]), (87, .int .i64 t287), (88, .agg #[.int .i64 t288, .int .i64 t289]), (89, .int .i64 t290), (90, .int .i64 t291)]) (fun s_ w' => (w'.cell? ⟨gb271, 0, none⟩ = some (.int .i64 a1_0) ∧ w'.cell? ⟨gb271, 1, none⟩ = some (.int .i64 (wrap64 (a1_1 + (wrap64 (Int.tmod (IntKind.u64.wrap (a3)) 20)))))) ∧ (Kd.R k57 57 w' w.heap.size (fun k_ => some k_ ≠ (s_.1 : Value).ownBlock) v276 t275) ∧ (Kd.R k57 57 w' w.heap.size (fun k_ => some k_ ≠ (v276 : Value).ownBlock) s_.1 t284) ∧ (w'.heap[gb262]? = some (.cells #[.int .i64 a1_0, .int .i64 a1_1] 23 (0, 0))) ∧ (w'.heap[gb271]? = some (.cells #[.int .i64 a1_0, .int .i64 (wrap64 (a1_1 + (wrap64 (Int.tmod (IntKind.u64.wrap (a3)) 20))))] 23 (0, 0))) ∧ (w'.heap[gb283]? = some (.cells #[.int .i64 t279, .int .i64 t280] 23 (0, 0))) ∧ (w'.heap[s_.2]? = some (.cells #[.int .i64 0, .int .i64 0] 23 (0, 0))) ∧ (w.heap.size ≤ s_.2) ∧ (w.heap.size ≤ s_.2) ∧ (gb262 ≠ s_.2) ∧ (s_.2 ≠ gb262) ∧ (gb271 ≠ s_.2) ∧ (s_.2 ≠ gb271) ∧ (gb283 ≠ s_.2) ∧ (s_.2 ≠ gb283) ∧ (Below w.heap.size w w')) ?_ ?_
          rotate_left
          ·intro hCont
           refine two_ (i := 1) (j := 10) (Ni := some 83) (Nj := some 20) #[true, true, true, true, false, false, false, false, false, false, false, false, false, false, false] #[true, false, true, true, false, false, false, false, false, false, true, false, false, false, false] rfl rfl rfl rfl (two_of HT_.out (by kernel_rfl)) (by decide) (by decide) (fun K hK => ?_) (fun K hK => ?_)
           ·skip
            refine goes_ Try.func11 (by kernel_rfl) rfl #[.slice A0 l0.length c0] (by rfl) rfl rfl al_ ?_
            with_reducible refine (comfitlaw06_Of.calls k2 _ _ l0 t284 _ ?side1 ?side2 A115.out).mono ?_
            (case side1 => exact kc_ (Kd.C_below HR0.out HB.out))
            (case side2 => exact HC0.out)
            rintro e w128 ⟨v285, rfl, ho0, hb⟩
            refine ⟨_, rfl, ?_⟩
            have n0_ := Aside0.mk (Kd.R_elder' (kr_ (HO277.out)) (Kd.R_base ho0) hb)
            have n1_ := Aside0.mk (Kd.R_lower (Kd.R_new' ho0 (Kd.R_lt (kr_ (HO277.out)))) (below_size (hb_ HB.out)))
            have n2_ := Aside0.mk (bkb_ BK262.out hb)
            have n3_ := Aside0.mk (bkb_ BK271.out hb)
            have n4_ := Aside0.mk (bkb_ BK283.out hb)
            have n5_ := Aside0.mk (below_step (hb_ HB.out) hb)
            clear HO277
            clear BK262
            clear BK271
            clear BK283
            clear HB
            have HO277 := n0_
            have HO286 := n1_
            have BK262 := n2_
            have BK271 := n3_
            have BK283 := n4_
            have HB := n5_
            clear n0_ n1_ n2_ n3_ n4_ n5_
            (try clear hb)
            (try clear hb2)
            (try clear hk)
            (try clear hi)
            (try clear ho0)
            obtain ⟨Ao129, co129, eo129⟩ := Kd.R_slice HO286.out
            (first | subst eo129 | (injection eo129 with f1_ f2_ f3_; have f4_ := f1_.symm; have f5_ := f3_.symm; clear f1_ f2_ f3_; subst f4_; subst f5_))
            refine hK.out _ _ ⟨(blk_cell BK271.out 0).trans rfl, (blk_cell BK271.out 1).trans rfl⟩ (fun hHeld => ?_)
            clear hK K
            refine norm_ (a' := ?_) ?_ ?_
            rotate_left
            ·show Act.put _ (some 83) _ = _
             simp only [Act.put, List.setIfInBounds_toArray, List.set_cons_zero, List.set_cons_succ, i64_w, i32_w]
             rfl
            refine two_ (i := 4) (j := 10) (Ni := some 86) (Nj := some 20) #[true, true, true, true, true, false, false, false, false, false, false, false, false, false, false] #[true, true, true, true, false, false, false, false, false, false, true, false, false, false, false] rfl rfl rfl rfl (two_of HT_.out (by kernel_rfl)) (by decide) (by decide) (fun K hK => ?_) (fun K hK => ?_)
            ·skip
             refine goes_ Try.func10 (by kernel_rfl) rfl #[.slice Ao129 t284.length co129, .agg #[.int .i64 a1_0, .int .i64 (wrap64 (a1_1 + (wrap64 (Int.tmod (IntKind.u64.wrap (a3)) 20))))], .int .i64 x68_2] (by rfl) rfl rfl al_ ?_
             with_reducible refine (tags_Go.calls k2 _ _ t284 a1_0 (wrap64 (a1_1 + (wrap64 (Int.tmod (IntKind.u64.wrap (a3)) 20)))) x68_2 t287 t288 t289 t290 t291 _ ?side1 ?side2 A116.out).mono ?_
             (case side1 => exact kc_ (Kd.R_reads' HO286.out).2.2)
             (case side2 => exact (Kd.R_reads' HO286.out).2.1)
             rintro e w130 ⟨rfl, hb⟩
             refine ⟨_, rfl, ?_⟩
             have n0_ := Aside0.mk (Kd.R_below (kr_ (HO277.out)) hb)
             have n1_ := Aside0.mk (Kd.R_below (kr_ (HO286.out)) hb)
             have n2_ := Aside0.mk (bkb_ BK262.out hb)
             have n3_ := Aside0.mk (bkb_ BK271.out hb)
             have n4_ := Aside0.mk (bkb_ BK283.out hb)
             have n5_ := Aside0.mk (below_step (hb_ HB.out) hb)
             clear HO277
             clear HO286
             clear BK262
             clear BK271
             clear BK283
             clear HB
             have HO277 := n0_
             have HO286 := n1_
             have BK262 := n2_
             have BK271 := n3_
             have BK283 := n4_
             have HB := n5_
             clear n0_ n1_ n2_ n3_ n4_ n5_
             (try clear hb)
             (try clear hb2)
             (try clear hk)
             (try clear hi)
             refine hK.out _ _ ⟨(blk_cell BK271.out 0).trans rfl, (blk_cell BK271.out 1).trans rfl⟩ (fun hHeld => ?_)
             clear hK K
             refine norm_ (a' := ?_) ?_ ?_
             rotate_left
             ·show Act.put _ (some 86) _ = _
              simp only [Act.put, List.setIfInBounds_toArray, List.set_cons_zero, List.set_cons_succ, i64_w, i32_w]
              rfl
             refine pure_ (i := 5) (N := some 81) (v := ?_) (a' := ?_) #[true, true, true, true, true, true, false, false, false, false, false, false, false, false, false] rfl rfl (any_of HT_.out (by kernel_rfl)) (fun _ _ _ h => h) (Or.inl ⟨by rfl, ?_⟩) ?_ ?_
             rotate_left
             ·intro w'
              go_simp
              with_reducible rfl
             rotate_left
             ·simp only [Act.put, List.setIfInBounds_toArray, List.set_cons_zero, List.set_cons_succ, i64_w, i32_w]
              rfl
             refine pure_ (i := 6) (N := some 87) (v := ?_) (a' := ?_) #[true, true, true, true, true, true, true, false, false, false, false, false, false, false, false] rfl rfl (any_of HT_.out (by kernel_rfl)) (fun _ _ _ h => h) (Or.inl ⟨by rfl, ?_⟩) ?_ ?_
             rotate_left
             ·intro w'
              go_simp
              with_reducible rfl
             rotate_left
             ·simp only [Act.put, List.setIfInBounds_toArray, List.set_cons_zero, List.set_cons_succ, i64_w, i32_w]
              rfl
             refine pure_ (i := 7) (N := some 88) (v := ?_) (a' := ?_) #[true, true, true, true, true, true, true, true, false, false, false, false, false, false, false] rfl rfl (any_of HT_.out (by kernel_rfl)) (fun _ _ _ h => h) (Or.inl ⟨by rfl, ?_⟩) ?_ ?_
             rotate_left
             ·intro w'
              go_simp
              with_reducible rfl
             rotate_left
             ·simp only [Act.put, List.setIfInBounds_toArray, List.set_cons_zero, List.set_cons_succ, i64_w, i32_w]
              rfl
             refine pure_ (i := 8) (N := some 89) (v := ?_) (a' := ?_) #[true, true, true, true, true, true, true, true, true, false, false, false, false, false, false] rfl rfl (any_of HT_.out (by kernel_rfl)) (fun _ _ _ h => h) (Or.inl ⟨by rfl, ?_⟩) ?_ ?_
             rotate_left
             ·intro w'
              go_simp
              with_reducible rfl
             rotate_left
             ·simp only [Act.put, List.setIfInBounds_toArray, List.set_cons_zero, List.set_cons_succ, i64_w, i32_w]
              rfl
             refine pure_ (i := 9) (N := some 90) (v := ?_) (a' := ?_) #[true, true, true, true, true, true, true, true, true, true, false, false, false, false, false] rfl rfl (any_of HT_.out (by kernel_rfl)) (fun _ _ _ h => h) (Or.inl ⟨by rfl, ?_⟩) ?_ ?_
             rotate_left
             ·intro w'
              go_simp
              with_reducible rfl
             rotate_left
             ·simp only [Act.put, List.setIfInBounds_toArray, List.set_cons_zero, List.set_cons_succ, i64_w, i32_w]
              rfl
             refine one_ (i := 10) (N := some 20) #[true, true, true, true, true, true, true, true, true, true, true, false, false, false, false] rfl rfl (one_of HT_.out (by kernel_rfl)) (by decide) (fun K hK => ?_)
             refine box_step ?hg (N := 20) ?hd (cs := #[.int .i64 0, .int .i64 0]) (t := 23) ?hr ?_; (case hd => rfl); (case hg => rfl); (case hr => first | (go_simp; done) | (go_simp; rfl))
             intro gb292 hg w131 hbox hb
             have n0_ := Aside0.mk (Kd.R_below (kr_ (HO277.out)) hb)
             have n1_ := Aside0.mk (Kd.R_below (kr_ (HO286.out)) hb)
             have n2_ := Aside0.mk (bkb_ BK262.out hb)
             have n3_ := Aside0.mk (bkb_ BK271.out hb)
             have n4_ := Aside0.mk (bkb_ BK283.out hb)
             have n5_ := Aside0.mk (below_step (hb_ HB.out) hb)
             have n6_ := Aside0.mk (hbox)
             have n7_ := Aside0.mk ((by rw [hg]; exact (below_size (hb_ HB.out)) : w.heap.size ≤ gb292))
             have n8_ := Aside0.mk ((by rw [hg]; exact (below_size (hb_ HB.out)) : w.heap.size ≤ gb292))
             have n9_ := Aside0.mk ((by rw [hg]; exact Nat.ne_of_lt (bkl_ BK262.out) : gb262 ≠ gb292))
             have n10_ := Aside0.mk ((by rw [hg]; exact Nat.ne_of_gt (bkl_ BK262.out) : gb292 ≠ gb262))
             have n11_ := Aside0.mk ((by rw [hg]; exact Nat.ne_of_lt (bkl_ BK271.out) : gb271 ≠ gb292))
             have n12_ := Aside0.mk ((by rw [hg]; exact Nat.ne_of_gt (bkl_ BK271.out) : gb292 ≠ gb271))
             have n13_ := Aside0.mk ((by rw [hg]; exact Nat.ne_of_lt (bkl_ BK283.out) : gb283 ≠ gb292))
             have n14_ := Aside0.mk ((by rw [hg]; exact Nat.ne_of_gt (bkl_ BK283.out) : gb292 ≠ gb283))
             clear HO277
             clear HO286
             clear BK262
             clear BK271
             clear BK283
             clear HB
             have HO277 := n0_
             have HO286 := n1_
             have BK262 := n2_
             have BK271 := n3_
             have BK283 := n4_
             have HB := n5_
             have BK292 := n6_
             have GW292 := n7_
             have GE292 := n8_
             have NB262_292 := n9_
             have NB292_262 := n10_
             have NB271_292 := n11_
             have NB292_271 := n12_
             have NB283_292 := n13_
             have NB292_283 := n14_
             clear n0_ n1_ n2_ n3_ n4_ n5_ n6_ n7_ n8_ n9_ n10_ n11_ n12_ n13_ n14_
             clear hb hbox hg
             refine hK.out _ _ ⟨(blk_cell BK271.out 0).trans rfl, (blk_cell BK271.out 1).trans rfl⟩ (fun hHeld => ?_)
             clear hK K
             refine norm_ (a' := ?_) ?_ ?_
             rotate_left
             ·show Act.put _ (some 20) _ = _
              simp only [Act.put, List.setIfInBounds_toArray, List.set_cons_zero, List.set_cons_succ, i64_w, i32_w]
              rfl
             exact norm_ (by simp only [putAll, Act.put, List.setIfInBounds_toArray, List.set_cons_zero, List.set_cons_succ]) (hCont (.slice Ao129 t284.length co129, gb292) _ ⟨hHeld, (by (with_reducible repeat (first | apply Kd.R_alloc | apply Kd.R_drewN | apply Kd.R_drew)); exact Kd.R_mono HO277.out (fun _ hk => hk.2)), (by (with_reducible repeat (first | apply Kd.R_alloc | apply Kd.R_drewN | apply Kd.R_drew)); exact Kd.R_mono HO286.out (fun _ hk => hk.2)), (bk_ BK262.out), (bk_ BK271.out), (bk_ BK283.out), (bk_ BK292.out), GW292.out, GE292.out, NB262_292.out, NB292_262.out, NB271_292.out, NB292_271.out, NB283_292.out, NB292_283.out, (hb_ HB.out)⟩)
            ·skip
             refine box_step ?hg (N := 20) ?hd (cs := #[.int .i64 0, .int .i64 0]) (t := 23) ?hr ?_; (case hd => rfl); (case hg => rfl); (case hr => first | (go_simp; done) | (go_simp; rfl))
             intro gb292 hg w129 hbox hb
             have n0_ := Aside0.mk (Kd.R_below (kr_ (HO277.out)) hb)
             have n1_ := Aside0.mk (Kd.R_below (kr_ (HO286.out)) hb)
             have n2_ := Aside0.mk (bkb_ BK262.out hb)
             have n3_ := Aside0.mk (bkb_ BK271.out hb)
             have n4_ := Aside0.mk (bkb_ BK283.out hb)
             have n5_ := Aside0.mk (below_step (hb_ HB.out) hb)
             have n6_ := Aside0.mk (hbox)
             have n7_ := Aside0.mk ((by rw [hg]; exact (below_size (hb_ HB.out)) : w.heap.size ≤ gb292))
             have n8_ := Aside0.mk ((by rw [hg]; exact (below_size (hb_ HB.out)) : w.heap.size ≤ gb292))
             have n9_ := Aside0.mk ((by rw [hg]; exact Nat.ne_of_lt (bkl_ BK262.out) : gb262 ≠ gb292))
             have n10_ := Aside0.mk ((by rw [hg]; exact Nat.ne_of_gt (bkl_ BK262.out) : gb292 ≠ gb262))
             have n11_ := Aside0.mk ((by rw [hg]; exact Nat.ne_of_lt (bkl_ BK271.out) : gb271 ≠ gb292))
             have n12_ := Aside0.mk ((by rw [hg]; exact Nat.ne_of_gt (bkl_ BK271.out) : gb292 ≠ gb271))
             have n13_ := Aside0.mk ((by rw [hg]; exact Nat.ne_of_lt (bkl_ BK283.out) : gb283 ≠ gb292))
             have n14_ := Aside0.mk ((by rw [hg]; exact Nat.ne_of_gt (bkl_ BK283.out) : gb292 ≠ gb283))
             clear HO277
             clear HO286
             clear BK262
             clear BK271
             clear BK283
             clear HB
             have HO277 := n0_
             have HO286 := n1_
             have BK262 := n2_
             have BK271 := n3_
             have BK283 := n4_
             have HB := n5_
             have BK292 := n6_
             have GW292 := n7_
             have GE292 := n8_
             have NB262_292 := n9_
             have NB292_262 := n10_
             have NB271_292 := n11_
             have NB292_271 := n12_
             have NB283_292 := n13_
             have NB292_283 := n14_
             clear n0_ n1_ n2_ n3_ n4_ n5_ n6_ n7_ n8_ n9_ n10_ n11_ n12_ n13_ n14_
             clear hb hbox hg
             obtain ⟨Ao130, co130, eo130⟩ := Kd.R_slice HO286.out
             (first | subst eo130 | (injection eo130 with f1_ f2_ f3_; have f4_ := f1_.symm; have f5_ := f3_.symm; clear f1_ f2_ f3_; subst f4_; subst f5_))
             refine hK.out _ _ ⟨(blk_cell BK271.out 0).trans rfl, (blk_cell BK271.out 1).trans rfl⟩ (fun hHeld => ?_)
             clear hK K
             refine norm_ (a' := ?_) ?_ ?_
             rotate_left
             ·show Act.put _ (some 20) _ = _
              simp only [Act.put, List.setIfInBounds_toArray, List.set_cons_zero, List.set_cons_succ, i64_w, i32_w]
              rfl
             refine one_ (i := 4) (N := some 86) #[true, true, true, true, true, false, false, false, false, false, true, false, false, false, false] rfl rfl (one_of HT_.out (by kernel_rfl)) (by decide) (fun K hK => ?_)
             refine goes_ Try.func10 (by kernel_rfl) rfl #[.slice Ao130 t284.length co130, .agg #[.int .i64 a1_0, .int .i64 (wrap64 (a1_1 + (wrap64 (Int.tmod (IntKind.u64.wrap (a3)) 20))))], .int .i64 x68_2] (by rfl) rfl rfl al_ ?_
             with_reducible refine (tags_Go.calls k2 _ _ t284 a1_0 (wrap64 (a1_1 + (wrap64 (Int.tmod (IntKind.u64.wrap (a3)) 20)))) x68_2 t287 t288 t289 t290 t291 _ ?side1 ?side2 A116.out).mono ?_
             (case side1 => exact kc_ (Kd.R_reads' HO286.out).2.2)
             (case side2 => exact (Kd.R_reads' HO286.out).2.1)
             rintro e w131 ⟨rfl, hb⟩
             refine ⟨_, rfl, ?_⟩
             have n0_ := Aside0.mk (Kd.R_below (kr_ (HO277.out)) hb)
             have n1_ := Aside0.mk (Kd.R_below (kr_ (HO286.out)) hb)
             have n2_ := Aside0.mk (bkb_ BK262.out hb)
             have n3_ := Aside0.mk (bkb_ BK271.out hb)
             have n4_ := Aside0.mk (bkb_ BK283.out hb)
             have n5_ := Aside0.mk (bkb_ BK292.out hb)
             have n6_ := Aside0.mk (below_step (hb_ HB.out) hb)
             clear HO277
             clear HO286
             clear BK262
             clear BK271
             clear BK283
             clear BK292
             clear HB
             have HO277 := n0_
             have HO286 := n1_
             have BK262 := n2_
             have BK271 := n3_
             have BK283 := n4_
             have BK292 := n5_
             have HB := n6_
             clear n0_ n1_ n2_ n3_ n4_ n5_ n6_
             (try clear hb)
             (try clear hb2)
             (try clear hk)
             (try clear hi)
             refine hK.out _ _ ⟨(blk_cell BK271.out 0).trans rfl, (blk_cell BK271.out 1).trans rfl⟩ (fun hHeld => ?_)
             clear hK K
             refine norm_ (a' := ?_) ?_ ?_
             rotate_left
             ·show Act.put _ (some 86) _ = _
              simp only [Act.put, List.setIfInBounds_toArray, List.set_cons_zero, List.set_cons_succ, i64_w, i32_w]
              rfl
             refine pure_ (i := 5) (N := some 81) (v := ?_) (a' := ?_) #[true, true, true, true, true, true, false, false, false, false, true, false, false, false, false] rfl rfl (any_of HT_.out (by kernel_rfl)) (fun _ _ _ h => h) (Or.inl ⟨by rfl, ?_⟩) ?_ ?_
             rotate_left
             ·intro w'
              go_simp
              with_reducible rfl
             rotate_left
             ·simp only [Act.put, List.setIfInBounds_toArray, List.set_cons_zero, List.set_cons_succ, i64_w, i32_w]
              rfl
             refine pure_ (i := 6) (N := some 87) (v := ?_) (a' := ?_) #[true, true, true, true, true, true, true, false, false, false, true, false, false, false, false] rfl rfl (any_of HT_.out (by kernel_rfl)) (fun _ _ _ h => h) (Or.inl ⟨by rfl, ?_⟩) ?_ ?_
             rotate_left
             ·intro w'
              go_simp
              with_reducible rfl
             rotate_left
             ·simp only [Act.put, List.setIfInBounds_toArray, List.set_cons_zero, List.set_cons_succ, i64_w, i32_w]
              rfl
             refine pure_ (i := 7) (N := some 88) (v := ?_) (a' := ?_) #[true, true, true, true, true, true, true, true, false, false, true, false, false, false, false] rfl rfl (any_of HT_.out (by kernel_rfl)) (fun _ _ _ h => h) (Or.inl ⟨by rfl, ?_⟩) ?_ ?_
             rotate_left
             ·intro w'
              go_simp
              with_reducible rfl
             rotate_left
             ·simp only [Act.put, List.setIfInBounds_toArray, List.set_cons_zero, List.set_cons_succ, i64_w, i32_w]
              rfl
             refine pure_ (i := 8) (N := some 89) (v := ?_) (a' := ?_) #[true, true, true, true, true, true, true, true, true, false, true, false, false, false, false] rfl rfl (any_of HT_.out (by kernel_rfl)) (fun _ _ _ h => h) (Or.inl ⟨by rfl, ?_⟩) ?_ ?_
             rotate_left
             ·intro w'
              go_simp
              with_reducible rfl
             rotate_left
             ·simp only [Act.put, List.setIfInBounds_toArray, List.set_cons_zero, List.set_cons_succ, i64_w, i32_w]
              rfl
             refine pure_ (i := 9) (N := some 90) (v := ?_) (a' := ?_) #[true, true, true, true, true, true, true, true, true, true, true, false, false, false, false] rfl rfl (any_of HT_.out (by kernel_rfl)) (fun _ _ _ h => h) (Or.inl ⟨by rfl, ?_⟩) ?_ ?_
             rotate_left
             ·intro w'
              go_simp
              with_reducible rfl
             rotate_left
             ·simp only [Act.put, List.setIfInBounds_toArray, List.set_cons_zero, List.set_cons_succ, i64_w, i32_w]
              rfl
             exact norm_ (by simp only [putAll, Act.put, List.setIfInBounds_toArray, List.set_cons_zero, List.set_cons_succ]) (hCont (.slice Ao130 t284.length co130, gb292) _ ⟨hHeld, (by (with_reducible repeat (first | apply Kd.R_alloc | apply Kd.R_drewN | apply Kd.R_drew)); exact Kd.R_mono HO277.out (fun _ hk => hk.2)), (by (with_reducible repeat (first | apply Kd.R_alloc | apply Kd.R_drewN | apply Kd.R_drew)); exact Kd.R_mono HO286.out (fun _ hk => hk.2)), (bk_ BK262.out), (bk_ BK271.out), (bk_ BK283.out), (bk_ BK292.out), GW292.out, GE292.out, NB262_292.out, NB292_262.out, NB271_292.out, NB292_271.out, NB283_292.out, NB292_283.out, (hb_ HB.out)⟩)
           ·skip
            refine box_step ?hg (N := 20) ?hd (cs := #[.int .i64 0, .int .i64 0]) (t := 23) ?hr ?_; (case hd => rfl); (case hg => rfl); (case hr => first | (go_simp; done) | (go_simp; rfl))
            intro gb292 hg w128 hbox hb
            have n0_ := Aside0.mk (Kd.R_below (kr_ (HO277.out)) hb)
            have n1_ := Aside0.mk (bkb_ BK262.out hb)
            have n2_ := Aside0.mk (bkb_ BK271.out hb)
            have n3_ := Aside0.mk (bkb_ BK283.out hb)
            have n4_ := Aside0.mk (below_step (hb_ HB.out) hb)
            have n5_ := Aside0.mk (hbox)
            have n6_ := Aside0.mk ((by rw [hg]; exact (below_size (hb_ HB.out)) : w.heap.size ≤ gb292))
            have n7_ := Aside0.mk ((by rw [hg]; exact (below_size (hb_ HB.out)) : w.heap.size ≤ gb292))
            have n8_ := Aside0.mk ((by rw [hg]; exact Nat.ne_of_lt (bkl_ BK262.out) : gb262 ≠ gb292))
            have n9_ := Aside0.mk ((by rw [hg]; exact Nat.ne_of_gt (bkl_ BK262.out) : gb292 ≠ gb262))
            have n10_ := Aside0.mk ((by rw [hg]; exact Nat.ne_of_lt (bkl_ BK271.out) : gb271 ≠ gb292))
            have n11_ := Aside0.mk ((by rw [hg]; exact Nat.ne_of_gt (bkl_ BK271.out) : gb292 ≠ gb271))
            have n12_ := Aside0.mk ((by rw [hg]; exact Nat.ne_of_lt (bkl_ BK283.out) : gb283 ≠ gb292))
            have n13_ := Aside0.mk ((by rw [hg]; exact Nat.ne_of_gt (bkl_ BK283.out) : gb292 ≠ gb283))
            clear HO277
            clear BK262
            clear BK271
            clear BK283
            clear HB
            have HO277 := n0_
            have BK262 := n1_
            have BK271 := n2_
            have BK283 := n3_
            have HB := n4_
            have BK292 := n5_
            have GW292 := n6_
            have GE292 := n7_
            have NB262_292 := n8_
            have NB292_262 := n9_
            have NB271_292 := n10_
            have NB292_271 := n11_
            have NB283_292 := n12_
            have NB292_283 := n13_
            clear n0_ n1_ n2_ n3_ n4_ n5_ n6_ n7_ n8_ n9_ n10_ n11_ n12_ n13_
            clear hb hbox hg
            refine hK.out _ _ ⟨(blk_cell BK271.out 0).trans rfl, (blk_cell BK271.out 1).trans rfl⟩ (fun hHeld => ?_)
            clear hK K
            refine norm_ (a' := ?_) ?_ ?_
            rotate_left
            ·show Act.put _ (some 20) _ = _
             simp only [Act.put, List.setIfInBounds_toArray, List.set_cons_zero, List.set_cons_succ, i64_w, i32_w]
             rfl
            refine one_ (i := 1) (N := some 83) #[true, true, true, true, false, false, false, false, false, false, true, false, false, false, false] rfl rfl (one_of HT_.out (by kernel_rfl)) (by decide) (fun K hK => ?_)
            refine goes_ Try.func11 (by kernel_rfl) rfl #[.slice A0 l0.length c0] (by rfl) rfl rfl al_ ?_
            with_reducible refine (comfitlaw06_Of.calls k2 _ _ l0 t284 _ ?side1 ?side2 A115.out).mono ?_
            (case side1 => exact kc_ (Kd.C_below HR0.out HB.out))
            (case side2 => exact HC0.out)
            rintro e w129 ⟨v285, rfl, ho0, hb⟩
            refine ⟨_, rfl, ?_⟩
            have n0_ := Aside0.mk (Kd.R_elder' (kr_ (HO277.out)) (Kd.R_base ho0) hb)
            have n1_ := Aside0.mk (Kd.R_lower (Kd.R_new' ho0 (Kd.R_lt (kr_ (HO277.out)))) (below_size (hb_ HB.out)))
            have n2_ := Aside0.mk (bkb_ BK262.out hb)
            have n3_ := Aside0.mk (bkb_ BK271.out hb)
            have n4_ := Aside0.mk (bkb_ BK283.out hb)
            have n5_ := Aside0.mk (bkb_ BK292.out hb)
            have n6_ := Aside0.mk (below_step (hb_ HB.out) hb)
            clear HO277
            clear BK262
            clear BK271
            clear BK283
            clear BK292
            clear HB
            have HO277 := n0_
            have HO286 := n1_
            have BK262 := n2_
            have BK271 := n3_
            have BK283 := n4_
            have BK292 := n5_
            have HB := n6_
            clear n0_ n1_ n2_ n3_ n4_ n5_ n6_
            (try clear hb)
            (try clear hb2)
            (try clear hk)
            (try clear hi)
            (try clear ho0)
            obtain ⟨Ao130, co130, eo130⟩ := Kd.R_slice HO286.out
            (first | subst eo130 | (injection eo130 with f1_ f2_ f3_; have f4_ := f1_.symm; have f5_ := f3_.symm; clear f1_ f2_ f3_; subst f4_; subst f5_))
            refine hK.out _ _ ⟨(blk_cell BK271.out 0).trans rfl, (blk_cell BK271.out 1).trans rfl⟩ (fun hHeld => ?_)
            clear hK K
            refine norm_ (a' := ?_) ?_ ?_
            rotate_left
            ·show Act.put _ (some 83) _ = _
             simp only [Act.put, List.setIfInBounds_toArray, List.set_cons_zero, List.set_cons_succ, i64_w, i32_w]
             rfl
            refine one_ (i := 4) (N := some 86) #[true, true, true, true, true, false, false, false, false, false, true, false, false, false, false] rfl rfl (one_of HT_.out (by kernel_rfl)) (by decide) (fun K hK => ?_)
            refine goes_ Try.func10 (by kernel_rfl) rfl #[.slice Ao130 t284.length co130, .agg #[.int .i64 a1_0, .int .i64 (wrap64 (a1_1 + (wrap64 (Int.tmod (IntKind.u64.wrap (a3)) 20))))], .int .i64 x68_2] (by rfl) rfl rfl al_ ?_
            with_reducible refine (tags_Go.calls k2 _ _ t284 a1_0 (wrap64 (a1_1 + (wrap64 (Int.tmod (IntKind.u64.wrap (a3)) 20)))) x68_2 t287 t288 t289 t290 t291 _ ?side1 ?side2 A116.out).mono ?_
            (case side1 => exact kc_ (Kd.R_reads' HO286.out).2.2)
            (case side2 => exact (Kd.R_reads' HO286.out).2.1)
            rintro e w131 ⟨rfl, hb⟩
            refine ⟨_, rfl, ?_⟩
            have n0_ := Aside0.mk (Kd.R_below (kr_ (HO277.out)) hb)
            have n1_ := Aside0.mk (Kd.R_below (kr_ (HO286.out)) hb)
            have n2_ := Aside0.mk (bkb_ BK262.out hb)
            have n3_ := Aside0.mk (bkb_ BK271.out hb)
            have n4_ := Aside0.mk (bkb_ BK283.out hb)
            have n5_ := Aside0.mk (bkb_ BK292.out hb)
            have n6_ := Aside0.mk (below_step (hb_ HB.out) hb)
            clear HO277
            clear HO286
            clear BK262
            clear BK271
            clear BK283
            clear BK292
            clear HB
            have HO277 := n0_
            have HO286 := n1_
            have BK262 := n2_
            have BK271 := n3_
            have BK283 := n4_
            have BK292 := n5_
            have HB := n6_
            clear n0_ n1_ n2_ n3_ n4_ n5_ n6_
            (try clear hb)
            (try clear hb2)
            (try clear hk)
            (try clear hi)
            refine hK.out _ _ ⟨(blk_cell BK271.out 0).trans rfl, (blk_cell BK271.out 1).trans rfl⟩ (fun hHeld => ?_)
            clear hK K
            refine norm_ (a' := ?_) ?_ ?_
            rotate_left
            ·show Act.put _ (some 86) _ = _
             simp only [Act.put, List.setIfInBounds_toArray, List.set_cons_zero, List.set_cons_succ, i64_w, i32_w]
             rfl
            refine pure_ (i := 5) (N := some 81) (v := ?_) (a' := ?_) #[true, true, true, true, true, true, false, false, false, false, true, false, false, false, false] rfl rfl (any_of HT_.out (by kernel_rfl)) (fun _ _ _ h => h) (Or.inl ⟨by rfl, ?_⟩) ?_ ?_
            rotate_left
            ·intro w'
             go_simp
             with_reducible rfl
            rotate_left
            ·simp only [Act.put, List.setIfInBounds_toArray, List.set_cons_zero, List.set_cons_succ, i64_w, i32_w]
             rfl
            refine pure_ (i := 6) (N := some 87) (v := ?_) (a' := ?_) #[true, true, true, true, true, true, true, false, false, false, true, false, false, false, false] rfl rfl (any_of HT_.out (by kernel_rfl)) (fun _ _ _ h => h) (Or.inl ⟨by rfl, ?_⟩) ?_ ?_
            rotate_left
            ·intro w'
             go_simp
             with_reducible rfl
            rotate_left
            ·simp only [Act.put, List.setIfInBounds_toArray, List.set_cons_zero, List.set_cons_succ, i64_w, i32_w]
             rfl
            refine pure_ (i := 7) (N := some 88) (v := ?_) (a' := ?_) #[true, true, true, true, true, true, true, true, false, false, true, false, false, false, false] rfl rfl (any_of HT_.out (by kernel_rfl)) (fun _ _ _ h => h) (Or.inl ⟨by rfl, ?_⟩) ?_ ?_
            rotate_left
            ·intro w'
             go_simp
             with_reducible rfl
            rotate_left
            ·simp only [Act.put, List.setIfInBounds_toArray, List.set_cons_zero, List.set_cons_succ, i64_w, i32_w]
             rfl
            refine pure_ (i := 8) (N := some 89) (v := ?_) (a' := ?_) #[true, true, true, true, true, true, true, true, true, false, true, false, false, false, false] rfl rfl (any_of HT_.out (by kernel_rfl)) (fun _ _ _ h => h) (Or.inl ⟨by rfl, ?_⟩) ?_ ?_
            rotate_left
            ·intro w'
             go_simp
             with_reducible rfl
            rotate_left
            ·simp only [Act.put, List.setIfInBounds_toArray, List.set_cons_zero, List.set_cons_succ, i64_w, i32_w]
             rfl
            refine pure_ (i := 9) (N := some 90) (v := ?_) (a' := ?_) #[true, true, true, true, true, true, true, true, true, true, true, false, false, false, false] rfl rfl (any_of HT_.out (by kernel_rfl)) (fun _ _ _ h => h) (Or.inl ⟨by rfl, ?_⟩) ?_ ?_
            rotate_left
            ·intro w'
             go_simp
             with_reducible rfl
            rotate_left
            ·simp only [Act.put, List.setIfInBounds_toArray, List.set_cons_zero, List.set_cons_succ, i64_w, i32_w]
             rfl
            exact norm_ (by simp only [putAll, Act.put, List.setIfInBounds_toArray, List.set_cons_zero, List.set_cons_succ]) (hCont (.slice Ao130 t284.length co130, gb292) _ ⟨hHeld, (by (with_reducible repeat (first | apply Kd.R_alloc | apply Kd.R_drewN | apply Kd.R_drew)); exact Kd.R_mono HO277.out (fun _ hk => hk.2)), (by (with_reducible repeat (first | apply Kd.R_alloc | apply Kd.R_drewN | apply Kd.R_drew)); exact Kd.R_mono HO286.out (fun _ hk => hk.2)), (bk_ BK262.out), (bk_ BK271.out), (bk_ BK283.out), (bk_ BK292.out), GW292.out, GE292.out, NB262_292.out, NB292_262.out, NB271_292.out, NB292_271.out, NB283_292.out, NB292_283.out, (hb_ HB.out)⟩)
          rintro ⟨v285, gb292⟩ w132 ⟨hS_, h0_, h1_, h2_, h3_, h4_, h5_, h6_, h7_, h8_, h9_, h10_, h11_, h12_, h13_, h14_⟩
          have n0_ : Aside0 (Kd.R k57 57 w132 w.heap.size (fun k_ => some k_ ≠ (v285 : Value).ownBlock) v276 t275) := ⟨h0_⟩
          have n1_ : Aside0 (Kd.R k57 57 w132 w.heap.size (fun k_ => some k_ ≠ (v276 : Value).ownBlock) v285 t284) := ⟨h1_⟩
          have n2_ : Aside0 (w132.heap[gb262]? = some (.cells #[.int .i64 a1_0, .int .i64 a1_1] 23 (0, 0))) := ⟨h2_⟩
          have n3_ : Aside0 (w132.heap[gb271]? = some (.cells #[.int .i64 a1_0, .int .i64 (wrap64 (a1_1 + (wrap64 (Int.tmod (IntKind.u64.wrap (a3)) 20))))] 23 (0, 0))) := ⟨h3_⟩
          have n4_ : Aside0 (w132.heap[gb283]? = some (.cells #[.int .i64 t279, .int .i64 t280] 23 (0, 0))) := ⟨h4_⟩
          have n5_ : Aside0 (w132.heap[gb292]? = some (.cells #[.int .i64 0, .int .i64 0] 23 (0, 0))) := ⟨h5_⟩
          have n6_ : Aside0 (w.heap.size ≤ gb292) := ⟨h6_⟩
          have n7_ : Aside0 (w.heap.size ≤ gb292) := ⟨h7_⟩
          have n8_ : Aside0 (gb262 ≠ gb292) := ⟨h8_⟩
          have n9_ : Aside0 (gb292 ≠ gb262) := ⟨h9_⟩
          have n10_ : Aside0 (gb271 ≠ gb292) := ⟨h10_⟩
          have n11_ : Aside0 (gb292 ≠ gb271) := ⟨h11_⟩
          have n12_ : Aside0 (gb283 ≠ gb292) := ⟨h12_⟩
          have n13_ : Aside0 (gb292 ≠ gb283) := ⟨h13_⟩
          have n14_ : Aside0 (Below w.heap.size w w132) := ⟨h14_⟩
          clear HO277
          clear BK262
          clear BK271
          clear BK283
          clear HB
          clear h0_ h1_ h2_ h3_ h4_ h5_ h6_ h7_ h8_ h9_ h10_ h11_ h12_ h13_ h14_
          have HO277 := n0_
          have HO286 := n1_
          have BK262 := n2_
          have BK271 := n3_
          have BK283 := n4_
          have BK292 := n5_
          have GW292 := n6_
          have GE292 := n7_
          have NB262_292 := n8_
          have NB292_262 := n9_
          have NB271_292 := n10_
          have NB292_271 := n11_
          have NB283_292 := n12_
          have NB292_283 := n13_
          have HB := n14_
          clear n0_ n1_ n2_ n3_ n4_ n5_ n6_ n7_ n8_ n9_ n10_ n11_ n12_ n13_ n14_
          have hHeld : w132.cell? ⟨gb271, 0, none⟩ = some (.int .i64 a1_0) ∧ w132.cell? ⟨gb271, 1, none⟩ = some (.int .i64 (wrap64 (a1_1 + (wrap64 (Int.tmod (IntKind.u64.wrap (a3)) 20))))) := hS_
          refine norm_ (a' := ?_) ?_ ?_
          rotate_left
          ·simp only [putAll, Act.put, List.setIfInBounds_toArray, List.set_cons_zero, List.set_cons_succ]
           rfl
          refine pure_ (i := 11) (N := some 19) (v := ?_) (a' := ?_) #[true, true, true, true, true, true, true, true, true, true, true, true, false, false, false] rfl rfl (any_of HT_.out (by kernel_rfl)) (fun _ _ _ h => h) (Or.inl ⟨by rfl, ?_⟩) ?_ ?_
          rotate_left
          ·intro w'
           go_simp
           with_reducible rfl
          rotate_left
          ·simp only [Act.put, List.setIfInBounds_toArray, List.set_cons_zero, List.set_cons_succ, i64_w, i32_w]
           rfl
          refine one_ (i := 12) (N := none) #[true, true, true, true, true, true, true, true, true, true, true, true, true, false, false] rfl rfl (one_of HT_.out (by kernel_rfl)) (by decide) (fun K hK => ?_)
          have hs133 : w132.cell? ⟨gb292, 0, none⟩ = some (.int .i64 0) := (blk_cell BK292.out 0).trans rfl
          have hfs133 := blk_frozen BK292.out 0
          have hns133_0 := NB262_292.out
          have hns133_1 := NB271_292.out
          have hns133_2 := NB283_292.out
          have hms133_0 := NB292_262.out
          have hms133_1 := NB292_271.out
          have hms133_2 := NB292_283.out
          have hs134 : w132.cell? ⟨gb292, 1, none⟩ = some (.int .i64 0) := (blk_cell BK292.out 1).trans rfl
          have hfs134 := blk_frozen BK292.out 1
          have hns134_0 := NB262_292.out
          have hns134_1 := NB271_292.out
          have hns134_2 := NB283_292.out
          have hms134_0 := NB292_262.out
          have hms134_1 := NB292_271.out
          have hms134_2 := NB292_283.out
          refine skip_ (w1 := ?_) (by rfl) rfl ?_ ?_
          rotate_left
          ·go_simp
           rfl
          refine hK.out _ _ ⟨((cell_far (p := ⟨gb292, _, none⟩) NB271_292.out _).trans (((cell_far (p := ⟨gb292, _, none⟩) NB271_292.out _).trans (hHeld.1)))), ((cell_far (p := ⟨gb292, _, none⟩) NB271_292.out _).trans (((cell_far (p := ⟨gb292, _, none⟩) NB271_292.out _).trans (hHeld.2))))⟩ (fun hHeld => ?_)
          clear hK K
          refine pure_ (i := 13) (N := some 21) (v := ?_) (a' := ?_) #[true, true, true, true, true, true, true, true, true, true, true, true, true, true, false] rfl rfl (any_of HT_.out (by kernel_rfl)) (fun _ _ _ h => h) (Or.inl ⟨by rfl, ?_⟩) ?_ ?_
          rotate_left
          ·intro w'
           go_simp
           with_reducible rfl
          rotate_left
          ·simp only [Act.put, List.setIfInBounds_toArray, List.set_cons_zero, List.set_cons_succ, i64_w, i32_w]
           rfl
          refine pure_ (i := 14) (N := some 22) (v := ?_) (a' := ?_) #[true, true, true, true, true, true, true, true, true, true, true, true, true, true, true] rfl rfl (any_of HT_.out (by kernel_rfl)) (fun _ _ _ h => h) (Or.inl ⟨by rfl, ?_⟩) ?_ ?_
          rotate_left
          ·intro w'
           go_simp
           with_reducible rfl
          rotate_left
          ·simp only [Act.put, List.setIfInBounds_toArray, List.set_cons_zero, List.set_cons_succ, i64_w, i32_w]
           rfl
          refine done_ (done_of HT_.out (by kernel_rfl)) ?_
          go_upto_region 14 with (fail)
          go_cut [106] (fun v106 wc => ∃ (kq : Nat) (x106_116 : Bool), v106 = .bool x106_116 ∧ Aside0 (j2 kq l0 1 (wrap64 (Int.tmod (IntKind.u64.wrap (a3)) 20)) t278 t281 t287 t290 (wrap64 ((wrap64 (Int.tmod (IntKind.u64.wrap (a4)) 60)) + 1)) x68_2 x106_116 a1_0 a1_1 a1_0 (wrap64 (a1_1 + (wrap64 (Int.tmod (IntKind.u64.wrap (a3)) 20)))) t279 t280 t288 t289 = some r) ∧ Aside0 (kq ≤ k2) ∧ Aside0 (wc.heap[gb262]? = some (.cells #[.int .i64 a1_0, .int .i64 a1_1] 23 (0, 0))) ∧ Aside0 (wc.heap[gb271]? = some (.cells #[.int .i64 a1_0, .int .i64 (wrap64 (a1_1 + (wrap64 (Int.tmod (IntKind.u64.wrap (a3)) 20))))] 23 (0, 0))) ∧ Aside0 (wc.heap[gb283]? = some (.cells #[.int .i64 t279, .int .i64 t280] 23 (0, 0))) ∧ Aside0 (wc.heap[gb292]? = some (.cells #[.int .i64 t288, .int .i64 t289] 23 (0, 0))) ∧ Aside0 (Below w.heap.size w wc))
          case first =>
           have H := HC117.out
           clear HC117
           by_cases c135 : t282 = 0
           ·rw [if_pos c135] at H
            have c135b0 : (t282 == 0) = true := beq_iff_eq.mpr c135
            have c135b1 : (t282 != 0) = false := bne_eq_false_iff_eq.mpr c135
            clear c135
            (first | rw [c135b0] | (simp only [i64_w, i32_w]; rw [c135b0]) | skip)
            by_cases c136 : t291 = 0
            ·rw [if_pos c136] at H
             have c136b0 : (t291 == 0) = true := beq_iff_eq.mpr c136
             have c136b1 : (t291 != 0) = false := bne_eq_false_iff_eq.mpr c136
             clear c136
             by_cases c137 : t278 < 0
             ·rw [if_pos c137] at H
              have c137b0 : decide (t278 < 0) = true := decide_eq_true c137
              clear c137
              as_aux_lemma =>
               have H' := Aside0.mk H
               clear H
               go_wp2
               go_meet
               case rel => (try rw [← Niq25.out]); exact ⟨_, (true), sr_, H', ⟨by have := HJ5.out; have := HK2.out; first | omega | exact Nat.le_refl _⟩, ⟨by (with_reducible repeat (first | refine blk_drewN ?_ _ | refine blk_drew ?_ | refine blk_alloc ?_ _)); refine blk_far ?_ NB262_292.out _; (with_reducible repeat (first | refine blk_drewN ?_ _ | refine blk_drew ?_ | refine blk_alloc ?_ _)); refine blk_far ?_ NB262_292.out _; (with_reducible repeat (first | refine blk_drewN ?_ _ | refine blk_drew ?_ | refine blk_alloc ?_ _)); exact BK262.out⟩, ⟨by (with_reducible repeat (first | refine blk_drewN ?_ _ | refine blk_drew ?_ | refine blk_alloc ?_ _)); refine blk_far ?_ NB271_292.out _; (with_reducible repeat (first | refine blk_drewN ?_ _ | refine blk_drew ?_ | refine blk_alloc ?_ _)); refine blk_far ?_ NB271_292.out _; (with_reducible repeat (first | refine blk_drewN ?_ _ | refine blk_drew ?_ | refine blk_alloc ?_ _)); exact BK271.out⟩, ⟨by (with_reducible repeat (first | refine blk_drewN ?_ _ | refine blk_drew ?_ | refine blk_alloc ?_ _)); refine blk_far ?_ NB283_292.out _; (with_reducible repeat (first | refine blk_drewN ?_ _ | refine blk_drew ?_ | refine blk_alloc ?_ _)); refine blk_far ?_ NB283_292.out _; (with_reducible repeat (first | refine blk_drewN ?_ _ | refine blk_drew ?_ | refine blk_alloc ?_ _)); exact BK283.out⟩, ⟨by (with_reducible repeat (first | refine blk_drewN ?_ _ | refine blk_drew ?_ | refine blk_alloc ?_ _)); refine blk_put (cs := #[.int .i64 t288, .int .i64 0]) ?_ 1 _ rfl; (with_reducible repeat (first | refine blk_drewN ?_ _ | refine blk_drew ?_ | refine blk_alloc ?_ _)); refine blk_put (cs := #[.int .i64 0, .int .i64 0]) ?_ 0 _ rfl; (with_reducible repeat (first | refine blk_drewN ?_ _ | refine blk_drew ?_ | refine blk_alloc ?_ _)); exact BK292.out⟩, ⟨hb_ HB.out⟩⟩
             rw [if_neg c137] at H
             have c137b0 : decide (t278 < 0) = false := decide_eq_false c137
             clear c137
             as_aux_lemma =>
              have H' := Aside0.mk H
              clear H
              go_wp2
              go_meet
              case rel => (try rw [← Niq25.out]); exact ⟨_, (decide (t278 ≥ (l0.length : Int))), sr_, H', ⟨by have := HJ5.out; have := HK2.out; first | omega | exact Nat.le_refl _⟩, ⟨by (with_reducible repeat (first | refine blk_drewN ?_ _ | refine blk_drew ?_ | refine blk_alloc ?_ _)); refine blk_far ?_ NB262_292.out _; (with_reducible repeat (first | refine blk_drewN ?_ _ | refine blk_drew ?_ | refine blk_alloc ?_ _)); refine blk_far ?_ NB262_292.out _; (with_reducible repeat (first | refine blk_drewN ?_ _ | refine blk_drew ?_ | refine blk_alloc ?_ _)); exact BK262.out⟩, ⟨by (with_reducible repeat (first | refine blk_drewN ?_ _ | refine blk_drew ?_ | refine blk_alloc ?_ _)); refine blk_far ?_ NB271_292.out _; (with_reducible repeat (first | refine blk_drewN ?_ _ | refine blk_drew ?_ | refine blk_alloc ?_ _)); refine blk_far ?_ NB271_292.out _; (with_reducible repeat (first | refine blk_drewN ?_ _ | refine blk_drew ?_ | refine blk_alloc ?_ _)); exact BK271.out⟩, ⟨by (with_reducible repeat (first | refine blk_drewN ?_ _ | refine blk_drew ?_ | refine blk_alloc ?_ _)); refine blk_far ?_ NB283_292.out _; (with_reducible repeat (first | refine blk_drewN ?_ _ | refine blk_drew ?_ | refine blk_alloc ?_ _)); refine blk_far ?_ NB283_292.out _; (with_reducible repeat (first | refine blk_drewN ?_ _ | refine blk_drew ?_ | refine blk_alloc ?_ _)); exact BK283.out⟩, ⟨by (with_reducible repeat (first | refine blk_drewN ?_ _ | refine blk_drew ?_ | refine blk_alloc ?_ _)); refine blk_put (cs := #[.int .i64 t288, .int .i64 0]) ?_ 1 _ rfl; (with_reducible repeat (first | refine blk_drewN ?_ _ | refine blk_drew ?_ | refine blk_alloc ?_ _)); refine blk_put (cs := #[.int .i64 0, .int .i64 0]) ?_ 0 _ rfl; (with_reducible repeat (first | refine blk_drewN ?_ _ | refine blk_drew ?_ | refine blk_alloc ?_ _)); exact BK292.out⟩, ⟨hb_ HB.out⟩⟩
            rw [if_neg c136] at H
            have c136b0 : (t291 == 0) = false := beq_eq_false_iff_ne.mpr c136
            have c136b1 : (t291 != 0) = true := bne_iff_ne.mpr c136
            as_aux_lemma =>
             have H' := Aside0.mk H
             clear H
             go_wp2
             go_meet
             case rel => (try rw [← Niq25.out]); exact ⟨_, (true), sr_, H', ⟨by have := HJ5.out; have := HK2.out; first | omega | exact Nat.le_refl _⟩, ⟨by (with_reducible repeat (first | refine blk_drewN ?_ _ | refine blk_drew ?_ | refine blk_alloc ?_ _)); refine blk_far ?_ NB262_292.out _; (with_reducible repeat (first | refine blk_drewN ?_ _ | refine blk_drew ?_ | refine blk_alloc ?_ _)); refine blk_far ?_ NB262_292.out _; (with_reducible repeat (first | refine blk_drewN ?_ _ | refine blk_drew ?_ | refine blk_alloc ?_ _)); exact BK262.out⟩, ⟨by (with_reducible repeat (first | refine blk_drewN ?_ _ | refine blk_drew ?_ | refine blk_alloc ?_ _)); refine blk_far ?_ NB271_292.out _; (with_reducible repeat (first | refine blk_drewN ?_ _ | refine blk_drew ?_ | refine blk_alloc ?_ _)); refine blk_far ?_ NB271_292.out _; (with_reducible repeat (first | refine blk_drewN ?_ _ | refine blk_drew ?_ | refine blk_alloc ?_ _)); exact BK271.out⟩, ⟨by (with_reducible repeat (first | refine blk_drewN ?_ _ | refine blk_drew ?_ | refine blk_alloc ?_ _)); refine blk_far ?_ NB283_292.out _; (with_reducible repeat (first | refine blk_drewN ?_ _ | refine blk_drew ?_ | refine blk_alloc ?_ _)); refine blk_far ?_ NB283_292.out _; (with_reducible repeat (first | refine blk_drewN ?_ _ | refine blk_drew ?_ | refine blk_alloc ?_ _)); exact BK283.out⟩, ⟨by (with_reducible repeat (first | refine blk_drewN ?_ _ | refine blk_drew ?_ | refine blk_alloc ?_ _)); refine blk_put (cs := #[.int .i64 t288, .int .i64 0]) ?_ 1 _ rfl; (with_reducible repeat (first | refine blk_drewN ?_ _ | refine blk_drew ?_ | refine blk_alloc ?_ _)); refine blk_put (cs := #[.int .i64 0, .int .i64 0]) ?_ 0 _ rfl; (with_reducible repeat (first | refine blk_drewN ?_ _ | refine blk_drew ?_ | refine blk_alloc ?_ _)); exact BK292.out⟩, ⟨hb_ HB.out⟩⟩
           rw [if_neg c135] at H
           have c135b0 : (t282 == 0) = false := beq_eq_false_iff_ne.mpr c135
           have c135b1 : (t282 != 0) = true := bne_iff_ne.mpr c135
           (first | rw [c135b0] | (simp only [i64_w, i32_w]; rw [c135b0]) | skip)
           as_aux_lemma =>
            have H' := Aside0.mk H
            clear H
            go_wp2
            go_meet
            case rel => (try rw [← Niq25.out]); exact ⟨_, (true), sr_, H', ⟨by have := HJ5.out; have := HK2.out; first | omega | exact Nat.le_refl _⟩, ⟨by (with_reducible repeat (first | refine blk_drewN ?_ _ | refine blk_drew ?_ | refine blk_alloc ?_ _)); refine blk_far ?_ NB262_292.out _; (with_reducible repeat (first | refine blk_drewN ?_ _ | refine blk_drew ?_ | refine blk_alloc ?_ _)); refine blk_far ?_ NB262_292.out _; (with_reducible repeat (first | refine blk_drewN ?_ _ | refine blk_drew ?_ | refine blk_alloc ?_ _)); exact BK262.out⟩, ⟨by (with_reducible repeat (first | refine blk_drewN ?_ _ | refine blk_drew ?_ | refine blk_alloc ?_ _)); refine blk_far ?_ NB271_292.out _; (with_reducible repeat (first | refine blk_drewN ?_ _ | refine blk_drew ?_ | refine blk_alloc ?_ _)); refine blk_far ?_ NB271_292.out _; (with_reducible repeat (first | refine blk_drewN ?_ _ | refine blk_drew ?_ | refine blk_alloc ?_ _)); exact BK271.out⟩, ⟨by (with_reducible repeat (first | refine blk_drewN ?_ _ | refine blk_drew ?_ | refine blk_alloc ?_ _)); refine blk_far ?_ NB283_292.out _; (with_reducible repeat (first | refine blk_drewN ?_ _ | refine blk_drew ?_ | refine blk_alloc ?_ _)); refine blk_far ?_ NB283_292.out _; (with_reducible repeat (first | refine blk_drewN ?_ _ | refine blk_drew ?_ | refine blk_alloc ?_ _)); exact BK283.out⟩, ⟨by (with_reducible repeat (first | refine blk_drewN ?_ _ | refine blk_drew ?_ | refine blk_alloc ?_ _)); refine blk_put (cs := #[.int .i64 t288, .int .i64 0]) ?_ 1 _ rfl; (with_reducible repeat (first | refine blk_drewN ?_ _ | refine blk_drew ?_ | refine blk_alloc ?_ _)); refine blk_put (cs := #[.int .i64 0, .int .i64 0]) ?_ 0 _ rfl; (with_reducible repeat (first | refine blk_drewN ?_ _ | refine blk_drew ?_ | refine blk_alloc ?_ _)); exact BK292.out⟩, ⟨hb_ HB.out⟩⟩
          case rest =>
           clear HC117
           try clear c1
           try clear p2
           try clear q2
           try clear p6
           try clear c10
           try clear c11
           try clear c13
           try clear q25
           try clear p64
           try clear c135
           try clear c135b0
           try clear c135b1
           try clear c136
           try clear c136b0
           try clear c136b1
           try clear c137
           try clear c137b0
           obtain ⟨kq, x106_116, rfl, HA, HJ116, BK262, BK271, BK283, BK292, HB⟩ := hcut
           cases kq with
           | zero => exact absurd HA.out (by simp [j2])
           | succ kj116 =>
            have H := HA.out
            clear HA
            simp only [j2] at H
            by_cases c138 : x106_116 = true
            ·subst c138
             have H1 : (none) = some r := by rw [if_pos rfl] at H; exact H
             clear H
             have H := H1
             clear H1
             exact absurd H (by simp)
            ·replace c138 := Bool.eq_false_iff.mpr c138
             subst c138
             have H1 : (if 1 = 0 then (if t278 = t287 then (if (!((wrap64 (t279 + (wrap64 (Int.tmod (IntKind.u64.wrap (a3)) 20)))) == t288) || (!(t280 == t289))) = true then (j3 kj116 l0 0 (wrap64 (Int.tmod (IntKind.u64.wrap (a3)) 20)) t278 (wrap64 ((wrap64 (Int.tmod (IntKind.u64.wrap (a4)) 60)) + 1)) x68_2 true a1_0 a1_1 a1_0 (wrap64 (a1_1 + (wrap64 (Int.tmod (IntKind.u64.wrap (a3)) 20)))) (wrap64 (t279 + (wrap64 (Int.tmod (IntKind.u64.wrap (a3)) 20)))) t280) else (j3 kj116 l0 0 (wrap64 (Int.tmod (IntKind.u64.wrap (a3)) 20)) t278 (wrap64 ((wrap64 (Int.tmod (IntKind.u64.wrap (a4)) 60)) + 1)) x68_2 (t281 != t290) a1_0 a1_1 a1_0 (wrap64 (a1_1 + (wrap64 (Int.tmod (IntKind.u64.wrap (a3)) 20)))) (wrap64 (t279 + (wrap64 (Int.tmod (IntKind.u64.wrap (a3)) 20)))) t280)) else (j3 kj116 l0 0 (wrap64 (Int.tmod (IntKind.u64.wrap (a3)) 20)) t278 (wrap64 ((wrap64 (Int.tmod (IntKind.u64.wrap (a4)) 60)) + 1)) x68_2 true a1_0 a1_1 a1_0 (wrap64 (a1_1 + (wrap64 (Int.tmod (IntKind.u64.wrap (a3)) 20)))) (wrap64 (t279 + (wrap64 (Int.tmod (IntKind.u64.wrap (a3)) 20)))) t280)) else (if 1 = 1 then (if t278 = t287 then (if (!(t279 == t288) || (!((wrap64 (t280 + (wrap64 (Int.tmod (IntKind.u64.wrap (a3)) 20)))) == t289))) = true then (j5 kj116 l0 1 (wrap64 (Int.tmod (IntKind.u64.wrap (a3)) 20)) t278 (wrap64 ((wrap64 (Int.tmod (IntKind.u64.wrap (a4)) 60)) + 1)) x68_2 true a1_0 a1_1 a1_0 (wrap64 (a1_1 + (wrap64 (Int.tmod (IntKind.u64.wrap (a3)) 20)))) t279 (wrap64 (t280 + (wrap64 (Int.tmod (IntKind.u64.wrap (a3)) 20))))) else (j5 kj116 l0 1 (wrap64 (Int.tmod (IntKind.u64.wrap (a3)) 20)) t278 (wrap64 ((wrap64 (Int.tmod (IntKind.u64.wrap (a4)) 60)) + 1)) x68_2 (t281 != t290) a1_0 a1_1 a1_0 (wrap64 (a1_1 + (wrap64 (Int.tmod (IntKind.u64.wrap (a3)) 20)))) t279 (wrap64 (t280 + (wrap64 (Int.tmod (IntKind.u64.wrap (a3)) 20)))))) else (j5 kj116 l0 1 (wrap64 (Int.tmod (IntKind.u64.wrap (a3)) 20)) t278 (wrap64 ((wrap64 (Int.tmod (IntKind.u64.wrap (a4)) 60)) + 1)) x68_2 true a1_0 a1_1 a1_0 (wrap64 (a1_1 + (wrap64 (Int.tmod (IntKind.u64.wrap (a3)) 20)))) t279 (wrap64 (t280 + (wrap64 (Int.tmod (IntKind.u64.wrap (a3)) 20)))))) else (none))) = some r := by rw [if_neg (show ¬ (false = true) by decide)] at H; exact H
             clear H
             have H := H1
             clear H1
             (first | rw [if_neg (show ¬ ((1 : Int) = (0 : Int)) by decide)] at H | rw [if_neg (show ¬ ((1 : Nat) = (0 : Nat)) by decide)] at H)
             (first | rw [if_pos (show ((1 : Int) = (1 : Int)) by decide)] at H | rw [if_pos (show ((1 : Nat) = (1 : Nat)) by decide)] at H)
             have HC139 := Aside0.mk H
             clear H
             have hnb140 := NB283_262.out
             have hnc140 := NB262_283.out
             have hnb141 := NB283_271.out
             have hnc141 := NB271_283.out
             have hnb142 := NB283_292.out
             have hnc142 := NB292_283.out
             have hcz143_0 : wc.cell? ⟨gb283, 0, none⟩ = some (.int .i64 t279) := (blk_cell BK283.out 0).trans rfl
             have hcz143_1 : wc.cell? ⟨gb283, 1, none⟩ = some (.int .i64 t280) := (blk_cell BK283.out 1).trans rfl
             have hfz143_0 := blk_frozen BK283.out 0
             have hfz143_1 := blk_frozen BK283.out 1
             go_upto_region 17 with (fail)
             go_cut [125] (fun v125 wc => ∃ (kq : Nat) (x125_138 : Bool), v125 = .bool x125_138 ∧ Aside0 (j5 kq l0 1 (wrap64 (Int.tmod (IntKind.u64.wrap (a3)) 20)) t278 (wrap64 ((wrap64 (Int.tmod (IntKind.u64.wrap (a4)) 60)) + 1)) x68_2 x125_138 a1_0 a1_1 a1_0 (wrap64 (a1_1 + (wrap64 (Int.tmod (IntKind.u64.wrap (a3)) 20)))) t279 (wrap64 (t280 + (wrap64 (Int.tmod (IntKind.u64.wrap (a3)) 20)))) = some r) ∧ Aside0 (kq ≤ kj116) ∧ Aside0 (wc.heap[gb262]? = some (.cells #[.int .i64 a1_0, .int .i64 a1_1] 23 (0, 0))) ∧ Aside0 (wc.heap[gb271]? = some (.cells #[.int .i64 a1_0, .int .i64 (wrap64 (a1_1 + (wrap64 (Int.tmod (IntKind.u64.wrap (a3)) 20))))] 23 (0, 0))) ∧ Aside0 (wc.heap[gb283]? = some (.cells #[.int .i64 t279, .int .i64 (wrap64 (t280 + (wrap64 (Int.tmod (IntKind.u64.wrap (a3)) 20))))] 23 (0, 0))) ∧ Aside0 (wc.heap[gb292]? = some (.cells #[.int .i64 t288, .int .i64 t289] 23 (0, 0))) ∧ Aside0 (Below w.heap.size w wc))
             case first =>
              have H := HC139.out
              clear HC139
              by_cases c144 : t278 = t287
              ·rw [if_pos c144] at H
               have c144b0 : (t278 == t287) = true := beq_iff_eq.mpr c144
               have c144b1 : (t278 != t287) = false := bne_eq_false_iff_eq.mpr c144
               clear c144
               (first | rw [c144b0] | (simp only [i64_w, i32_w]; rw [c144b0]) | skip)
               by_cases c145 : (!(t279 == t288) || (!((wrap64 (t280 + (wrap64 (Int.tmod (IntKind.u64.wrap (a3)) 20)))) == t289))) = true
               ·rw [if_pos c145] at H
                have c145b0 : (!(t279 == t288) || (!((wrap64 (t280 + (wrap64 (Int.tmod (IntKind.u64.wrap (a3)) 20)))) == t289))) = true := c145
                clear c145
                as_aux_lemma =>
                 have H' := Aside0.mk H
                 clear H
                 have hnb146 := NB283_262.out
                 have hnc146 := NB262_283.out
                 have hnb147 := NB283_271.out
                 have hnc147 := NB271_283.out
                 have hnb148 := NB283_292.out
                 have hnc148 := NB292_283.out
                 have hcz149_0 : wc.cell? ⟨gb283, 0, none⟩ = some (.int .i64 t279) := (blk_cell BK283.out 0).trans rfl
                 have hcz149_1 : wc.cell? ⟨gb283, 1, none⟩ = some (.int .i64 t280) := (blk_cell BK283.out 1).trans rfl
                 have hfz149_0 := blk_frozen BK283.out 0
                 have hfz149_1 := blk_frozen BK283.out 1
                 have hnb150 := NB292_262.out
                 have hnc150 := NB262_292.out
                 have hnb151 := NB292_271.out
                 have hnc151 := NB271_292.out
                 have hcz152_0 : wc.cell? ⟨gb292, 0, none⟩ = some (.int .i64 t288) := (blk_cell BK292.out 0).trans rfl
                 have hcz152_1 : wc.cell? ⟨gb292, 1, none⟩ = some (.int .i64 t289) := (blk_cell BK292.out 1).trans rfl
                 have hfz152_0 := blk_frozen BK292.out 0
                 have hfz152_1 := blk_frozen BK292.out 1
                 go_wp2
                 go_meet
                 case rel => (try rw [← Niq25.out]); exact ⟨_, (true), sr_, H', ⟨by have := HJ5.out; have := HK2.out; have := HJ116.out; first | omega | exact Nat.le_refl _⟩, ⟨by (with_reducible repeat (first | refine blk_drewN ?_ _ | refine blk_drew ?_ | refine blk_alloc ?_ _)); refine blk_far ?_ NB262_283.out _; (with_reducible repeat (first | refine blk_drewN ?_ _ | refine blk_drew ?_ | refine blk_alloc ?_ _)); exact BK262.out⟩, ⟨by (with_reducible repeat (first | refine blk_drewN ?_ _ | refine blk_drew ?_ | refine blk_alloc ?_ _)); refine blk_far ?_ NB271_283.out _; (with_reducible repeat (first | refine blk_drewN ?_ _ | refine blk_drew ?_ | refine blk_alloc ?_ _)); exact BK271.out⟩, ⟨by (with_reducible repeat (first | refine blk_drewN ?_ _ | refine blk_drew ?_ | refine blk_alloc ?_ _)); refine blk_put (cs := #[.int .i64 t279, .int .i64 t280]) ?_ 1 _ rfl; (with_reducible repeat (first | refine blk_drewN ?_ _ | refine blk_drew ?_ | refine blk_alloc ?_ _)); exact BK283.out⟩, ⟨by (with_reducible repeat (first | refine blk_drewN ?_ _ | refine blk_drew ?_ | refine blk_alloc ?_ _)); refine blk_far ?_ NB292_283.out _; (with_reducible repeat (first | refine blk_drewN ?_ _ | refine blk_drew ?_ | refine blk_alloc ?_ _)); exact BK292.out⟩, ⟨hb_ HB.out⟩⟩
               rw [if_neg c145] at H
               have c145b0 : (!(t279 == t288) || (!((wrap64 (t280 + (wrap64 (Int.tmod (IntKind.u64.wrap (a3)) 20)))) == t289))) = false := by simpa using c145
               clear c145
               as_aux_lemma =>
                have H' := Aside0.mk H
                clear H
                have hnb153 := NB283_262.out
                have hnc153 := NB262_283.out
                have hnb154 := NB283_271.out
                have hnc154 := NB271_283.out
                have hnb155 := NB283_292.out
                have hnc155 := NB292_283.out
                have hcz156_0 : wc.cell? ⟨gb283, 0, none⟩ = some (.int .i64 t279) := (blk_cell BK283.out 0).trans rfl
                have hcz156_1 : wc.cell? ⟨gb283, 1, none⟩ = some (.int .i64 t280) := (blk_cell BK283.out 1).trans rfl
                have hfz156_0 := blk_frozen BK283.out 0
                have hfz156_1 := blk_frozen BK283.out 1
                have hnb157 := NB292_262.out
                have hnc157 := NB262_292.out
                have hnb158 := NB292_271.out
                have hnc158 := NB271_292.out
                have hcz159_0 : wc.cell? ⟨gb292, 0, none⟩ = some (.int .i64 t288) := (blk_cell BK292.out 0).trans rfl
                have hcz159_1 : wc.cell? ⟨gb292, 1, none⟩ = some (.int .i64 t289) := (blk_cell BK292.out 1).trans rfl
                have hfz159_0 := blk_frozen BK292.out 0
                have hfz159_1 := blk_frozen BK292.out 1
                go_wp2
                go_meet
                case rel => (try rw [← Niq25.out]); exact ⟨_, ((t281 != t290)), sr_, H', ⟨by have := HJ5.out; have := HK2.out; have := HJ116.out; first | omega | exact Nat.le_refl _⟩, ⟨by (with_reducible repeat (first | refine blk_drewN ?_ _ | refine blk_drew ?_ | refine blk_alloc ?_ _)); refine blk_far ?_ NB262_283.out _; (with_reducible repeat (first | refine blk_drewN ?_ _ | refine blk_drew ?_ | refine blk_alloc ?_ _)); exact BK262.out⟩, ⟨by (with_reducible repeat (first | refine blk_drewN ?_ _ | refine blk_drew ?_ | refine blk_alloc ?_ _)); refine blk_far ?_ NB271_283.out _; (with_reducible repeat (first | refine blk_drewN ?_ _ | refine blk_drew ?_ | refine blk_alloc ?_ _)); exact BK271.out⟩, ⟨by (with_reducible repeat (first | refine blk_drewN ?_ _ | refine blk_drew ?_ | refine blk_alloc ?_ _)); refine blk_put (cs := #[.int .i64 t279, .int .i64 t280]) ?_ 1 _ rfl; (with_reducible repeat (first | refine blk_drewN ?_ _ | refine blk_drew ?_ | refine blk_alloc ?_ _)); exact BK283.out⟩, ⟨by (with_reducible repeat (first | refine blk_drewN ?_ _ | refine blk_drew ?_ | refine blk_alloc ?_ _)); refine blk_far ?_ NB292_283.out _; (with_reducible repeat (first | refine blk_drewN ?_ _ | refine blk_drew ?_ | refine blk_alloc ?_ _)); exact BK292.out⟩, ⟨hb_ HB.out⟩⟩
              rw [if_neg c144] at H
              have c144b0 : (t278 == t287) = false := beq_eq_false_iff_ne.mpr c144
              have c144b1 : (t278 != t287) = true := bne_iff_ne.mpr c144
              (first | rw [c144b0] | (simp only [i64_w, i32_w]; rw [c144b0]) | skip)
              as_aux_lemma =>
               have H' := Aside0.mk H
               clear H
               go_wp2
               go_meet
               case rel => (try rw [← Niq25.out]); exact ⟨_, (true), sr_, H', ⟨by have := HJ5.out; have := HK2.out; have := HJ116.out; first | omega | exact Nat.le_refl _⟩, ⟨by (with_reducible repeat (first | refine blk_drewN ?_ _ | refine blk_drew ?_ | refine blk_alloc ?_ _)); refine blk_far ?_ NB262_283.out _; (with_reducible repeat (first | refine blk_drewN ?_ _ | refine blk_drew ?_ | refine blk_alloc ?_ _)); exact BK262.out⟩, ⟨by (with_reducible repeat (first | refine blk_drewN ?_ _ | refine blk_drew ?_ | refine blk_alloc ?_ _)); refine blk_far ?_ NB271_283.out _; (with_reducible repeat (first | refine blk_drewN ?_ _ | refine blk_drew ?_ | refine blk_alloc ?_ _)); exact BK271.out⟩, ⟨by (with_reducible repeat (first | refine blk_drewN ?_ _ | refine blk_drew ?_ | refine blk_alloc ?_ _)); refine blk_put (cs := #[.int .i64 t279, .int .i64 t280]) ?_ 1 _ rfl; (with_reducible repeat (first | refine blk_drewN ?_ _ | refine blk_drew ?_ | refine blk_alloc ?_ _)); exact BK283.out⟩, ⟨by (with_reducible repeat (first | refine blk_drewN ?_ _ | refine blk_drew ?_ | refine blk_alloc ?_ _)); refine blk_far ?_ NB292_283.out _; (with_reducible repeat (first | refine blk_drewN ?_ _ | refine blk_drew ?_ | refine blk_alloc ?_ _)); exact BK292.out⟩, ⟨hb_ HB.out⟩⟩
             case rest =>
              clear HC139
              try clear c1
              try clear p2
              try clear q2
              try clear p6
              try clear c10
              try clear c11
              try clear c13
              try clear c14
              try clear c15
              try clear q25
              try clear p64
              try clear c135
              try clear c135b0
              try clear c135b1
              try clear c136
              try clear c136b0
              try clear c136b1
              try clear c137
              try clear c137b0
              try clear c138
              try clear c140
              try clear c141
              try clear c142
              try clear c144
              try clear c144b0
              try clear c144b1
              try clear c145
              try clear c145b0
              try clear c146
              try clear c147
              try clear c148
              try clear c150
              try clear c151
              try clear c153
              try clear c154
              try clear c155
              try clear c157
              try clear c158
              try clear hcz143_0
              try clear hcz143_1
              try clear hcz149_0
              try clear hcz149_1
              try clear hcz152_0
              try clear hcz152_1
              try clear hcz156_0
              try clear hcz156_1
              try clear hcz159_0
              try clear hcz159_1
              try clear hfz143_0
              try clear hfz143_1
              try clear hfz149_0
              try clear hfz149_1
              try clear hfz152_0
              try clear hfz152_1
              try clear hfz156_0
              try clear hfz156_1
              try clear hfz159_0
              try clear hfz159_1
              try clear p2
              try clear p6
              try clear p64
              try clear q2
              try clear q25
              obtain ⟨kq, x125_138, rfl, HA, HJ138, BK262, BK271, BK283, BK292, HB⟩ := hcut
              cases kq with
              | zero => exact absurd HA.out (by simp [j5])
              | succ kj138 =>
               have H := HA.out
               clear HA
               simp only [j5] at H
               by_cases c160 : x125_138 = true
               ·subst c160
                have H1 : (none) = some r := by rw [if_pos rfl] at H; exact H
                clear H
                have H := H1
                clear H1
                exact absurd H (by simp)
               ·replace c160 := Bool.eq_false_iff.mpr c160
                subst c160
                have H1 : (if 0 ≤ t278 then (if t278 < (l0.length : Int) then (if ((rd_T39 l0 t278).f0) = 2 then (if ((rd_T39 l0 t278).f1) = 1 then (if 1 = 0 then (j6 kj138 l0 0 (wrap64 (Int.tmod (IntKind.u64.wrap (a3)) 20)) (wrap64 ((wrap64 (Int.tmod (IntKind.u64.wrap (a4)) 60)) + 1)) x68_2 (t279 == (wrap64 (Int.tmod (IntKind.u64.wrap (a3)) 20))) a1_0 a1_1 a1_0 (wrap64 (a1_1 + (wrap64 (Int.tmod (IntKind.u64.wrap (a3)) 20))))) else (if 1 = 1 then (j6 kj138 l0 1 (wrap64 (Int.tmod (IntKind.u64.wrap (a3)) 20)) (wrap64 ((wrap64 (Int.tmod (IntKind.u64.wrap (a4)) 60)) + 1)) x68_2 ((wrap64 (t280 + (wrap64 (Int.tmod (IntKind.u64.wrap (a3)) 20)))) == (wrap64 (Int.tmod (IntKind.u64.wrap (a3)) 20))) a1_0 a1_1 a1_0 (wrap64 (a1_1 + (wrap64 (Int.tmod (IntKind.u64.wrap (a3)) 20))))) else (none))) else (j6 kj138 l0 1 (wrap64 (Int.tmod (IntKind.u64.wrap (a3)) 20)) (wrap64 ((wrap64 (Int.tmod (IntKind.u64.wrap (a4)) 60)) + 1)) x68_2 false a1_0 a1_1 a1_0 (wrap64 (a1_1 + (wrap64 (Int.tmod (IntKind.u64.wrap (a3)) 20)))))) else (j6 kj138 l0 1 (wrap64 (Int.tmod (IntKind.u64.wrap (a3)) 20)) (wrap64 ((wrap64 (Int.tmod (IntKind.u64.wrap (a4)) 60)) + 1)) x68_2 false a1_0 a1_1 a1_0 (wrap64 (a1_1 + (wrap64 (Int.tmod (IntKind.u64.wrap (a3)) 20)))))) else (none)) else (none)) = some r := by rw [if_neg (show ¬ (false = true) by decide)] at H; exact H
                clear H
                have H := H1
                clear H1
                have HC161 := Aside0.mk H
                clear H
                go_upto_region 19 with (fail)
                go_cut [147] (fun v147 wc => ∃ (kq : Nat) (x147_160 : Bool), v147 = .bool x147_160 ∧ Aside0 (j6 kq l0 1 (wrap64 (Int.tmod (IntKind.u64.wrap (a3)) 20)) (wrap64 ((wrap64 (Int.tmod (IntKind.u64.wrap (a4)) 60)) + 1)) x68_2 x147_160 a1_0 a1_1 a1_0 (wrap64 (a1_1 + (wrap64 (Int.tmod (IntKind.u64.wrap (a3)) 20)))) = some r) ∧ Aside0 (kq ≤ kj138) ∧ Aside0 (wc.heap[gb262]? = some (.cells #[.int .i64 a1_0, .int .i64 a1_1] 23 (0, 0))) ∧ Aside0 (wc.heap[gb271]? = some (.cells #[.int .i64 a1_0, .int .i64 (wrap64 (a1_1 + (wrap64 (Int.tmod (IntKind.u64.wrap (a3)) 20))))] 23 (0, 0))) ∧ Aside0 (wc.heap[gb283]? = some (.cells #[.int .i64 t279, .int .i64 (wrap64 (t280 + (wrap64 (Int.tmod (IntKind.u64.wrap (a3)) 20))))] 23 (0, 0))) ∧ Aside0 (wc.heap[gb292]? = some (.cells #[.int .i64 t288, .int .i64 t289] 23 (0, 0))) ∧ Aside0 (Below w.heap.size w wc))
                case first =>
                 have H := HC161.out
                 clear HC161
                 by_cases c162 : 0 ≤ t278
                 ·rw [if_pos c162] at H
                  have c162b0 : decide (0 ≤ t278) = true := decide_eq_true c162
                  clear c162
                  (first | rw [c162b0] | (simp only [i64_w, i32_w]; rw [c162b0]) | skip)
                  by_cases c163 : t278 < (l0.length : Int)
                  ·rw [if_pos c163] at H
                   have c163b0 : decide (t278 < (l0.length : Int)) = true := decide_eq_true c163
                   clear c163
                   by_cases c164 : ((rd_T39 l0 t278).f0) = 2
                   ·rw [if_pos c164] at H
                    have c164b0 : (((rd_T39 l0 t278).f0) == 2) = true := beq_iff_eq.mpr c164
                    have c164b1 : (((rd_T39 l0 t278).f0) != 2) = false := bne_eq_false_iff_eq.mpr c164
                    clear c164
                    by_cases c165 : ((rd_T39 l0 t278).f1) = 1
                    ·rw [if_pos c165] at H
                     have c165b0 : (((rd_T39 l0 t278).f1) == 1) = true := beq_iff_eq.mpr c165
                     have c165b1 : (((rd_T39 l0 t278).f1) != 1) = false := bne_eq_false_iff_eq.mpr c165
                     clear c165
                     (first | rw [if_neg (show ¬ ((1 : Int) = (0 : Int)) by decide)] at H | rw [if_neg (show ¬ ((1 : Nat) = (0 : Nat)) by decide)] at H)
                     (first | rw [if_pos (show ((1 : Int) = (1 : Int)) by decide)] at H | rw [if_pos (show ((1 : Nat) = (1 : Nat)) by decide)] at H)
                     as_aux_lemma =>
                      have H' := Aside0.mk H
                      clear H
                      have p296 : 0 ≤ (t278 : Int) := of_decide_eq_true (by first | (with_reducible assumption) | assumption)
                      have q296 : t278 < (l0.length : Int) := of_decide_eq_true (by first | (with_reducible assumption) | assumption)
                      obtain ⟨ad296, e296, hx296_0, hx296_1, hx296_2, hx296_3⟩ := at_T39 HR0.out t278 p296 q296
                      (try rw [← Niq25.out] at hx296_0)
                      (try rw [← Niq25.out] at hx296_1)
                      (try rw [← Niq25.out] at hx296_2)
                      (try rw [← Niq25.out] at hx296_3)
                      cases e296
                      replace hx296_0 := (HB.out.cell (World.block_lt_of_cell? w _ hx296_0)).trans hx296_0
                      replace hx296_1 := (HB.out.cell (World.block_lt_of_cell? w _ hx296_1)).trans hx296_1
                      replace hx296_2 := (HB.out.cell (World.block_lt_of_cell? w _ hx296_2)).trans hx296_2
                      replace hx296_3 := (HB.out.cell (World.block_lt_of_cell? w _ hx296_3)).trans hx296_3
                      replace p296 := eq_true p296
                      replace q296 := eq_true q296
                      have p297 : 0 ≤ (t278 : Int) := of_decide_eq_true (by first | (with_reducible assumption) | assumption)
                      have q297 : t278 < (l0.length : Int) := of_decide_eq_true (by first | (with_reducible assumption) | assumption)
                      obtain ⟨ad297, e297, hx297_0, hx297_1, hx297_2, hx297_3⟩ := at_T39 HR0.out t278 p297 q297
                      (try rw [← Niq25.out] at hx297_0)
                      (try rw [← Niq25.out] at hx297_1)
                      (try rw [← Niq25.out] at hx297_2)
                      (try rw [← Niq25.out] at hx297_3)
                      obtain rfl : ad296 = ad297 := (by injection e297)
                      replace hx297_0 := (HB.out.cell (World.block_lt_of_cell? w _ hx297_0)).trans hx297_0
                      replace hx297_1 := (HB.out.cell (World.block_lt_of_cell? w _ hx297_1)).trans hx297_1
                      replace hx297_2 := (HB.out.cell (World.block_lt_of_cell? w _ hx297_2)).trans hx297_2
                      replace hx297_3 := (HB.out.cell (World.block_lt_of_cell? w _ hx297_3)).trans hx297_3
                      replace p297 := eq_true p297
                      replace q297 := eq_true q297
                      have hnb166 := NB283_262.out
                      have hnc166 := NB262_283.out
                      have hnb167 := NB283_271.out
                      have hnc167 := NB271_283.out
                      have hnb168 := NB283_292.out
                      have hnc168 := NB292_283.out
                      have hcz169_0 : wc.cell? ⟨gb283, 0, none⟩ = some (.int .i64 t279) := (blk_cell BK283.out 0).trans rfl
                      have hcz169_1 : wc.cell? ⟨gb283, 1, none⟩ = some (.int .i64 (wrap64 (t280 + (wrap64 (Int.tmod (IntKind.u64.wrap (a3)) 20))))) := (blk_cell BK283.out 1).trans rfl
                      have hfz169_0 := blk_frozen BK283.out 0
                      have hfz169_1 := blk_frozen BK283.out 1
                      go_wp2
                      go_meet
                      case rel => (try rw [← Niq25.out]); exact ⟨_, (((wrap64 (t280 + (wrap64 (Int.tmod (IntKind.u64.wrap (a3)) 20)))) == (wrap64 (Int.tmod (IntKind.u64.wrap (a3)) 20)))), sr_, H', ⟨by have := HJ5.out; have := HK2.out; have := HJ116.out; have := HJ138.out; first | omega | exact Nat.le_refl _⟩, ⟨bk_ BK262.out⟩, ⟨bk_ BK271.out⟩, ⟨bk_ BK283.out⟩, ⟨bk_ BK292.out⟩, ⟨hb_ HB.out⟩⟩
                    rw [if_neg c165] at H
                    have c165b0 : (((rd_T39 l0 t278).f1) == 1) = false := beq_eq_false_iff_ne.mpr c165
                    have c165b1 : (((rd_T39 l0 t278).f1) != 1) = true := bne_iff_ne.mpr c165
                    as_aux_lemma =>
                     have H' := Aside0.mk H
                     clear H
                     have p296 : 0 ≤ (t278 : Int) := of_decide_eq_true (by first | (with_reducible assumption) | assumption)
                     have q296 : t278 < (l0.length : Int) := of_decide_eq_true (by first | (with_reducible assumption) | assumption)
                     obtain ⟨ad296, e296, hx296_0, hx296_1, hx296_2, hx296_3⟩ := at_T39 HR0.out t278 p296 q296
                     (try rw [← Niq25.out] at hx296_0)
                     (try rw [← Niq25.out] at hx296_1)
                     (try rw [← Niq25.out] at hx296_2)
                     (try rw [← Niq25.out] at hx296_3)
                     cases e296
                     replace hx296_0 := (HB.out.cell (World.block_lt_of_cell? w _ hx296_0)).trans hx296_0
                     replace hx296_1 := (HB.out.cell (World.block_lt_of_cell? w _ hx296_1)).trans hx296_1
                     replace hx296_2 := (HB.out.cell (World.block_lt_of_cell? w _ hx296_2)).trans hx296_2
                     replace hx296_3 := (HB.out.cell (World.block_lt_of_cell? w _ hx296_3)).trans hx296_3
                     replace p296 := eq_true p296
                     replace q296 := eq_true q296
                     have p297 : 0 ≤ (t278 : Int) := of_decide_eq_true (by first | (with_reducible assumption) | assumption)
                     have q297 : t278 < (l0.length : Int) := of_decide_eq_true (by first | (with_reducible assumption) | assumption)
                     obtain ⟨ad297, e297, hx297_0, hx297_1, hx297_2, hx297_3⟩ := at_T39 HR0.out t278 p297 q297
                     (try rw [← Niq25.out] at hx297_0)
                     (try rw [← Niq25.out] at hx297_1)
                     (try rw [← Niq25.out] at hx297_2)
                     (try rw [← Niq25.out] at hx297_3)
                     obtain rfl : ad296 = ad297 := (by injection e297)
                     replace hx297_0 := (HB.out.cell (World.block_lt_of_cell? w _ hx297_0)).trans hx297_0
                     replace hx297_1 := (HB.out.cell (World.block_lt_of_cell? w _ hx297_1)).trans hx297_1
                     replace hx297_2 := (HB.out.cell (World.block_lt_of_cell? w _ hx297_2)).trans hx297_2
                     replace hx297_3 := (HB.out.cell (World.block_lt_of_cell? w _ hx297_3)).trans hx297_3
                     replace p297 := eq_true p297
                     replace q297 := eq_true q297
                     go_wp2
                     go_meet
                     case rel => (try rw [← Niq25.out]); exact ⟨_, (false), sr_, H', ⟨by have := HJ5.out; have := HK2.out; have := HJ116.out; have := HJ138.out; first | omega | exact Nat.le_refl _⟩, ⟨bk_ BK262.out⟩, ⟨bk_ BK271.out⟩, ⟨bk_ BK283.out⟩, ⟨bk_ BK292.out⟩, ⟨hb_ HB.out⟩⟩
                   rw [if_neg c164] at H
                   have c164b0 : (((rd_T39 l0 t278).f0) == 2) = false := beq_eq_false_iff_ne.mpr c164
                   have c164b1 : (((rd_T39 l0 t278).f0) != 2) = true := bne_iff_ne.mpr c164
                   as_aux_lemma =>
                    have H' := Aside0.mk H
                    clear H
                    have p296 : 0 ≤ (t278 : Int) := of_decide_eq_true (by first | (with_reducible assumption) | assumption)
                    have q296 : t278 < (l0.length : Int) := of_decide_eq_true (by first | (with_reducible assumption) | assumption)
                    obtain ⟨ad296, e296, hx296_0, hx296_1, hx296_2, hx296_3⟩ := at_T39 HR0.out t278 p296 q296
                    (try rw [← Niq25.out] at hx296_0)
                    (try rw [← Niq25.out] at hx296_1)
                    (try rw [← Niq25.out] at hx296_2)
                    (try rw [← Niq25.out] at hx296_3)
                    cases e296
                    replace hx296_0 := (HB.out.cell (World.block_lt_of_cell? w _ hx296_0)).trans hx296_0
                    replace hx296_1 := (HB.out.cell (World.block_lt_of_cell? w _ hx296_1)).trans hx296_1
                    replace hx296_2 := (HB.out.cell (World.block_lt_of_cell? w _ hx296_2)).trans hx296_2
                    replace hx296_3 := (HB.out.cell (World.block_lt_of_cell? w _ hx296_3)).trans hx296_3
                    replace p296 := eq_true p296
                    replace q296 := eq_true q296
                    go_wp2
                    go_meet
                    case rel => (try rw [← Niq25.out]); exact ⟨_, (false), sr_, H', ⟨by have := HJ5.out; have := HK2.out; have := HJ116.out; have := HJ138.out; first | omega | exact Nat.le_refl _⟩, ⟨bk_ BK262.out⟩, ⟨bk_ BK271.out⟩, ⟨bk_ BK283.out⟩, ⟨bk_ BK292.out⟩, ⟨hb_ HB.out⟩⟩
                  rw [if_neg c163] at H
                  exact absurd H (by simp)
                 rw [if_neg c162] at H
                 exact absurd H (by simp)
                case rest =>
                 clear HC161
                 try clear c1
                 try clear p2
                 try clear q2
                 try clear hx2
                 try clear p6
                 try clear c10
                 try clear c11
                 try clear c13
                 try clear c14
                 try clear c15
                 try clear c16
                 try clear q25
                 try clear p29
                 try clear q29
                 try clear hx29
                 try clear p64
                 try clear c135
                 try clear c135b0
                 try clear c135b1
                 try clear c136
                 try clear c136b0
                 try clear c136b1
                 try clear c137
                 try clear c137b0
                 try clear c138
                 try clear c140
                 try clear c141
                 try clear c142
                 try clear c144
                 try clear c144b0
                 try clear c144b1
                 try clear c145
                 try clear c145b0
                 try clear c146
                 try clear c147
                 try clear c148
                 try clear c150
                 try clear c151
                 try clear c153
                 try clear c154
                 try clear c155
                 try clear c157
                 try clear c158
                 try clear c160
                 try clear c162
                 try clear c162b0
                 try clear c163
                 try clear c163b0
                 try clear c164
                 try clear c164b0
                 try clear c164b1
                 try clear c165
                 try clear c165b0
                 try clear c165b1
                 try clear c166
                 try clear c167
                 try clear c168
                 try clear hcz143_0
                 try clear hcz143_1
                 try clear hcz149_0
                 try clear hcz149_1
                 try clear hcz152_0
                 try clear hcz152_1
                 try clear hcz156_0
                 try clear hcz156_1
                 try clear hcz159_0
                 try clear hcz159_1
                 try clear hcz169_0
                 try clear hcz169_1
                 try clear hfz143_0
                 try clear hfz143_1
                 try clear hfz149_0
                 try clear hfz149_1
                 try clear hfz152_0
                 try clear hfz152_1
                 try clear hfz156_0
                 try clear hfz156_1
                 try clear hfz159_0
                 try clear hfz159_1
                 try clear hfz169_0
                 try clear hfz169_1
                 try clear hx296_0
                 try clear hx296_1
                 try clear hx296_2
                 try clear hx296_3
                 try clear hx297_0
                 try clear hx297_1
                 try clear hx297_2
                 try clear hx297_3
                 try clear p2
                 try clear p296
                 try clear p297
                 try clear p6
                 try clear p64
                 try clear q2
                 try clear q25
                 try clear q296
                 try clear q297
                 obtain ⟨kq, x147_160, rfl, HA, HJ160, BK262, BK271, BK283, BK292, HB⟩ := hcut
                 cases kq with
                 | zero => exact absurd HA.out (by simp [j6])
                 | succ kj160 =>
                  have H := HA.out
                  clear HA
                  simp only [j6] at H
                  by_cases c170 : x147_160 = true
                  ·subst c170
                   have H1 : ((comfitlaw06_awake.f kj160).bind fun t298 => (some t298)) = some r := by rw [if_pos rfl] at H; exact H
                   clear H
                   have H := H1
                   clear H1
                   replace H := Option.bind_eq_some_iff.mp H
                   obtain ⟨t298, A1710, H⟩ := H
                   replace H : (some t298) = some r := H
                   have A171 := Aside0.mk A1710
                   clear A1710
                   as_aux_lemma =>
                    obtain rfl := Option.some.inj H
                    go_wp2_with (first | ((with_reducible refine gate_callee (f := 14) rfl ?_); refine goesL_ (some 148) rfl rfl Try.func14 (by kernel_rfl) rfl #[] rfl al_ ?_; (with_reducible refine (comfitlaw06_awake.calls kj160  t298 _ A171.out).mono ?_); rintro e w172 ⟨rfl, hb⟩; refine ⟨_, rfl, ?_⟩; have n0_ := Aside0.mk (bkb_ BK262.out hb); have n1_ := Aside0.mk (bkb_ BK271.out hb); have n2_ := Aside0.mk (bkb_ BK283.out hb); have n3_ := Aside0.mk (bkb_ BK292.out hb); have n4_ := Aside0.mk (below_step (hb_ HB.out) hb); clear BK262; clear BK271; clear BK283; clear BK292; clear HB; have BK262 := n0_; have BK271 := n1_; have BK283 := n2_; have BK292 := n3_; have HB := n4_; clear n0_ n1_ n2_ n3_ n4_; (try clear hb); (try clear hb2); (try clear hk); (try clear hi)))
                    go_ret
                    exact ⟨by first | rfl | (simp [errW_none, errW_some] <;> rfl) | (simp [*, errW_none, errW_some] <;> rfl), hb_ HB.out⟩
                  ·replace c170 := Bool.eq_false_iff.mpr c170
                   subst c170
                   have H1 : (comfitlaw06_TagsMore.l0 kj160 l0 1 (wrap64 (Int.tmod (IntKind.u64.wrap (a3)) 20)) (wrap64 ((wrap64 (Int.tmod (IntKind.u64.wrap (a4)) 60)) + 1)) (wrap64 (x68_2 + 1)) a1_0 a1_1 a1_0 (wrap64 (a1_1 + (wrap64 (Int.tmod (IntKind.u64.wrap (a3)) 20))))) = some r := by rw [if_neg (show ¬ (false = true) by decide)] at H; exact H
                   clear H
                   have H := H1
                   clear H1
                   as_aux_lemma =>
                    have H' := Aside0.mk H
                    clear H
                    go_wp2
                    go_roundg kj160
                    case measure => have := HJ5.out; have := HK2.out; have := HJ116.out; have := HJ138.out; have := HJ160.out; omega
                    case rel => (try rw [← Niq25.out]); exact ⟨(wrap64 (x68_2 + 1)), sr_, H', ⟨by have := HJ5.out; have := HK2.out; have := HJ116.out; have := HJ138.out; have := HJ160.out; omega⟩, ⟨bk_ BK262.out⟩, ⟨bk_ BK271.out⟩, ⟨hb_ HB.out⟩⟩
         rw [if_neg c112] at H
         have c112b0 : decide (x68_2 < (wrap64 ((wrap64 (Int.tmod (IntKind.u64.wrap (a4)) 60)) + 1))) = false := decide_eq_false c112
         clear c112
         replace H := Option.bind_eq_some_iff.mp H
         obtain ⟨t274, A1730, H⟩ := H
         replace H : (some t274) = some r := H
         have A173 := Aside0.mk A1730
         clear A1730
         as_aux_lemma =>
          obtain rfl := Option.some.inj H
          go_wp2_with (first | ((with_reducible refine gate_callee (f := 14) rfl ?_); refine goesL_ (some 150) rfl rfl Try.func14 (by kernel_rfl) rfl #[] rfl al_ ?_; (with_reducible refine (comfitlaw06_awake.calls k2  t274 _ A173.out).mono ?_); rintro e w174 ⟨rfl, hb⟩; refine ⟨_, rfl, ?_⟩; have n0_ := Aside0.mk (bkb_ BK262.out hb); have n1_ := Aside0.mk (bkb_ BK271.out hb); have n2_ := Aside0.mk (below_step (hb_ HB.out) hb); clear BK262; clear BK271; clear HB; have BK262 := n0_; have BK271 := n1_; have HB := n2_; clear n0_ n1_ n2_; (try clear hb); (try clear hb2); (try clear hk); (try clear hi)))
          go_ret
          exact ⟨by first | rfl | (simp [errW_none, errW_some] <;> rfl) | (simp [*, errW_none, errW_some] <;> rfl), hb_ HB.out⟩
      ·replace c106 := Bool.eq_false_iff.mpr c106
       subst c106
       have H1 : ((comfitlaw06_awake.f kj5).bind fun t300 => (some t300)) = some r := by rw [if_neg (show ¬ (false = true) by decide)] at H; exact H
       clear H
       have H := H1
       clear H1
       replace H := Option.bind_eq_some_iff.mp H
       obtain ⟨t300, A1750, H⟩ := H
       replace H : (some t300) = some r := H
       have A175 := Aside0.mk A1750
       clear A1750
       as_aux_lemma =>
        obtain rfl := Option.some.inj H
        have hcz176_0 : wc.cell? ⟨gb262, 0, none⟩ = some (.int .i64 a1_0) := (blk_cell BK262.out 0).trans rfl
        have hcz176_1 : wc.cell? ⟨gb262, 1, none⟩ = some (.int .i64 a1_1) := (blk_cell BK262.out 1).trans rfl
        have hfz176_0 := blk_frozen BK262.out 0
        have hfz176_1 := blk_frozen BK262.out 1
        go_wp2_with (first | ((with_reducible refine gate_dst (N := 13) rfl ?_); (try (refine gate_guard (by rfl) ?_; dsimp only)); refine box_event ?hg (N := 13) ?hd (cs := #[.int .i64 0, .int .i64 0]) (t := 23) ?hr ?_; (case hd => rfl); (case hg => rfl); (case hr => first | (go_simp; done) | (go_simp; rfl)); intro gb271 hg w177 hbox hb; have n0_ := Aside0.mk (bkb_ BK262.out hb); have n1_ := Aside0.mk (below_step (hb_ HB.out) hb); have n2_ := Aside0.mk (hbox); have n3_ := Aside0.mk ((by rw [hg]; exact (below_size (hb_ HB.out)) : w.heap.size ≤ gb271)); have n4_ := Aside0.mk ((by rw [hg]; exact (below_size (hb_ HB.out)) : w.heap.size ≤ gb271)); have n5_ := Aside0.mk ((by rw [hg]; exact Nat.ne_of_lt (bkl_ BK262.out) : gb262 ≠ gb271)); have n6_ := Aside0.mk ((by rw [hg]; exact Nat.ne_of_gt (bkl_ BK262.out) : gb271 ≠ gb262)); clear BK262; clear HB; have BK262 := n0_; have HB := n1_; have BK271 := n2_; have GW271 := n3_; have GE271 := n4_; have NB262_271 := n5_; have NB271_262 := n6_; clear n0_ n1_ n2_ n3_ n4_ n5_ n6_; clear hb hbox hg; have hnb178 := NB271_262.out; have hnc178 := NB262_271.out; have hcz179_0 : w177.cell? ⟨gb271, 0, none⟩ = some (.int .i64 0) := (blk_cell BK271.out 0).trans rfl; have hcz179_1 : w177.cell? ⟨gb271, 1, none⟩ = some (.int .i64 0) := (blk_cell BK271.out 1).trans rfl; have hfz179_0 := blk_frozen BK271.out 0; have hfz179_1 := blk_frozen BK271.out 1) | ((with_reducible refine gate_callee (f := 13) rfl ?_); refine goesL_ (some 63) rfl rfl Try.func13 (by kernel_rfl) rfl #[.agg #[.int .i64 a1_0, .int .i64 (wrap64 (a1_1 + (wrap64 (Int.tmod (IntKind.u64.wrap (a3)) 20))))]] rfl al_ ?_; (with_reducible refine (comfitref06_Jars.calls a1_0 (wrap64 (a1_1 + (wrap64 (Int.tmod (IntKind.u64.wrap (a3)) 20)))) false _ A105.out).mono ?_); rintro e w180 ⟨rfl, hb⟩; refine ⟨_, rfl, ?_⟩; have n0_ := Aside0.mk (blk_below (g := gb262) (o := .cells #[.int .i64 a1_0, .int .i64 a1_1] 23 (0, 0)) (by (with_reducible repeat (first | refine blk_drewN ?_ _ | refine blk_drew ?_ | refine blk_alloc ?_ _)); refine blk_far ?_ NB262_271.out _; (with_reducible repeat (first | refine blk_drewN ?_ _ | refine blk_drew ?_ | refine blk_alloc ?_ _)); refine blk_far ?_ NB262_271.out _; (with_reducible repeat (first | refine blk_drewN ?_ _ | refine blk_drew ?_ | refine blk_alloc ?_ _)); refine blk_far ?_ NB262_271.out _; (with_reducible repeat (first | refine blk_drewN ?_ _ | refine blk_drew ?_ | refine blk_alloc ?_ _)); exact BK262.out) hb); have n1_ := Aside0.mk (blk_below (g := gb271) (o := .cells #[.int .i64 a1_0, .int .i64 (wrap64 (a1_1 + (wrap64 (Int.tmod (IntKind.u64.wrap (a3)) 20))))] 23 (0, 0)) (by (with_reducible repeat (first | refine blk_drewN ?_ _ | refine blk_drew ?_ | refine blk_alloc ?_ _)); refine blk_put (cs := #[.int .i64 a1_0, .int .i64 a1_1]) ?_ 1 _ rfl; (with_reducible repeat (first | refine blk_drewN ?_ _ | refine blk_drew ?_ | refine blk_alloc ?_ _)); refine blk_put (cs := #[.int .i64 a1_0, .int .i64 0]) ?_ 1 _ rfl; (with_reducible repeat (first | refine blk_drewN ?_ _ | refine blk_drew ?_ | refine blk_alloc ?_ _)); refine blk_put (cs := #[.int .i64 0, .int .i64 0]) ?_ 0 _ rfl; (with_reducible repeat (first | refine blk_drewN ?_ _ | refine blk_drew ?_ | refine blk_alloc ?_ _)); exact BK271.out) hb); have n2_ := Aside0.mk (below_step (hb_ HB.out) hb); clear BK262; clear BK271; clear HB; have BK262 := n0_; have BK271 := n1_; have HB := n2_; clear n0_ n1_ n2_; (try clear hb); (try clear hb2); (try clear hk); (try clear hi)) | ((with_reducible refine gate_callee (f := 14) rfl ?_); refine goesL_ (some 65) rfl rfl Try.func14 (by kernel_rfl) rfl #[] rfl al_ ?_; (with_reducible refine (comfitlaw06_awake.calls kj5  t300 _ A175.out).mono ?_); rintro e w181 ⟨rfl, hb⟩; refine ⟨_, rfl, ?_⟩; have n0_ := Aside0.mk (bkb_ BK262.out hb); have n1_ := Aside0.mk (bkb_ BK271.out hb); have n2_ := Aside0.mk (below_step (hb_ HB.out) hb); clear BK262; clear BK271; clear HB; have BK262 := n0_; have BK271 := n1_; have HB := n2_; clear n0_ n1_ n2_; (try clear hb); (try clear hb2); (try clear hk); (try clear hi)))
        go_ret
        exact ⟨by first | rfl | (simp [errW_none, errW_some] <;> rfl) | (simp [*, errW_none, errW_some] <;> rfl), hb_ HB.out⟩
     ·rw [if_neg c104] at H
      exact absurd H (by simp)

end Go.Proofs.Ytjmbjnobbeflfaa.X
