/- Written by a program of this session (wip/tools/xprint.py, which calls the kit's print): Go functions as Lean functions, and for each the proof that the machine's call does what it says; no conditions but those that each theorem names. -/
import Derived.Test.YtjmbjnobbeflfaaQX0
import Derived.Test.YtjmbjnobbeflfaaQXE
import Derived.Test.YtjmbjnobbeflfaaQHMach
namespace Go.Proofs.Ytjmbjnobbeflfaa.X
open Go.RowKit Go.Proofs.YtjmbjnobbeflfaaW.PrintWords Go.Proofs.YtjmbjnobbeflfaaW.PrintLast Go.Proofs.YtjmbjnobbeflfaaW.PrintMore
attribute [local go_sem] max2_int min2_int max_two min_two max_three min_three max_four min_four   -- for this text's walks alone
set_option linter.unusedVariables false
set_option linter.unusedSimpArgs false

/-! ### tags_Adds: function 22 -/
mutual
def tags_Adds.j0 : Nat → List (S57) → Int → Bool → Option (Bool × Int)
 | 0, _, _, _ => none
 | k + 1, x0, x1, x20 => if x20 = true then (some (false, 2)) else (tags_Adds.l0 k x0 x1 0)
def tags_Adds.l0 : Nat → List (S57) → Int → Int → Option (Bool × Int)
 | 0, _, _, _ => none
 | k + 1, x0, x1, x21 => if x21 < 5 then (tags_Adds.l1 k x0 x1 x21 x21 0) else (some (true, 0))
def tags_Adds.l1 : Nat → List (S57) → Int → Int → Int → Int → Option (Bool × Int)
 | 0, _, _, _, _, _ => none
 | k + 1, x0, x1, x6, x21, x24 => if x24 < 5 then ((tags_ends.f k x0 x6 x24).bind fun bt436 => (if bt436.2.2 = true then (if 0 ≤ (wrap64 ((bt436.1.length : Int) - 1)) then (if (wrap64 ((bt436.1.length : Int) - 1)) < (bt436.1.length : Int) then (if x1 = 0 then (tags_Adds.j3 k x0 0 x6 x21 x24 (((rd_T66 bt436.1 (wrap64 ((bt436.1.length : Int) - 1))).f1.f0) != (wrap64 (x6 + x24)))) else (if x1 = 1 then (tags_Adds.j3 k x0 1 x6 x21 x24 (((rd_T66 bt436.1 (wrap64 ((bt436.1.length : Int) - 1))).f1.f1) != (wrap64 (x6 + x24)))) else (none))) else (none)) else (none)) else (tags_Adds.j3 k x0 x1 x6 x21 x24 true))) else (tags_Adds.l0 k x0 x1 (wrap64 (x21 + 1)))
def tags_Adds.j3 : Nat → List (S57) → Int → Int → Int → Int → Bool → Option (Bool × Int)
 | 0, _, _, _, _, _, _ => none
 | k + 1, x0, x1, x6, x21, x24, x53 => if x53 = true then (some (false, 0)) else (tags_Adds.l1 k x0 x1 x6 x21 (wrap64 (x24 + 1)))
end
def tags_Adds.f (k : Nat) (l0 : List (S57)) (a1 : Int) : Option (Bool × Int) := (tags_isMachine.f l0).bind fun t435 => (if t435 = true then (if a1 < 0 then (tags_Adds.j0 k l0 a1 true) else (tags_Adds.j0 k l0 a1 (decide (a1 > 1)))) else (tags_Adds.j0 k l0 a1 true))
set_option maxHeartbeats 8000000 in
set_option maxRecDepth 100000 in
theorem tags_Adds.calls (k : Nat) (A0 : Option Addr) (c0 : Nat) (l0 : List (S57)) (a1 : Int) (r1 : Bool) (r2 : Int) (w : World) (hr0 : Kd.C k57 w A0 l0.length l0) (hc0 : l0.length ≤ c0) (h : tags_Adds.f k l0 a1 = some (r1, r2)) :
  Calls Try.prog 22 #[.slice A0 l0.length c0, .int .i64 a1] w fun e w' => e = .returned (.tuple #[.bool r1, .int .i64 r2]) ∧ Below w.heap.size w w' := by
 have hu23 := Try.underlying23
 have hu63 := Try.underlying63
 have HR0 := Aside0.mk hr0
 have HC0 := Aside0.mk hc0
 clear hr0 hc0
 have HB := Aside0.mk (Below.refl w.heap.size w)
 have H : ((tags_isMachine.f l0).bind fun t435 => (if t435 = true then (if a1 < 0 then (tags_Adds.j0 k l0 a1 true) else (tags_Adds.j0 k l0 a1 (decide (a1 > 1)))) else (tags_Adds.j0 k l0 a1 true))) = some (r1, r2) := h
 clear h
 have HC3 := Aside0.mk H
 clear H
 go_enter Try.func22, Try.ntmps22
 go_upto_region 1 with (fail)
 go_cut [20] (fun v20 wc => ∃ (kq : Nat) (x20_2 : Bool), v20 = .bool x20_2 ∧ Aside0 (tags_Adds.j0 kq l0 a1 x20_2 = some (r1, r2)) ∧ Aside0 (kq ≤ k) ∧ Aside0 (Below w.heap.size w wc))
 case first =>
  have H := HC3.out
  clear HC3
  replace H := Option.bind_eq_some_iff.mp H
  obtain ⟨t435, A40, H⟩ := H
  replace H : (if t435 = true then (if a1 < 0 then (tags_Adds.j0 k l0 a1 true) else (tags_Adds.j0 k l0 a1 (decide (a1 > 1)))) else (tags_Adds.j0 k l0 a1 true)) = some (r1, r2) := H
  have A4 := Aside0.mk A40
  clear A40
  by_cases c5 : t435 = true
  ·subst c5
   have H1 : (if a1 < 0 then (tags_Adds.j0 k l0 a1 true) else (tags_Adds.j0 k l0 a1 (decide (a1 > 1)))) = some (r1, r2) := by rw [if_pos rfl] at H; exact H
   clear H
   have H := H1
   clear H1
   by_cases c6 : a1 < 0
   ·rw [if_pos c6] at H
    have c6b0 : decide (a1 < 0) = true := decide_eq_true c6
    clear c6
    (first | rw [c6b0] | (simp only [i64_w, i32_w]; rw [c6b0]) | skip)
    have H' := Aside0.mk H
    clear H
    go_wp2_with (first | ((with_reducible refine gate_callee (f := 30) rfl ?_); refine goesL_ (some 11) rfl rfl Try.func30 (by kernel_rfl) rfl #[.slice A0 l0.length c0] rfl al_ ?_; (with_reducible refine (tags_isMachine.calls _ _ l0 true _ ?side1 ?side2 A4.out).mono ?_); (case side1 => exact kc_ (Kd.C_below HR0.out HB.out)); (case side2 => exact HC0.out); rintro e w7 ⟨rfl, hb⟩; refine ⟨_, rfl, ?_⟩; have n0_ := Aside0.mk (below_step (hb_ HB.out) hb); clear HB; have HB := n0_; clear n0_; (try clear hb); (try clear hb2); (try clear hk); (try clear hi)))
    go_meet
    case rel => exact ⟨_, (true), (by first | rfl | (simp; done) | (simp [*]; done)), H', ⟨by first | omega | exact Nat.le_refl _⟩, ⟨by repeat (first | (with_reducible first | exact HB.out | apply below_alloc | apply pw_below_drewN | apply below_drew1) | exact HB.out)⟩⟩
   ·rw [if_neg c6] at H
    have c6b0 : decide (a1 < 0) = false := decide_eq_false c6
    clear c6
    (first | rw [c6b0] | (simp only [i64_w, i32_w]; rw [c6b0]) | skip)
    have H' := Aside0.mk H
    clear H
    go_wp2_with (first | ((with_reducible refine gate_callee (f := 30) rfl ?_); refine goesL_ (some 11) rfl rfl Try.func30 (by kernel_rfl) rfl #[.slice A0 l0.length c0] rfl al_ ?_; (with_reducible refine (tags_isMachine.calls _ _ l0 true _ ?side1 ?side2 A4.out).mono ?_); (case side1 => exact kc_ (Kd.C_below HR0.out HB.out)); (case side2 => exact HC0.out); rintro e w8 ⟨rfl, hb⟩; refine ⟨_, rfl, ?_⟩; have n0_ := Aside0.mk (below_step (hb_ HB.out) hb); clear HB; have HB := n0_; clear n0_; (try clear hb); (try clear hb2); (try clear hk); (try clear hi)))
    go_meet
    case rel => exact ⟨_, (decide (a1 > 1)), (by first | rfl | (simp; done) | (simp [*]; done)), H', ⟨by first | omega | exact Nat.le_refl _⟩, ⟨by repeat (first | (with_reducible first | exact HB.out | apply below_alloc | apply pw_below_drewN | apply below_drew1) | exact HB.out)⟩⟩
  ·replace c5 := Bool.eq_false_iff.mpr c5
   subst c5
   have H1 : (tags_Adds.j0 k l0 a1 true) = some (r1, r2) := by rw [if_neg (show ¬ (false = true) by decide)] at H; exact H
   clear H
   have H := H1
   clear H1
   have H' := Aside0.mk H
   clear H
   go_wp2_with (first | ((with_reducible refine gate_callee (f := 30) rfl ?_); refine goesL_ (some 11) rfl rfl Try.func30 (by kernel_rfl) rfl #[.slice A0 l0.length c0] rfl al_ ?_; (with_reducible refine (tags_isMachine.calls _ _ l0 false _ ?side1 ?side2 A4.out).mono ?_); (case side1 => exact kc_ (Kd.C_below HR0.out HB.out)); (case side2 => exact HC0.out); rintro e w9 ⟨rfl, hb⟩; refine ⟨_, rfl, ?_⟩; have n0_ := Aside0.mk (below_step (hb_ HB.out) hb); clear HB; have HB := n0_; clear n0_; (try clear hb); (try clear hb2); (try clear hk); (try clear hi)))
   go_meet
   case rel => exact ⟨_, (true), (by first | rfl | (simp; done) | (simp [*]; done)), H', ⟨by first | omega | exact Nat.le_refl _⟩, ⟨by repeat (first | (with_reducible first | exact HB.out | apply below_alloc | apply pw_below_drewN | apply below_drew1) | exact HB.out)⟩⟩
 case rest =>
  clear HC3
  try clear c2
  try clear p2
  try clear c3
  try clear c5
  try clear c6
  try clear c6b0
  obtain ⟨kq, x20_2, rfl, HA, HJ2, HB⟩ := hcut
  cases kq with
  | zero => exact absurd HA.out (by simp [tags_Adds.j0])
  | succ kj2 =>
   have H := HA.out
   clear HA
   simp only [tags_Adds.j0] at H
   by_cases c10 : x20_2 = true
   ·subst c10
    have H1 : (some (false, 2)) = some (r1, r2) := by rw [if_pos rfl] at H; exact H
    clear H
    have H := H1
    clear H1
    simp only [Option.some.injEq, Prod.mk.injEq] at H
    obtain ⟨rfl, rfl⟩ := H
    go_wp2
    go_ret2
    exact ⟨by first | rfl | (simp [errW_none, errW_some] <;> rfl) | (simp [*, errW_none, errW_some] <;> rfl), by repeat (first | (with_reducible first | exact HB.out | apply below_alloc | apply pw_below_drewN | apply below_drew1) | exact HB.out)⟩
   ·replace c10 := Bool.eq_false_iff.mpr c10
    subst c10
    have H1 : (tags_Adds.l0 kj2 l0 a1 0) = some (r1, r2) := by rw [if_neg (show ¬ (false = true) by decide)] at H; exact H
    clear H
    have H := H1
    clear H1
    have H' := Aside0.mk H
    clear H
    go_wp2
    go_loopg [21] kj2 (fun kq v21 w' => ∃ (x21_2 : Int), v21 = .int .i64 x21_2 ∧ Aside0 (tags_Adds.l0 kq l0 a1 x21_2 = some (r1, r2)) ∧ Aside0 (kq ≤ kj2) ∧ Aside0 (Below w.heap.size w w'))
    case atStart => exact ⟨(0), (by first | rfl | (simp; done) | (simp [*]; done)), H', ⟨Nat.le_refl _⟩, ⟨by repeat (first | (with_reducible first | exact HB.out | apply below_alloc | apply pw_below_drewN | apply below_drew1) | exact HB.out)⟩⟩
    case round =>
     clear H'
     try clear c1
     try clear c2
     try clear p2
     try clear c3
     try clear c5
     try clear c6
     try clear c6b0
     try clear c10
     try clear p2
     obtain ⟨x21_2, rfl, HA, HK2, HB⟩ := hrel
     cases gk with
     | zero => exact absurd HA.out (by simp [tags_Adds.l0])
     | succ k2 =>
      have H := HA.out
      clear HA
      simp only [tags_Adds.l0] at H
      by_cases c11 : x21_2 < 5
      ·rw [if_pos c11] at H
       have c11b0 : decide (x21_2 < 5) = true := decide_eq_true c11
       clear c11
       have H' := Aside0.mk H
       clear H
       go_wp2
       go_loopg [24] k2 (fun kq v24 w' => ∃ (x24_3 : Int), v24 = .int .i64 x24_3 ∧ Aside0 (tags_Adds.l1 kq l0 a1 x21_2 x21_2 x24_3 = some (r1, r2)) ∧ Aside0 (kq ≤ k2) ∧ Aside0 (Below w.heap.size w w'))
       case atStart => exact ⟨(0), (by first | rfl | (simp; done) | (simp [*]; done)), H', ⟨Nat.le_refl _⟩, ⟨by repeat (first | (with_reducible first | exact HB.out | apply below_alloc | apply pw_below_drewN | apply below_drew1) | exact HB.out)⟩⟩
       case round =>
        clear H'
        try clear c1
        try clear c2
        try clear p2
        try clear c3
        try clear c5
        try clear c6
        try clear c6b0
        try clear c10
        try clear c11
        try clear c11b0
        try clear p2
        obtain ⟨x24_3, rfl, HA, HK3, HB⟩ := hrel
        cases gk with
        | zero => exact absurd HA.out (by simp [tags_Adds.l1])
        | succ k3 =>
         have H := HA.out
         clear HA
         simp only [tags_Adds.l1] at H
         by_cases c12 : x24_3 < 5
         ·rw [if_pos c12] at H
          have c12b0 : decide (x24_3 < 5) = true := decide_eq_true c12
          clear c12
          replace H := Option.bind_eq_some_iff.mp H
          obtain ⟨⟨t436, t439, t442⟩, A130, H⟩ := H
          replace H : (if t442 = true then (if 0 ≤ (wrap64 ((t436.length : Int) - 1)) then (if (wrap64 ((t436.length : Int) - 1)) < (t436.length : Int) then (if a1 = 0 then (tags_Adds.j3 k3 l0 0 x21_2 x21_2 x24_3 (((rd_T66 t436 (wrap64 ((t436.length : Int) - 1))).f1.f0) != (wrap64 (x21_2 + x24_3)))) else (if a1 = 1 then (tags_Adds.j3 k3 l0 1 x21_2 x21_2 x24_3 (((rd_T66 t436 (wrap64 ((t436.length : Int) - 1))).f1.f1) != (wrap64 (x21_2 + x24_3)))) else (none))) else (none)) else (none)) else (tags_Adds.j3 k3 l0 a1 x21_2 x21_2 x24_3 true)) = some (r1, r2) := H
          have A13 := Aside0.mk A130
          clear A130
          have HC14 := Aside0.mk H
          clear H
          go_upto_region 10 with (first | ((with_reducible refine gate_callee (f := 34) rfl ?_); refine goesL_ (some 32) rfl rfl Try.func34 (by kernel_rfl) rfl #[.slice A0 l0.length c0, .agg #[.int .i64 x21_2, .int .i64 x24_3]] rfl al_ ?_; (with_reducible refine (tags_ends.calls k3 _ _ l0 x21_2 x24_3 t436 t439 t442 _ ?side1 ?side2 A13.out).mono ?_); (case side1 => exact kc_ (Kd.C_below HR0.out HB.out)); (case side2 => exact HC0.out); rintro e w15 ⟨v437, v440, rfl, ho0, ho1, hb⟩; refine ⟨_, rfl, ?_⟩; have n0_ := Aside0.mk (Kd.R_lower ho0 (below_size (hb_ HB.out))); have n1_ := Aside0.mk (Kd.R_lower ho1 (below_size (hb_ HB.out))); have n2_ := Aside0.mk (below_step (hb_ HB.out) hb); clear HB; have HO438 := n0_; have HO441 := n1_; have HB := n2_; clear n0_ n1_ n2_; (try clear hb); (try clear hb2); (try clear hk); (try clear hi); (try clear ho0); (try clear ho1)) | ((with_reducible refine gate_dst (N := 8) rfl ?_); (try (refine gate_guard (by rfl) ?_; dsimp only)); refine box_event ?hg (N := 8) ?hd (cs := #[.slice none 0 0, .slice none 0 0]) (t := 63) ?hr ?_; (case hd => rfl); (case hg => rfl); (case hr => first | (go_simp; done) | (go_simp; rfl)); intro gb443 hg w16 hbox hb; have n0_ := Aside0.mk (Kd.R_below (kr_ (HO438.out)) hb); have n1_ := Aside0.mk (Kd.R_below (kr_ (HO441.out)) hb); have n2_ := Aside0.mk (below_step (hb_ HB.out) hb); have n3_ := Aside0.mk (hbox); have n4_ := Aside0.mk ((by rw [hg]; exact (below_size (hb_ HB.out)) : w.heap.size ≤ gb443)); have n5_ := Aside0.mk ((by rw [hg]; exact (below_size (hb_ HB.out)) : w.heap.size ≤ gb443)); clear HO438; clear HO441; clear HB; have HO438 := n0_; have HO441 := n1_; have HB := n2_; have BK443 := n3_; have GW443 := n4_; have GE443 := n5_; clear n0_ n1_ n2_ n3_ n4_ n5_; clear hb hbox hg; obtain ⟨Ao17, co17, eo17⟩ := Kd.R_slice HO438.out; subst eo17; have hcz18_0 : w16.cell? ⟨gb443, 0, none⟩ = some (.slice none 0 0) := (blk_cell BK443.out 0).trans rfl; have hcz18_1 : w16.cell? ⟨gb443, 1, none⟩ = some (.slice none 0 0) := (blk_cell BK443.out 1).trans rfl; have hfz18_0 := blk_frozen BK443.out 0; have hfz18_1 := blk_frozen BK443.out 1; obtain ⟨Ao19, co19, eo19⟩ := Kd.R_slice HO441.out; subst eo19))
          (try simp only [Act.put, List.setIfInBounds_toArray, List.set_cons_zero, List.set_cons_succ])
          go_cut [53] (fun v53 wc => ∃ (kq : Nat) (x53_13 : Bool), v53 = .bool x53_13 ∧ Aside0 (tags_Adds.j3 kq l0 a1 x21_2 x21_2 x24_3 x53_13 = some (r1, r2)) ∧ Aside0 (kq ≤ k3) ∧ Aside0 (Kd.R k66 66 wc w.heap.size (fun _ => True) (.slice Ao17 t436.length co17) t436) ∧ Aside0 (Kd.R (Kd.int .i64) 3 wc w.heap.size (fun _ => True) (.slice Ao19 t439.length co19) t439) ∧ Aside0 (wc.heap[gb443]? = some (.cells #[(.slice Ao17 t436.length co17), (.slice Ao19 t439.length co19)] 63 (0, 0))) ∧ Aside0 (Below w.heap.size w wc))
          case first =>
           have H := HC14.out
           clear HC14
           by_cases c20 : t442 = true
           ·subst c20
            have H1 : (if 0 ≤ (wrap64 ((t436.length : Int) - 1)) then (if (wrap64 ((t436.length : Int) - 1)) < (t436.length : Int) then (if a1 = 0 then (tags_Adds.j3 k3 l0 0 x21_2 x21_2 x24_3 (((rd_T66 t436 (wrap64 ((t436.length : Int) - 1))).f1.f0) != (wrap64 (x21_2 + x24_3)))) else (if a1 = 1 then (tags_Adds.j3 k3 l0 1 x21_2 x21_2 x24_3 (((rd_T66 t436 (wrap64 ((t436.length : Int) - 1))).f1.f1) != (wrap64 (x21_2 + x24_3)))) else (none))) else (none)) else (none)) = some (r1, r2) := by rw [if_pos rfl] at H; exact H
            clear H
            have H := H1
            clear H1
            obtain ⟨ji21, hji21⟩ : ∃ j_ : Int, (wrap64 ((t436.length : Int) - 1)) = j_ := ⟨_, rfl⟩
            replace H : (if 0 ≤ (ji21) then (if (ji21) < (t436.length : Int) then (if a1 = 0 then (tags_Adds.j3 k3 l0 0 x21_2 x21_2 x24_3 (((rd_T66 t436 (ji21)).f1.f0) != (wrap64 (x21_2 + x24_3)))) else (if a1 = 1 then (tags_Adds.j3 k3 l0 1 x21_2 x21_2 x24_3 (((rd_T66 t436 (ji21)).f1.f1) != (wrap64 (x21_2 + x24_3)))) else (none))) else (none)) else (none)) = some (r1, r2) := by first | (rw [hji21] at H; exact H) | (simp only [hji21] at H ⊢; exact H)
            have hji21w : (IntKind.i64.wrap ((t436.length : Int) - 1)) = ji21 := (i64_w _).trans hji21
            by_cases c22 : 0 ≤ (ji21)
            ·rw [if_pos c22] at H
             have c22b0 : decide (0 ≤ (ji21)) = true := decide_eq_true c22
             clear c22
             (first | rw [c22b0] | (simp only [i64_w, i32_w]; rw [c22b0]) | skip)
             by_cases c23 : (ji21) < (t436.length : Int)
             ·rw [if_pos c23] at H
              have c23b0 : decide ((ji21) < (t436.length : Int)) = true := decide_eq_true c23
              clear c23
              by_cases c24 : a1 = 0
              ·rw [if_pos c24] at H
               subst c24
               have H' := Aside0.mk H
               clear H
               have hcz25_0 : w16.cell? ⟨gb443, 0, none⟩ = some (.slice none 0 0) := (blk_cell BK443.out 0).trans rfl
               have hcz25_1 : w16.cell? ⟨gb443, 1, none⟩ = some (.slice none 0 0) := (blk_cell BK443.out 1).trans rfl
               have hfz25_0 := blk_frozen BK443.out 0
               have hfz25_1 := blk_frozen BK443.out 1
               have p444 : 0 ≤ ((ji21) : Int) := of_decide_eq_true (by first | (with_reducible assumption) | assumption)
               have q444 : (ji21) < (t436.length : Int) := of_decide_eq_true (by first | (with_reducible assumption) | assumption)
               obtain ⟨ad444, e444, hx444_0, hx444_1, hx444_2⟩ := at_T66 (Kd.R_reads' HO438.out).2.2 (ji21) p444 q444
               cases e444
               have hn444_0 : ad444.block ≠ gb443 := Kd.own_blk (Kd.R_ne HO438.out BK443.out (by decide))
               have hn444_1 : ad444.block ≠ gb443 := Kd.own_blk (Kd.R_ne HO438.out BK443.out (by decide))
               replace hx444_0 := (cell_far (p := ⟨gb443, 0, none⟩) (by first | (rw [add_block]; exact hn444_0) | (show (Addr.add _ _).block ≠ _; rw [add_block]; exact hn444_0) | exact hn444_0) (.slice (some ad444) t436.length co17)).trans hx444_0
               replace hx444_1 := (cell_far (p := ⟨gb443, 0, none⟩) (by first | (rw [add_block]; exact hn444_0) | (show (Addr.add _ _).block ≠ _; rw [add_block]; exact hn444_0) | exact hn444_0) (.slice (some ad444) t436.length co17)).trans hx444_1
               replace hx444_2 := (cell_far (p := ⟨gb443, 0, none⟩) (by first | (rw [add_block]; exact hn444_0) | (show (Addr.add _ _).block ≠ _; rw [add_block]; exact hn444_0) | exact hn444_0) (.slice (some ad444) t436.length co17)).trans hx444_2
               replace hx444_0 := (cell_far (p := ⟨gb443, 1, none⟩) (by first | (rw [add_block]; exact hn444_1) | (show (Addr.add _ _).block ≠ _; rw [add_block]; exact hn444_1) | exact hn444_1) (.slice Ao19 t439.length co19)).trans hx444_0
               replace hx444_1 := (cell_far (p := ⟨gb443, 1, none⟩) (by first | (rw [add_block]; exact hn444_1) | (show (Addr.add _ _).block ≠ _; rw [add_block]; exact hn444_1) | exact hn444_1) (.slice Ao19 t439.length co19)).trans hx444_1
               replace hx444_2 := (cell_far (p := ⟨gb443, 1, none⟩) (by first | (rw [add_block]; exact hn444_1) | (show (Addr.add _ _).block ≠ _; rw [add_block]; exact hn444_1) | exact hn444_1) (.slice Ao19 t439.length co19)).trans hx444_2
               clear hn444_0
               clear hn444_1
               replace p444 := eq_true p444
               replace q444 := eq_true q444
               go_wp2
               go_meet
               case rel => exact ⟨_, ((((rd_T66 t436 (ji21)).f1.f0) != (wrap64 (x21_2 + x24_3)))), (by first | rfl | (simp; done) | (simp only [← hji21] <;> (first | rfl | simp)) | (simp [*]; done)), H', ⟨by have := HJ2.out; have := HK2.out; have := HK3.out; first | omega | exact Nat.le_refl _⟩, ⟨by (with_reducible repeat (first | apply Kd.R_alloc | apply Kd.R_drewN | apply Kd.R_drew)); exact Kd.R_mono (Kd.R_far (p := ⟨gb443, 1, none⟩) (Kd.R_far (p := ⟨gb443, 0, none⟩) (Kd.R_types HO438.out BK443.out (by decide)) (fun _ hk => hk.2) (.slice (some ad444) t436.length co17)) (fun _ hk => hk.2) (.slice Ao19 t439.length co19)) (fun _ hk => trivial)⟩, ⟨by (with_reducible repeat (first | apply Kd.R_alloc | apply Kd.R_drewN | apply Kd.R_drew)); exact Kd.R_mono (Kd.R_far (p := ⟨gb443, 1, none⟩) (Kd.R_far (p := ⟨gb443, 0, none⟩) (Kd.R_types HO441.out BK443.out (by decide)) (fun _ hk => hk.2) (.slice (some ad444) t436.length co17)) (fun _ hk => hk.2) (.slice Ao19 t439.length co19)) (fun _ hk => trivial)⟩, ⟨by (with_reducible repeat (first | refine blk_drewN ?_ _ | refine blk_drew ?_ | refine blk_alloc ?_ _)); refine blk_put (cs := #[.slice (some ad444) t436.length co17, .slice none 0 0]) ?_ 1 _ rfl; (with_reducible repeat (first | refine blk_drewN ?_ _ | refine blk_drew ?_ | refine blk_alloc ?_ _)); refine blk_put (cs := #[.slice none 0 0, .slice none 0 0]) ?_ 0 _ rfl; (with_reducible repeat (first | refine blk_drewN ?_ _ | refine blk_drew ?_ | refine blk_alloc ?_ _)); exact BK443.out⟩, ⟨by repeat (first | (with_reducible first | exact HB.out | apply below_alloc | apply pw_below_drewN | apply below_drew1 | refine below_set ?_ GE443.out) | exact HB.out)⟩⟩
              ·rw [if_neg c24] at H
               have c24b0 : (a1 == 0) = false := beq_eq_false_iff_ne.mpr c24
               have c24b1 : (a1 != 0) = true := bne_iff_ne.mpr c24
               by_cases c26 : a1 = 1
               ·rw [if_pos c26] at H
                subst c26
                have H' := Aside0.mk H
                clear H
                have hcz27_0 : w16.cell? ⟨gb443, 0, none⟩ = some (.slice none 0 0) := (blk_cell BK443.out 0).trans rfl
                have hcz27_1 : w16.cell? ⟨gb443, 1, none⟩ = some (.slice none 0 0) := (blk_cell BK443.out 1).trans rfl
                have hfz27_0 := blk_frozen BK443.out 0
                have hfz27_1 := blk_frozen BK443.out 1
                have p444 : 0 ≤ ((ji21) : Int) := of_decide_eq_true (by first | (with_reducible assumption) | assumption)
                have q444 : (ji21) < (t436.length : Int) := of_decide_eq_true (by first | (with_reducible assumption) | assumption)
                obtain ⟨ad444, e444, hx444_0, hx444_1, hx444_2⟩ := at_T66 (Kd.R_reads' HO438.out).2.2 (ji21) p444 q444
                cases e444
                have hn444_0 : ad444.block ≠ gb443 := Kd.own_blk (Kd.R_ne HO438.out BK443.out (by decide))
                have hn444_1 : ad444.block ≠ gb443 := Kd.own_blk (Kd.R_ne HO438.out BK443.out (by decide))
                replace hx444_0 := (cell_far (p := ⟨gb443, 0, none⟩) (by first | (rw [add_block]; exact hn444_0) | (show (Addr.add _ _).block ≠ _; rw [add_block]; exact hn444_0) | exact hn444_0) (.slice (some ad444) t436.length co17)).trans hx444_0
                replace hx444_1 := (cell_far (p := ⟨gb443, 0, none⟩) (by first | (rw [add_block]; exact hn444_0) | (show (Addr.add _ _).block ≠ _; rw [add_block]; exact hn444_0) | exact hn444_0) (.slice (some ad444) t436.length co17)).trans hx444_1
                replace hx444_2 := (cell_far (p := ⟨gb443, 0, none⟩) (by first | (rw [add_block]; exact hn444_0) | (show (Addr.add _ _).block ≠ _; rw [add_block]; exact hn444_0) | exact hn444_0) (.slice (some ad444) t436.length co17)).trans hx444_2
                replace hx444_0 := (cell_far (p := ⟨gb443, 1, none⟩) (by first | (rw [add_block]; exact hn444_1) | (show (Addr.add _ _).block ≠ _; rw [add_block]; exact hn444_1) | exact hn444_1) (.slice Ao19 t439.length co19)).trans hx444_0
                replace hx444_1 := (cell_far (p := ⟨gb443, 1, none⟩) (by first | (rw [add_block]; exact hn444_1) | (show (Addr.add _ _).block ≠ _; rw [add_block]; exact hn444_1) | exact hn444_1) (.slice Ao19 t439.length co19)).trans hx444_1
                replace hx444_2 := (cell_far (p := ⟨gb443, 1, none⟩) (by first | (rw [add_block]; exact hn444_1) | (show (Addr.add _ _).block ≠ _; rw [add_block]; exact hn444_1) | exact hn444_1) (.slice Ao19 t439.length co19)).trans hx444_2
                clear hn444_0
                clear hn444_1
                replace p444 := eq_true p444
                replace q444 := eq_true q444
                go_wp2
                go_meet
                case rel => exact ⟨_, ((((rd_T66 t436 (ji21)).f1.f1) != (wrap64 (x21_2 + x24_3)))), (by first | rfl | (simp; done) | (simp only [← hji21] <;> (first | rfl | simp)) | (simp [*]; done)), H', ⟨by have := HJ2.out; have := HK2.out; have := HK3.out; first | omega | exact Nat.le_refl _⟩, ⟨by (with_reducible repeat (first | apply Kd.R_alloc | apply Kd.R_drewN | apply Kd.R_drew)); exact Kd.R_mono (Kd.R_far (p := ⟨gb443, 1, none⟩) (Kd.R_far (p := ⟨gb443, 0, none⟩) (Kd.R_types HO438.out BK443.out (by decide)) (fun _ hk => hk.2) (.slice (some ad444) t436.length co17)) (fun _ hk => hk.2) (.slice Ao19 t439.length co19)) (fun _ hk => trivial)⟩, ⟨by (with_reducible repeat (first | apply Kd.R_alloc | apply Kd.R_drewN | apply Kd.R_drew)); exact Kd.R_mono (Kd.R_far (p := ⟨gb443, 1, none⟩) (Kd.R_far (p := ⟨gb443, 0, none⟩) (Kd.R_types HO441.out BK443.out (by decide)) (fun _ hk => hk.2) (.slice (some ad444) t436.length co17)) (fun _ hk => hk.2) (.slice Ao19 t439.length co19)) (fun _ hk => trivial)⟩, ⟨by (with_reducible repeat (first | refine blk_drewN ?_ _ | refine blk_drew ?_ | refine blk_alloc ?_ _)); refine blk_put (cs := #[.slice (some ad444) t436.length co17, .slice none 0 0]) ?_ 1 _ rfl; (with_reducible repeat (first | refine blk_drewN ?_ _ | refine blk_drew ?_ | refine blk_alloc ?_ _)); refine blk_put (cs := #[.slice none 0 0, .slice none 0 0]) ?_ 0 _ rfl; (with_reducible repeat (first | refine blk_drewN ?_ _ | refine blk_drew ?_ | refine blk_alloc ?_ _)); exact BK443.out⟩, ⟨by repeat (first | (with_reducible first | exact HB.out | apply below_alloc | apply pw_below_drewN | apply below_drew1 | refine below_set ?_ GE443.out) | exact HB.out)⟩⟩
               ·rw [if_neg c26] at H
                exact absurd H (by simp)
             ·rw [if_neg c23] at H
              exact absurd H (by simp)
            ·rw [if_neg c22] at H
             exact absurd H (by simp)
           ·replace c20 := Bool.eq_false_iff.mpr c20
            subst c20
            have H1 : (tags_Adds.j3 k3 l0 a1 x21_2 x21_2 x24_3 true) = some (r1, r2) := by rw [if_neg (show ¬ (false = true) by decide)] at H; exact H
            clear H
            have H := H1
            clear H1
            have H' := Aside0.mk H
            clear H
            go_wp2
            go_meet
            case rel => exact ⟨_, (true), (by first | rfl | (simp; done) | (simp [*]; done)), H', ⟨by have := HJ2.out; have := HK2.out; have := HK3.out; first | omega | exact Nat.le_refl _⟩, ⟨by (with_reducible repeat (first | apply Kd.R_alloc | apply Kd.R_drewN | apply Kd.R_drew)); exact Kd.R_mono (Kd.R_far (p := ⟨gb443, 1, none⟩) (Kd.R_far (p := ⟨gb443, 0, none⟩) (Kd.R_types HO438.out BK443.out (by decide)) (fun _ hk => hk.2) (.slice Ao17 t436.length co17)) (fun _ hk => hk.2) (.slice Ao19 t439.length co19)) (fun _ hk => trivial)⟩, ⟨by (with_reducible repeat (first | apply Kd.R_alloc | apply Kd.R_drewN | apply Kd.R_drew)); exact Kd.R_mono (Kd.R_far (p := ⟨gb443, 1, none⟩) (Kd.R_far (p := ⟨gb443, 0, none⟩) (Kd.R_types HO441.out BK443.out (by decide)) (fun _ hk => hk.2) (.slice Ao17 t436.length co17)) (fun _ hk => hk.2) (.slice Ao19 t439.length co19)) (fun _ hk => trivial)⟩, ⟨by (with_reducible repeat (first | refine blk_drewN ?_ _ | refine blk_drew ?_ | refine blk_alloc ?_ _)); refine blk_put (cs := #[.slice Ao17 t436.length co17, .slice none 0 0]) ?_ 1 _ rfl; (with_reducible repeat (first | refine blk_drewN ?_ _ | refine blk_drew ?_ | refine blk_alloc ?_ _)); refine blk_put (cs := #[.slice none 0 0, .slice none 0 0]) ?_ 0 _ rfl; (with_reducible repeat (first | refine blk_drewN ?_ _ | refine blk_drew ?_ | refine blk_alloc ?_ _)); exact BK443.out⟩, ⟨by repeat (first | (with_reducible first | exact HB.out | apply below_alloc | apply pw_below_drewN | apply below_drew1 | refine below_set ?_ GE443.out) | exact HB.out)⟩⟩
          case rest =>
           clear HC14
           try clear c1
           try clear c2
           try clear p2
           try clear c3
           try clear p4
           try clear q4
           try clear hx4
           try clear c5
           try clear c6
           try clear c6b0
           try clear p6
           try clear c10
           try clear c11
           try clear c11b0
           try clear c12
           try clear c12b0
           try clear c20
           try clear c22
           try clear c22b0
           try clear c23
           try clear c23b0
           try clear c24
           try clear c24b0
           try clear c24b1
           try clear c26
           try clear hcz18_0
           try clear hcz18_1
           try clear hcz25_0
           try clear hcz25_1
           try clear hcz27_0
           try clear hcz27_1
           try clear hfz18_0
           try clear hfz18_1
           try clear hfz25_0
           try clear hfz25_1
           try clear hfz27_0
           try clear hfz27_1
           try clear hx444_0
           try clear hx444_1
           try clear hx444_2
           try clear p2
           try clear p444
           try clear q444
           obtain ⟨kq, x53_13, rfl, HA, HJ13, HO_444000, HO_444001, BK443, HB⟩ := hcut
           cases kq with
           | zero => exact absurd HA.out (by simp [tags_Adds.j3])
           | succ kj13 =>
            have H := HA.out
            clear HA
            simp only [tags_Adds.j3] at H
            by_cases c28 : x53_13 = true
            ·subst c28
             have H1 : (some (false, 0)) = some (r1, r2) := by rw [if_pos rfl] at H; exact H
             clear H
             have H := H1
             clear H1
             simp only [Option.some.injEq, Prod.mk.injEq] at H
             obtain ⟨rfl, rfl⟩ := H
             go_wp2
             go_ret2
             exact ⟨by first | rfl | (simp [errW_none, errW_some] <;> rfl) | (simp [*, errW_none, errW_some] <;> rfl), by repeat (first | (with_reducible first | exact HB.out | apply below_alloc | apply pw_below_drewN | apply below_drew1 | refine below_set ?_ GE443.out) | exact HB.out)⟩
            ·replace c28 := Bool.eq_false_iff.mpr c28
             subst c28
             have H1 : (tags_Adds.l1 kj13 l0 a1 x21_2 x21_2 (wrap64 (x24_3 + 1))) = some (r1, r2) := by rw [if_neg (show ¬ (false = true) by decide)] at H; exact H
             clear H
             have H := H1
             clear H1
             have H' := Aside0.mk H
             clear H
             go_wp2
             go_roundg kj13
             case measure => have := HJ2.out; have := HK2.out; have := HK3.out; have := HJ13.out; omega
             case rel => exact ⟨(wrap64 (x24_3 + 1)), (by first | rfl | (simp; done) | (simp [*]; done)), H', ⟨by have := HJ2.out; have := HK2.out; have := HK3.out; have := HJ13.out; omega⟩, ⟨by repeat (first | (with_reducible first | exact HB.out | apply below_alloc | apply pw_below_drewN | apply below_drew1 | refine below_set ?_ GE443.out) | exact HB.out)⟩⟩
         ·rw [if_neg c12] at H
          have c12b0 : decide (x24_3 < 5) = false := decide_eq_false c12
          clear c12
          have H' := Aside0.mk H
          clear H
          go_wp2
          go_roundg k3
          case measure => have := HJ2.out; have := HK2.out; have := HK3.out; omega
          case rel => exact ⟨(wrap64 (x21_2 + 1)), (by first | rfl | (simp; done) | (simp [*]; done)), H', ⟨by have := HJ2.out; have := HK2.out; have := HK3.out; omega⟩, ⟨by repeat (first | (with_reducible first | exact HB.out | apply below_alloc | apply pw_below_drewN | apply below_drew1) | exact HB.out)⟩⟩
      ·rw [if_neg c11] at H
       have c11b0 : decide (x21_2 < 5) = false := decide_eq_false c11
       clear c11
       simp only [Option.some.injEq, Prod.mk.injEq] at H
       obtain ⟨rfl, rfl⟩ := H
       go_wp2
       go_ret2
       exact ⟨by first | rfl | (simp [errW_none, errW_some] <;> rfl) | (simp [*, errW_none, errW_some] <;> rfl), by repeat (first | (with_reducible first | exact HB.out | apply below_alloc | apply pw_below_drewN | apply below_drew1) | exact HB.out)⟩

end Go.Proofs.Ytjmbjnobbeflfaa.X
