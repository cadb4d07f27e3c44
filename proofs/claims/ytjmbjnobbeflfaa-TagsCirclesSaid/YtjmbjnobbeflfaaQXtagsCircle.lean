/- Written by a program of this session (wip/tools/xprint.py, which calls the kit's print): Go functions as Lean functions, and for each the proof that the machine's call does what it says; no conditions but those that each theorem names. -/
import Derived.Test.YtjmbjnobbeflfaaQX0
import Derived.Test.YtjmbjnobbeflfaaQXRuns
import Derived.Test.YtjmbjnobbeflfaaQXtagsruncircle
import Derived.Test.YtjmbjnobbeflfaaQHJars
import Derived.Test.YtjmbjnobbeflfaaQHMach
namespace Go.Proofs.Ytjmbjnobbeflfaa.X
open Go.RowKit Go.Proofs.YtjmbjnobbeflfaaW.PrintWords Go.Proofs.YtjmbjnobbeflfaaW.PrintLast Go.Proofs.YtjmbjnobbeflfaaW.PrintMore
attribute [local go_sem] max2_int min2_int max_two min_two max_three min_three max_four min_four   -- for this text's walks alone
set_option linter.unusedVariables false
set_option linter.unusedSimpArgs false

/-! ### tags_Circle: function 17 -/
mutual
def tags_Circle.j0 : Nat → List (S57) → Bool → Int → Int → Option (Int × Int × Int)
 | 0, _, _, _, _ => none
 | k + 1, x0, x16, x312000, x312001 => if x16 = true then (some (0, 0, 2)) else ((tags_runs.f k x0 x312000 x312001 200).bind fun bt315 => (tags_Circle.l0 k (bt315.1.length : Int) 0 bt315.1 bt315.2))
def tags_Circle.l0 : Nat → Int → Int → List (S66) → List Int → Option (Int × Int × Int)
 | 0, _, _, _, _ => none
 | k + 1, x23, x24, x322000, x322001 => if x24 < x23 then (tags_Circle.l1 k x24 x23 x24 x24 0 x322000 x322001) else (some (0, 0, 4))
def tags_Circle.l1 : Nat → Int → Int → Int → Int → Int → List (S66) → List Int → Option (Int × Int × Int)
 | 0, _, _, _, _, _, _, _ => none
 | k + 1, x7, x23, x24, x27, x28, x322000, x322001 => if x28 < x27 then ((tags_run_circle.f k x322000 x322001 x28 x7).bind fun t322 => (if t322 = true then (some (x28, x7, 0)) else (tags_Circle.l1 k x7 x23 x24 x27 (wrap64 (x28 + 1)) x322000 x322001))) else (tags_Circle.l0 k x23 (wrap64 (x24 + 1)) x322000 x322001)
end
def tags_Circle.f (k : Nat) (l0 : List (S57)) (a1_0 : Int) (a1_1 : Int) : Option (Int × Int × Int) := (tags_isMachine.f l0).bind fun t313 => (if t313 = true then ((tags_isJars.f a1_0 a1_1).bind fun t314 => (tags_Circle.j0 k l0 (!t314) a1_0 a1_1)) else (tags_Circle.j0 k l0 true a1_0 a1_1))
set_option maxHeartbeats 8000000 in
set_option maxRecDepth 100000 in
theorem tags_Circle.calls (k : Nat) (A0 : Option Addr) (c0 : Nat) (l0 : List (S57)) (a1_0 : Int) (a1_1 : Int) (r1 : Int) (r2 : Int) (r3 : Int) (w : World) (hr0 : Kd.C k57 w A0 l0.length l0) (hc0 : l0.length ≤ c0) (h : tags_Circle.f k l0 a1_0 a1_1 = some (r1, r2, r3)) :
  Calls Try.prog 17 #[.slice A0 l0.length c0, .agg #[.int .i64 a1_0, .int .i64 a1_1]] w fun e w' => e = .returned (.tuple #[.agg #[.int .i64 r1, .int .i64 r2], .int .i64 r3]) ∧ Below w.heap.size w w' := by
 have hu23 := Try.underlying23
 have hu63 := Try.underlying63
 have HR0 := Aside0.mk hr0
 have HC0 := Aside0.mk hc0
 clear hr0 hc0
 have HB := Aside0.mk (Below.refl w.heap.size w)
 have H : ((tags_isMachine.f l0).bind fun t313 => (if t313 = true then ((tags_isJars.f a1_0 a1_1).bind fun t314 => (tags_Circle.j0 k l0 (!t314) a1_0 a1_1)) else (tags_Circle.j0 k l0 true a1_0 a1_1))) = some (r1, r2, r3) := h
 clear h
 have HC3 := Aside0.mk H
 clear H
 go_enter Try.func17, Try.ntmps17
 go_upto_region 1 with (first | ((with_reducible refine gate_dst (N := 3) rfl ?_); refine box_event ?hg (N := 3) ?hd (cs := #[.int .i64 a1_0, .int .i64 a1_1]) (t := 23) ?hr ?_; (case hd => rfl); (case hg => rfl); (case hr => first | (go_simp; done) | (go_simp; rfl)); intro gb311 hg w4 hbox hb; have n0_ := Aside0.mk (below_step (hb_ HB.out) hb); have n1_ := Aside0.mk (hbox); have n2_ := Aside0.mk ((by rw [hg]; exact (below_size (hb_ HB.out)) : w.heap.size ≤ gb311)); have n3_ := Aside0.mk ((by rw [hg]; exact (below_size (hb_ HB.out)) : w.heap.size ≤ gb311)); clear HB; have HB := n0_; have BK311 := n1_; have GW311 := n2_; have GE311 := n3_; clear n0_ n1_ n2_ n3_; clear hb hbox hg) | ((with_reducible refine gate_dst (N := 4) rfl ?_); refine box_event ?hg (N := 4) ?hd (cs := #[.int .i64 0, .int .i64 0]) (t := 23) ?hr ?_; (case hd => rfl); (case hg => rfl); (case hr => first | (go_simp; done) | (go_simp; rfl)); intro gb312 hg w5 hbox hb; have n0_ := Aside0.mk (bkb_ BK311.out hb); have n1_ := Aside0.mk (below_step (hb_ HB.out) hb); have n2_ := Aside0.mk (hbox); have n3_ := Aside0.mk ((by rw [hg]; exact (below_size (hb_ HB.out)) : w.heap.size ≤ gb312)); have n4_ := Aside0.mk ((by rw [hg]; exact (below_size (hb_ HB.out)) : w.heap.size ≤ gb312)); have n5_ := Aside0.mk ((by rw [hg]; exact Nat.ne_of_lt (bkl_ BK311.out) : gb311 ≠ gb312)); have n6_ := Aside0.mk ((by rw [hg]; exact Nat.ne_of_gt (bkl_ BK311.out) : gb312 ≠ gb311)); clear BK311; clear HB; have BK311 := n0_; have HB := n1_; have BK312 := n2_; have GW312 := n3_; have GE312 := n4_; have NB311_312 := n5_; have NB312_311 := n6_; clear n0_ n1_ n2_ n3_ n4_ n5_ n6_; clear hb hbox hg))
 (try simp only [Act.put, List.setIfInBounds_toArray, List.set_cons_zero, List.set_cons_succ])
 go_cut [16] (fun v16 wc => ∃ (kq : Nat) (x16_2 : Bool), v16 = .bool x16_2 ∧ Aside0 (tags_Circle.j0 kq l0 x16_2 a1_0 a1_1 = some (r1, r2, r3)) ∧ Aside0 (kq ≤ k) ∧ Aside0 (wc.heap[gb311]? = some (.cells #[.int .i64 a1_0, .int .i64 a1_1] 23 (0, 0))) ∧ Aside0 (wc.heap[gb312]? = some (.cells #[.int .i64 0, .int .i64 0] 23 (0, 0))) ∧ Aside0 (Below w.heap.size w wc))
 case first =>
  have H := HC3.out
  clear HC3
  replace H := Option.bind_eq_some_iff.mp H
  obtain ⟨t313, A60, H⟩ := H
  replace H : (if t313 = true then ((tags_isJars.f a1_0 a1_1).bind fun t314 => (tags_Circle.j0 k l0 (!t314) a1_0 a1_1)) else (tags_Circle.j0 k l0 true a1_0 a1_1)) = some (r1, r2, r3) := H
  have A6 := Aside0.mk A60
  clear A60
  by_cases c7 : t313 = true
  ·subst c7
   have H1 : ((tags_isJars.f a1_0 a1_1).bind fun t314 => (tags_Circle.j0 k l0 (!t314) a1_0 a1_1)) = some (r1, r2, r3) := by rw [if_pos rfl] at H; exact H
   clear H
   have H := H1
   clear H1
   replace H := Option.bind_eq_some_iff.mp H
   obtain ⟨t314, A80, H⟩ := H
   replace H : (tags_Circle.j0 k l0 (!t314) a1_0 a1_1) = some (r1, r2, r3) := H
   have A8 := Aside0.mk A80
   clear A80
   have H' := Aside0.mk H
   clear H
   go_wp2_with (first | ((with_reducible refine gate_callee (f := 30) rfl ?_); refine goesL_ (some 10) rfl rfl Try.func30 (by kernel_rfl) rfl #[.slice A0 l0.length c0] rfl al_ ?_; (with_reducible refine (tags_isMachine.calls _ _ l0 true _ ?side1 ?side2 A6.out).mono ?_); (case side1 => exact kc_ (Kd.C_below HR0.out HB.out)); (case side2 => exact HC0.out); rintro e w9 ⟨rfl, hb⟩; refine ⟨_, rfl, ?_⟩; have n0_ := Aside0.mk (bkb_ BK311.out hb); have n1_ := Aside0.mk (bkb_ BK312.out hb); have n2_ := Aside0.mk (below_step (hb_ HB.out) hb); clear BK311; clear BK312; clear HB; have BK311 := n0_; have BK312 := n1_; have HB := n2_; clear n0_ n1_ n2_; (try clear hb); (try clear hb2); (try clear hk); (try clear hi); have hnb10 := NB311_312.out; have hnc10 := NB312_311.out; have hcz11_0 : w9.cell? ⟨gb311, 0, none⟩ = some (.int .i64 a1_0) := (blk_cell BK311.out 0).trans rfl; have hcz11_1 : w9.cell? ⟨gb311, 1, none⟩ = some (.int .i64 a1_1) := (blk_cell BK311.out 1).trans rfl; have hfz11_0 := blk_frozen BK311.out 0; have hfz11_1 := blk_frozen BK311.out 1) | (go_at_call 31; (with_reducible refine (tags_isJars.calls a1_0 a1_1 t314 _ A8.out).mono ?_); rintro e w12 ⟨rfl, hb⟩; have n0_ := Aside0.mk (bkb_ BK311.out hb); have n1_ := Aside0.mk (bkb_ BK312.out hb); have n2_ := Aside0.mk (below_step (hb_ HB.out) hb); clear BK311; clear BK312; clear HB; have BK311 := n0_; have BK312 := n1_; have HB := n2_; clear n0_ n1_ n2_; (try clear hb); (try clear hb2); (try clear hk); (try clear hi)))
   go_meet
   case rel => exact ⟨_, (!t314), (by first | rfl | (simp; done) | (simp [*]; done)), H', ⟨by first | omega | exact Nat.le_refl _⟩, ⟨by (with_reducible repeat (first | refine blk_drewN ?_ _ | refine blk_drew ?_ | refine blk_alloc ?_ _)); exact BK311.out⟩, ⟨by (with_reducible repeat (first | refine blk_drewN ?_ _ | refine blk_drew ?_ | refine blk_alloc ?_ _)); exact BK312.out⟩, ⟨by repeat (first | (with_reducible first | exact HB.out | apply below_alloc | apply pw_below_drewN | apply below_drew1 | refine below_set ?_ GE311.out | refine below_set ?_ GE312.out) | exact HB.out)⟩⟩
  ·replace c7 := Bool.eq_false_iff.mpr c7
   subst c7
   have H1 : (tags_Circle.j0 k l0 true a1_0 a1_1) = some (r1, r2, r3) := by rw [if_neg (show ¬ (false = true) by decide)] at H; exact H
   clear H
   have H := H1
   clear H1
   have H' := Aside0.mk H
   clear H
   go_wp2_with (first | ((with_reducible refine gate_callee (f := 30) rfl ?_); refine goesL_ (some 10) rfl rfl Try.func30 (by kernel_rfl) rfl #[.slice A0 l0.length c0] rfl al_ ?_; (with_reducible refine (tags_isMachine.calls _ _ l0 false _ ?side1 ?side2 A6.out).mono ?_); (case side1 => exact kc_ (Kd.C_below HR0.out HB.out)); (case side2 => exact HC0.out); rintro e w13 ⟨rfl, hb⟩; refine ⟨_, rfl, ?_⟩; have n0_ := Aside0.mk (bkb_ BK311.out hb); have n1_ := Aside0.mk (bkb_ BK312.out hb); have n2_ := Aside0.mk (below_step (hb_ HB.out) hb); clear BK311; clear BK312; clear HB; have BK311 := n0_; have BK312 := n1_; have HB := n2_; clear n0_ n1_ n2_; (try clear hb); (try clear hb2); (try clear hk); (try clear hi)))
   go_meet
   case rel => exact ⟨_, (true), (by first | rfl | (simp; done) | (simp [*]; done)), H', ⟨by first | omega | exact Nat.le_refl _⟩, ⟨by (with_reducible repeat (first | refine blk_drewN ?_ _ | refine blk_drew ?_ | refine blk_alloc ?_ _)); exact BK311.out⟩, ⟨by (with_reducible repeat (first | refine blk_drewN ?_ _ | refine blk_drew ?_ | refine blk_alloc ?_ _)); exact BK312.out⟩, ⟨by repeat (first | (with_reducible first | exact HB.out | apply below_alloc | apply pw_below_drewN | apply below_drew1 | refine below_set ?_ GE311.out | refine below_set ?_ GE312.out) | exact HB.out)⟩⟩
 case rest =>
  clear HC3
  try clear c1
  try clear p2
  try clear c3
  try clear c7
  try clear c10
  try clear hcz11_0
  try clear hcz11_1
  try clear hfz11_0
  try clear hfz11_1
  obtain ⟨kq, x16_2, rfl, HA, HJ2, BK311, BK312, HB⟩ := hcut
  cases kq with
  | zero => exact absurd HA.out (by simp [tags_Circle.j0])
  | succ kj2 =>
   have H := HA.out
   clear HA
   simp only [tags_Circle.j0] at H
   by_cases c14 : x16_2 = true
   ·subst c14
    have H1 : (some (0, 0, 2)) = some (r1, r2, r3) := by rw [if_pos rfl] at H; exact H
    clear H
    have H := H1
    clear H1
    simp only [Option.some.injEq, Prod.mk.injEq] at H
    obtain ⟨rfl, rfl, rfl⟩ := H
    have hnb15 := NB312_311.out
    have hnc15 := NB311_312.out
    have hcz16_0 : wc.cell? ⟨gb312, 0, none⟩ = some (.int .i64 0) := (blk_cell BK312.out 0).trans rfl
    have hcz16_1 : wc.cell? ⟨gb312, 1, none⟩ = some (.int .i64 0) := (blk_cell BK312.out 1).trans rfl
    have hfz16_0 := blk_frozen BK312.out 0
    have hfz16_1 := blk_frozen BK312.out 1
    go_wp2
    refine bodyPost_ret (results_ct rfl _ _ gb312 23 #[.int .i64 0, .int .i64 0] (0, 0) _ rfl (by (with_reducible repeat (first | refine blk_drewN ?_ _ | refine blk_drew ?_ | refine blk_alloc ?_ _)); refine blk_put (cs := #[.int .i64 0, .int .i64 0]) ?_ 1 _ rfl; (with_reducible repeat (first | refine blk_drewN ?_ _ | refine blk_drew ?_ | refine blk_alloc ?_ _)); refine blk_put (cs := #[.int .i64 0, .int .i64 0]) ?_ 0 _ rfl; (with_reducible repeat (first | refine blk_drewN ?_ _ | refine blk_drew ?_ | refine blk_alloc ?_ _)); exact BK312.out) Try.underlying23 rfl (by kernel_rfl)) rfl ?_
    exact ⟨by first | rfl | (simp [errW_none, errW_some] <;> rfl) | (simp [*, errW_none, errW_some] <;> rfl), by repeat (first | (with_reducible first | exact HB.out | apply below_alloc | apply pw_below_drewN | apply below_drew1 | refine below_set ?_ GE311.out | refine below_set ?_ GE312.out) | exact HB.out)⟩
   ·replace c14 := Bool.eq_false_iff.mpr c14
    subst c14
    have H1 : ((tags_runs.f kj2 l0 a1_0 a1_1 200).bind fun bt315 => (tags_Circle.l0 kj2 (bt315.1.length : Int) 0 bt315.1 bt315.2)) = some (r1, r2, r3) := by rw [if_neg (show ¬ (false = true) by decide)] at H; exact H
    clear H
    have H := H1
    clear H1
    replace H := Option.bind_eq_some_iff.mp H
    obtain ⟨⟨t315, t318⟩, A170, H⟩ := H
    replace H : (tags_Circle.l0 kj2 (t315.length : Int) 0 t315 t318) = some (r1, r2, r3) := H
    have A17 := Aside0.mk A170
    clear A170
    have H' := Aside0.mk H
    clear H
    have hnb18 := NB311_312.out
    have hnc18 := NB312_311.out
    have hcz19_0 : wc.cell? ⟨gb311, 0, none⟩ = some (.int .i64 a1_0) := (blk_cell BK311.out 0).trans rfl
    have hcz19_1 : wc.cell? ⟨gb311, 1, none⟩ = some (.int .i64 a1_1) := (blk_cell BK311.out 1).trans rfl
    have hfz19_0 := blk_frozen BK311.out 0
    have hfz19_1 := blk_frozen BK311.out 1
    go_wp2_with (first | ((with_reducible refine gate_callee (f := 32) rfl ?_); refine goesL_ (some 20) rfl rfl Try.func32 (by kernel_rfl) rfl #[.slice A0 l0.length c0, .agg #[.int .i64 a1_0, .int .i64 a1_1], .int .i64 200] rfl al_ ?_; (with_reducible refine (tags_runs.calls kj2 _ _ l0 a1_0 a1_1 200 t315 t318 _ ?side1 ?side2 A17.out).mono ?_); (case side1 => exact kc_ (Kd.C_below HR0.out HB.out)); (case side2 => exact HC0.out); rintro e w20 ⟨v316, v319, rfl, ho0, ho1, hb⟩; refine ⟨_, rfl, ?_⟩; have n0_ := Aside0.mk (Kd.R_lower ho0 (below_size (hb_ HB.out))); have n1_ := Aside0.mk (Kd.R_lower ho1 (below_size (hb_ HB.out))); have n2_ := Aside0.mk (bkb_ BK311.out hb); have n3_ := Aside0.mk (bkb_ BK312.out hb); have n4_ := Aside0.mk (below_step (hb_ HB.out) hb); clear BK311; clear BK312; clear HB; have HO317 := n0_; have HO320 := n1_; have BK311 := n2_; have BK312 := n3_; have HB := n4_; clear n0_ n1_ n2_ n3_ n4_; (try clear hb); (try clear hb2); (try clear hk); (try clear hi); (try clear ho0); (try clear ho1)) | ((with_reducible refine gate_dst (N := 6) rfl ?_); refine box_event ?hg (N := 6) ?hd (cs := #[.slice none 0 0, .slice none 0 0]) (t := 63) ?hr ?_; (case hd => rfl); (case hg => rfl); (case hr => first | (go_simp; done) | (go_simp; rfl)); intro gb321 hg w21 hbox hb; have n0_ := Aside0.mk (Kd.R_below (kr_ (HO317.out)) hb); have n1_ := Aside0.mk (Kd.R_below (kr_ (HO320.out)) hb); have n2_ := Aside0.mk (bkb_ BK311.out hb); have n3_ := Aside0.mk (bkb_ BK312.out hb); have n4_ := Aside0.mk (below_step (hb_ HB.out) hb); have n5_ := Aside0.mk (hbox); have n6_ := Aside0.mk ((by rw [hg]; exact (below_size (hb_ HB.out)) : w.heap.size ≤ gb321)); have n7_ := Aside0.mk ((by rw [hg]; exact (below_size (hb_ HB.out)) : w.heap.size ≤ gb321)); have n8_ := Aside0.mk ((by rw [hg]; exact Nat.ne_of_lt (bkl_ BK311.out) : gb311 ≠ gb321)); have n9_ := Aside0.mk ((by rw [hg]; exact Nat.ne_of_gt (bkl_ BK311.out) : gb321 ≠ gb311)); have n10_ := Aside0.mk ((by rw [hg]; exact Nat.ne_of_lt (bkl_ BK312.out) : gb312 ≠ gb321)); have n11_ := Aside0.mk ((by rw [hg]; exact Nat.ne_of_gt (bkl_ BK312.out) : gb321 ≠ gb312)); clear HO317; clear HO320; clear BK311; clear BK312; clear HB; have HO317 := n0_; have HO320 := n1_; have BK311 := n2_; have BK312 := n3_; have HB := n4_; have BK321 := n5_; have GW321 := n6_; have GE321 := n7_; have NB311_321 := n8_; have NB321_311 := n9_; have NB312_321 := n10_; have NB321_312 := n11_; clear n0_ n1_ n2_ n3_ n4_ n5_ n6_ n7_ n8_ n9_ n10_ n11_; clear hb hbox hg; obtain ⟨Ao22, co22, eo22⟩ := Kd.R_slice HO317.out; subst eo22; have hnb23 := NB321_311.out; have hnc23 := NB311_321.out; have hnb24 := NB321_312.out; have hnc24 := NB312_321.out; have hcz25_0 : w21.cell? ⟨gb321, 0, none⟩ = some (.slice none 0 0) := (blk_cell BK321.out 0).trans rfl; have hcz25_1 : w21.cell? ⟨gb321, 1, none⟩ = some (.slice none 0 0) := (blk_cell BK321.out 1).trans rfl; have hfz25_0 := blk_frozen BK321.out 0; have hfz25_1 := blk_frozen BK321.out 1; obtain ⟨Ao26, co26, eo26⟩ := Kd.R_slice HO320.out; subst eo26))
    go_loopg [24] kj2 (fun kq v24 w' => ∃ (x24_2 : Int) (x313000_2 : Int) (x313001_2 : Int), v24 = .int .i64 x24_2 ∧ Aside0 (tags_Circle.l0 kq (t315.length : Int) x24_2 t315 t318 = some (r1, r2, r3)) ∧ Aside0 (kq ≤ kj2) ∧ Aside0 (Kd.R k66 66 w' w.heap.size (fun _ => True) (.slice Ao22 t315.length co22) t315) ∧ Aside0 (Kd.R (Kd.int .i64) 3 w' w.heap.size (fun _ => True) (.slice Ao26 t318.length co26) t318) ∧ Aside0 (w'.heap[gb311]? = some (.cells #[.int .i64 a1_0, .int .i64 a1_1] 23 (0, 0))) ∧ Aside0 (w'.heap[gb312]? = some (.cells #[.int .i64 x313000_2, .int .i64 x313001_2] 23 (0, 0))) ∧ Aside0 (w'.heap[gb321]? = some (.cells #[(.slice Ao22 t315.length co22), (.slice Ao26 t318.length co26)] 63 (0, 0))) ∧ Aside0 (Below w.heap.size w w'))
    case atStart => exact ⟨(0), (0), (0), (by first | rfl | (simp; done) | (simp [*]; done)), H', ⟨Nat.le_refl _⟩, ⟨by (with_reducible repeat (first | apply Kd.R_alloc | apply Kd.R_drewN | apply Kd.R_drew)); exact Kd.R_mono (Kd.R_far (p := ⟨gb321, 1, none⟩) (Kd.R_far (p := ⟨gb321, 0, none⟩) (Kd.R_types HO317.out BK321.out (by decide)) (fun _ hk => hk.2) (.slice Ao22 t315.length co22)) (fun _ hk => hk.2) (.slice Ao26 t318.length co26)) (fun _ hk => trivial)⟩, ⟨by (with_reducible repeat (first | apply Kd.R_alloc | apply Kd.R_drewN | apply Kd.R_drew)); exact Kd.R_mono (Kd.R_far (p := ⟨gb321, 1, none⟩) (Kd.R_far (p := ⟨gb321, 0, none⟩) (Kd.R_types HO320.out BK321.out (by decide)) (fun _ hk => hk.2) (.slice Ao22 t315.length co22)) (fun _ hk => hk.2) (.slice Ao26 t318.length co26)) (fun _ hk => trivial)⟩, ⟨by (with_reducible repeat (first | refine blk_drewN ?_ _ | refine blk_drew ?_ | refine blk_alloc ?_ _)); refine blk_far ?_ NB311_321.out _; (with_reducible repeat (first | refine blk_drewN ?_ _ | refine blk_drew ?_ | refine blk_alloc ?_ _)); refine blk_far ?_ NB311_321.out _; (with_reducible repeat (first | refine blk_drewN ?_ _ | refine blk_drew ?_ | refine blk_alloc ?_ _)); exact BK311.out⟩, ⟨by (with_reducible repeat (first | refine blk_drewN ?_ _ | refine blk_drew ?_ | refine blk_alloc ?_ _)); refine blk_far ?_ NB312_321.out _; (with_reducible repeat (first | refine blk_drewN ?_ _ | refine blk_drew ?_ | refine blk_alloc ?_ _)); refine blk_far ?_ NB312_321.out _; (with_reducible repeat (first | refine blk_drewN ?_ _ | refine blk_drew ?_ | refine blk_alloc ?_ _)); exact BK312.out⟩, ⟨by (with_reducible repeat (first | refine blk_drewN ?_ _ | refine blk_drew ?_ | refine blk_alloc ?_ _)); refine blk_put (cs := #[.slice Ao22 t315.length co22, .slice none 0 0]) ?_ 1 _ rfl; (with_reducible repeat (first | refine blk_drewN ?_ _ | refine blk_drew ?_ | refine blk_alloc ?_ _)); refine blk_put (cs := #[.slice none 0 0, .slice none 0 0]) ?_ 0 _ rfl; (with_reducible repeat (first | refine blk_drewN ?_ _ | refine blk_drew ?_ | refine blk_alloc ?_ _)); exact BK321.out⟩, ⟨by repeat (first | (with_reducible first | exact HB.out | apply below_alloc | apply pw_below_drewN | apply below_drew1 | refine below_set ?_ GE311.out | refine below_set ?_ GE312.out | refine below_set ?_ GE321.out) | exact HB.out)⟩⟩
    case round =>
     clear H'
     try clear c1
     try clear c2
     try clear p2
     try clear c3
     try clear c7
     try clear c10
     try clear c14
     try clear c15
     try clear c17
     try clear c18
     try clear c23
     try clear c24
     try clear hcz11_0
     try clear hcz11_1
     try clear hcz16_0
     try clear hcz16_1
     try clear hcz19_0
     try clear hcz19_1
     try clear hcz25_0
     try clear hcz25_1
     try clear hfz11_0
     try clear hfz11_1
     try clear hfz16_0
     try clear hfz16_1
     try clear hfz19_0
     try clear hfz19_1
     try clear hfz25_0
     try clear hfz25_1
     try clear p2
     obtain ⟨x24_2, x313000_2, x313001_2, rfl, HA, HK2, HO_322000, HO_322001, BK311, BK312, BK321, HB⟩ := hrel
     cases gk with
     | zero => exact absurd HA.out (by simp [tags_Circle.l0])
     | succ k2 =>
      have H := HA.out
      clear HA
      simp only [tags_Circle.l0] at H
      by_cases c27 : x24_2 < (t315.length : Int)
      ·rw [if_pos c27] at H
       have c27b0 : decide (x24_2 < (t315.length : Int)) = true := decide_eq_true c27
       clear c27
       have H' := Aside0.mk H
       clear H
       go_wp2
       go_loopg [28] k2 (fun kq v28 w' => ∃ (x28_3 : Int) (x313000_3 : Int) (x313001_3 : Int), v28 = .int .i64 x28_3 ∧ Aside0 (tags_Circle.l1 kq x24_2 (t315.length : Int) x24_2 x24_2 x28_3 t315 t318 = some (r1, r2, r3)) ∧ Aside0 (kq ≤ k2) ∧ Aside0 (Kd.R k66 66 w' w.heap.size (fun _ => True) (.slice Ao22 t315.length co22) t315) ∧ Aside0 (Kd.R (Kd.int .i64) 3 w' w.heap.size (fun _ => True) (.slice Ao26 t318.length co26) t318) ∧ Aside0 (w'.heap[gb311]? = some (.cells #[.int .i64 a1_0, .int .i64 a1_1] 23 (0, 0))) ∧ Aside0 (w'.heap[gb312]? = some (.cells #[.int .i64 x313000_3, .int .i64 x313001_3] 23 (0, 0))) ∧ Aside0 (w'.heap[gb321]? = some (.cells #[(.slice Ao22 t315.length co22), (.slice Ao26 t318.length co26)] 63 (0, 0))) ∧ Aside0 (Below w.heap.size w w'))
       case atStart => exact ⟨(0), (x313000_2), (x313001_2), (by first | rfl | (simp; done) | (simp [*]; done)), H', ⟨Nat.le_refl _⟩, ⟨by (with_reducible repeat (first | apply Kd.R_alloc | apply Kd.R_drewN | apply Kd.R_drew)); exact HO_322000.out⟩, ⟨by (with_reducible repeat (first | apply Kd.R_alloc | apply Kd.R_drewN | apply Kd.R_drew)); exact HO_322001.out⟩, ⟨by (with_reducible repeat (first | refine blk_drewN ?_ _ | refine blk_drew ?_ | refine blk_alloc ?_ _)); exact BK311.out⟩, ⟨by (with_reducible repeat (first | refine blk_drewN ?_ _ | refine blk_drew ?_ | refine blk_alloc ?_ _)); exact BK312.out⟩, ⟨by (with_reducible repeat (first | refine blk_drewN ?_ _ | refine blk_drew ?_ | refine blk_alloc ?_ _)); exact BK321.out⟩, ⟨by repeat (first | (with_reducible first | exact HB.out | apply below_alloc | apply pw_below_drewN | apply below_drew1 | refine below_set ?_ GE311.out | refine below_set ?_ GE312.out | refine below_set ?_ GE321.out) | exact HB.out)⟩⟩
       case round =>
        clear H'
        try clear c1
        try clear c2
        try clear p2
        try clear c3
        try clear c7
        try clear c10
        try clear c14
        try clear c15
        try clear c17
        try clear c18
        try clear c23
        try clear c24
        try clear c27
        try clear c27b0
        try clear hcz11_0
        try clear hcz11_1
        try clear hcz16_0
        try clear hcz16_1
        try clear hcz19_0
        try clear hcz19_1
        try clear hcz25_0
        try clear hcz25_1
        try clear hfz11_0
        try clear hfz11_1
        try clear hfz16_0
        try clear hfz16_1
        try clear hfz19_0
        try clear hfz19_1
        try clear hfz25_0
        try clear hfz25_1
        try clear p2
        obtain ⟨x28_3, x313000_3, x313001_3, rfl, HA, HK3, HO_322000, HO_322001, BK311, BK312, BK321, HB⟩ := hrel
        cases gk with
        | zero => exact absurd HA.out (by simp [tags_Circle.l1])
        | succ k3 =>
         have H := HA.out
         clear HA
         simp only [tags_Circle.l1] at H
         by_cases c28 : x28_3 < x24_2
         ·rw [if_pos c28] at H
          have c28b0 : decide (x28_3 < x24_2) = true := decide_eq_true c28
          clear c28
          replace H := Option.bind_eq_some_iff.mp H
          obtain ⟨t322, A290, H⟩ := H
          replace H : (if t322 = true then (some (x28_3, x24_2, 0)) else (tags_Circle.l1 k3 x24_2 (t315.length : Int) x24_2 x24_2 (wrap64 (x28_3 + 1)) t315 t318)) = some (r1, r2, r3) := H
          have A29 := Aside0.mk A290
          clear A290
          by_cases c30 : t322 = true
          ·subst c30
           have H1 : (some (x28_3, x24_2, 0)) = some (r1, r2, r3) := by rw [if_pos rfl] at H; exact H
           clear H
           have H := H1
           clear H1
           simp only [Option.some.injEq, Prod.mk.injEq] at H
           obtain ⟨rfl, rfl, rfl⟩ := H
           have hnb31 := NB321_311.out
           have hnc31 := NB311_321.out
           have hnb32 := NB321_312.out
           have hnc32 := NB312_321.out
           have hcz33_0 : wr.cell? ⟨gb321, 0, none⟩ = some (.slice Ao22 t315.length co22) := (blk_cell BK321.out 0).trans rfl
           have hcz33_1 : wr.cell? ⟨gb321, 1, none⟩ = some (.slice Ao26 t318.length co26) := (blk_cell BK321.out 1).trans rfl
           have hfz33_0 := blk_frozen BK321.out 0
           have hfz33_1 := blk_frozen BK321.out 1
           go_wp2_with (first | ((with_reducible refine gate_callee (f := 35) rfl ?_); refine goesL_ (some 34) rfl rfl Try.func35 (by kernel_rfl) rfl #[.agg #[.slice Ao22 t315.length co22, .slice Ao26 t318.length co26], .int .i64 x28_3, .int .i64 x24_2] rfl al_ ?_; (with_reducible refine (tags_run_circle.calls k3 _ _ t315 _ _ t318 x28_3 x24_2 true _ ?side1 ?side2 ?side3 ?side4 A29.out).mono ?_); (case side1 => exact kc_ (Kd.R_reads' HO_322000.out).2.2); (case side2 => exact (Kd.R_reads' HO_322000.out).2.1); (case side3 => exact kc_ (Kd.R_reads' HO_322001.out).2.2); (case side4 => exact (Kd.R_reads' HO_322001.out).2.1); rintro e w34 ⟨rfl, hb⟩; refine ⟨_, rfl, ?_⟩; have n0_ := Aside0.mk (Kd.R_below (kr_ (HO_322000.out)) hb); have n1_ := Aside0.mk (Kd.R_below (kr_ (HO_322001.out)) hb); have n2_ := Aside0.mk (bkb_ BK311.out hb); have n3_ := Aside0.mk (bkb_ BK312.out hb); have n4_ := Aside0.mk (bkb_ BK321.out hb); have n5_ := Aside0.mk (below_step (hb_ HB.out) hb); clear HO_322000; clear HO_322001; clear BK311; clear BK312; clear BK321; clear HB; have HO_322000 := n0_; have HO_322001 := n1_; have BK311 := n2_; have BK312 := n3_; have BK321 := n4_; have HB := n5_; clear n0_ n1_ n2_ n3_ n4_ n5_; (try clear hb); (try clear hb2); (try clear hk); (try clear hi); have hnb35 := NB312_311.out; have hnc35 := NB311_312.out; have hcz36_0 : w34.cell? ⟨gb312, 0, none⟩ = some (.int .i64 x313000_3) := (blk_cell BK312.out 0).trans rfl; have hcz36_1 : w34.cell? ⟨gb312, 1, none⟩ = some (.int .i64 x313001_3) := (blk_cell BK312.out 1).trans rfl; have hfz36_0 := blk_frozen BK312.out 0; have hfz36_1 := blk_frozen BK312.out 1))
           refine bodyPost_ret (results_ct rfl _ _ gb312 23 #[.int .i64 x28_3, .int .i64 x24_2] (0, 0) _ rfl (by (with_reducible repeat (first | refine blk_drewN ?_ _ | refine blk_drew ?_ | refine blk_alloc ?_ _)); refine blk_put (cs := #[.int .i64 x28_3, .int .i64 x313001_3]) ?_ 1 _ rfl; (with_reducible repeat (first | refine blk_drewN ?_ _ | refine blk_drew ?_ | refine blk_alloc ?_ _)); refine blk_put (cs := #[.int .i64 x313000_3, .int .i64 x313001_3]) ?_ 0 _ rfl; (with_reducible repeat (first | refine blk_drewN ?_ _ | refine blk_drew ?_ | refine blk_alloc ?_ _)); exact BK312.out) Try.underlying23 rfl (by kernel_rfl)) rfl ?_
           exact ⟨by first | rfl | (simp [errW_none, errW_some] <;> rfl) | (simp [*, errW_none, errW_some] <;> rfl), by repeat (first | (with_reducible first | exact HB.out | apply below_alloc | apply pw_below_drewN | apply below_drew1 | refine below_set ?_ GE311.out | refine below_set ?_ GE312.out | refine below_set ?_ GE321.out) | exact HB.out)⟩
          ·replace c30 := Bool.eq_false_iff.mpr c30
           subst c30
           have H1 : (tags_Circle.l1 k3 x24_2 (t315.length : Int) x24_2 x24_2 (wrap64 (x28_3 + 1)) t315 t318) = some (r1, r2, r3) := by rw [if_neg (show ¬ (false = true) by decide)] at H; exact H
           clear H
           have H := H1
           clear H1
           have H' := Aside0.mk H
           clear H
           have hnb37 := NB321_311.out
           have hnc37 := NB311_321.out
           have hnb38 := NB321_312.out
           have hnc38 := NB312_321.out
           have hcz39_0 : wr.cell? ⟨gb321, 0, none⟩ = some (.slice Ao22 t315.length co22) := (blk_cell BK321.out 0).trans rfl
           have hcz39_1 : wr.cell? ⟨gb321, 1, none⟩ = some (.slice Ao26 t318.length co26) := (blk_cell BK321.out 1).trans rfl
           have hfz39_0 := blk_frozen BK321.out 0
           have hfz39_1 := blk_frozen BK321.out 1
           go_wp2_with (first | ((with_reducible refine gate_callee (f := 35) rfl ?_); refine goesL_ (some 34) rfl rfl Try.func35 (by kernel_rfl) rfl #[.agg #[.slice Ao22 t315.length co22, .slice Ao26 t318.length co26], .int .i64 x28_3, .int .i64 x24_2] rfl al_ ?_; (with_reducible refine (tags_run_circle.calls k3 _ _ t315 _ _ t318 x28_3 x24_2 false _ ?side1 ?side2 ?side3 ?side4 A29.out).mono ?_); (case side1 => exact kc_ (Kd.R_reads' HO_322000.out).2.2); (case side2 => exact (Kd.R_reads' HO_322000.out).2.1); (case side3 => exact kc_ (Kd.R_reads' HO_322001.out).2.2); (case side4 => exact (Kd.R_reads' HO_322001.out).2.1); rintro e w40 ⟨rfl, hb⟩; refine ⟨_, rfl, ?_⟩; have n0_ := Aside0.mk (Kd.R_below (kr_ (HO_322000.out)) hb); have n1_ := Aside0.mk (Kd.R_below (kr_ (HO_322001.out)) hb); have n2_ := Aside0.mk (bkb_ BK311.out hb); have n3_ := Aside0.mk (bkb_ BK312.out hb); have n4_ := Aside0.mk (bkb_ BK321.out hb); have n5_ := Aside0.mk (below_step (hb_ HB.out) hb); clear HO_322000; clear HO_322001; clear BK311; clear BK312; clear BK321; clear HB; have HO_322000 := n0_; have HO_322001 := n1_; have BK311 := n2_; have BK312 := n3_; have BK321 := n4_; have HB := n5_; clear n0_ n1_ n2_ n3_ n4_ n5_; (try clear hb); (try clear hb2); (try clear hk); (try clear hi)))
           go_roundg k3
           case measure => have := HJ2.out; have := HK2.out; have := HK3.out; omega
           case rel => exact ⟨(wrap64 (x28_3 + 1)), (x313000_3), (x313001_3), (by first | rfl | (simp; done) | (simp [*]; done)), H', ⟨by have := HJ2.out; have := HK2.out; have := HK3.out; omega⟩, ⟨by (with_reducible repeat (first | apply Kd.R_alloc | apply Kd.R_drewN | apply Kd.R_drew)); exact HO_322000.out⟩, ⟨by (with_reducible repeat (first | apply Kd.R_alloc | apply Kd.R_drewN | apply Kd.R_drew)); exact HO_322001.out⟩, ⟨by (with_reducible repeat (first | refine blk_drewN ?_ _ | refine blk_drew ?_ | refine blk_alloc ?_ _)); exact BK311.out⟩, ⟨by (with_reducible repeat (first | refine blk_drewN ?_ _ | refine blk_drew ?_ | refine blk_alloc ?_ _)); exact BK312.out⟩, ⟨by (with_reducible repeat (first | refine blk_drewN ?_ _ | refine blk_drew ?_ | refine blk_alloc ?_ _)); exact BK321.out⟩, ⟨by repeat (first | (with_reducible first | exact HB.out | apply below_alloc | apply pw_below_drewN | apply below_drew1 | refine below_set ?_ GE311.out | refine below_set ?_ GE312.out | refine below_set ?_ GE321.out) | exact HB.out)⟩⟩
         ·rw [if_neg c28] at H
          have c28b0 : decide (x28_3 < x24_2) = false := decide_eq_false c28
          clear c28
          have H' := Aside0.mk H
          clear H
          go_wp2
          go_roundg k3
          case measure => have := HJ2.out; have := HK2.out; have := HK3.out; omega
          case rel => exact ⟨(wrap64 (x24_2 + 1)), (x313000_3), (x313001_3), (by first | rfl | (simp; done) | (simp [*]; done)), H', ⟨by have := HJ2.out; have := HK2.out; have := HK3.out; omega⟩, ⟨by (with_reducible repeat (first | apply Kd.R_alloc | apply Kd.R_drewN | apply Kd.R_drew)); exact HO_322000.out⟩, ⟨by (with_reducible repeat (first | apply Kd.R_alloc | apply Kd.R_drewN | apply Kd.R_drew)); exact HO_322001.out⟩, ⟨by (with_reducible repeat (first | refine blk_drewN ?_ _ | refine blk_drew ?_ | refine blk_alloc ?_ _)); exact BK311.out⟩, ⟨by (with_reducible repeat (first | refine blk_drewN ?_ _ | refine blk_drew ?_ | refine blk_alloc ?_ _)); exact BK312.out⟩, ⟨by (with_reducible repeat (first | refine blk_drewN ?_ _ | refine blk_drew ?_ | refine blk_alloc ?_ _)); exact BK321.out⟩, ⟨by repeat (first | (with_reducible first | exact HB.out | apply below_alloc | apply pw_below_drewN | apply below_drew1 | refine below_set ?_ GE311.out | refine below_set ?_ GE312.out | refine below_set ?_ GE321.out) | exact HB.out)⟩⟩
      ·rw [if_neg c27] at H
       have c27b0 : decide (x24_2 < (t315.length : Int)) = false := decide_eq_false c27
       clear c27
       simp only [Option.some.injEq, Prod.mk.injEq] at H
       obtain ⟨rfl, rfl, rfl⟩ := H
       have hnb41 := NB312_311.out
       have hnc41 := NB311_312.out
       have hnb42 := NB312_321.out
       have hnc42 := NB321_312.out
       have hcz43_0 : wr.cell? ⟨gb312, 0, none⟩ = some (.int .i64 x313000_2) := (blk_cell BK312.out 0).trans rfl
       have hcz43_1 : wr.cell? ⟨gb312, 1, none⟩ = some (.int .i64 x313001_2) := (blk_cell BK312.out 1).trans rfl
       have hfz43_0 := blk_frozen BK312.out 0
       have hfz43_1 := blk_frozen BK312.out 1
       go_wp2
       refine bodyPost_ret (results_ct rfl _ _ gb312 23 #[.int .i64 0, .int .i64 0] (0, 0) _ rfl (by (with_reducible repeat (first | refine blk_drewN ?_ _ | refine blk_drew ?_ | refine blk_alloc ?_ _)); refine blk_put (cs := #[.int .i64 0, .int .i64 x313001_2]) ?_ 1 _ rfl; (with_reducible repeat (first | refine blk_drewN ?_ _ | refine blk_drew ?_ | refine blk_alloc ?_ _)); refine blk_put (cs := #[.int .i64 x313000_2, .int .i64 x313001_2]) ?_ 0 _ rfl; (with_reducible repeat (first | refine blk_drewN ?_ _ | refine blk_drew ?_ | refine blk_alloc ?_ _)); exact BK312.out) Try.underlying23 rfl (by kernel_rfl)) rfl ?_
       exact ⟨by first | rfl | (simp [errW_none, errW_some] <;> rfl) | (simp [*, errW_none, errW_some] <;> rfl), by repeat (first | (with_reducible first | exact HB.out | apply below_alloc | apply pw_below_drewN | apply below_drew1 | refine below_set ?_ GE311.out | refine below_set ?_ GE312.out | refine below_set ?_ GE321.out) | exact HB.out)⟩

end Go.Proofs.Ytjmbjnobbeflfaa.X
