/- Written by a program of this session (wip/tools/xprint.py, which calls the kit's print): Go functions as Lean functions, and for each the proof that the machine's call does what it says; no conditions but those that each theorem names. -/
import Derived.Test.YtigmhomfadimnaaQX0
import Derived.Test.YtigmhomfadimnaaQXEq
import Derived.Test.YtigmhomfadimnaaQXL
import Derived.Test.YtigmhomfadimnaaQXLA
import Derived.Test.YtigmhomfadimnaaQXS
import Derived.Test.YtigmhomfadimnaaQXcomfitlaw04awake
import Derived.Test.YtigmhomfadimnaaQXcomfitlaw04list
import Derived.Test.YtigmhomfadimnaaQHFirst
import Derived.Test.YtigmhomfadimnaaQHLast
namespace Go.Proofs.Ytigmhomfadimnaa.X
open Go.RowKit Go.Proofs.YtigmhomfadimnaaW.PrintWords Go.Proofs.YtigmhomfadimnaaW.PrintLast Go.Proofs.YtigmhomfadimnaaW.PrintMore
attribute [local go_sem] max2_int min2_int max_two min_two max_three min_three max_four min_four   -- for this text's walks alone
set_option linter.unusedVariables false
set_option linter.unusedSimpArgs false

attribute [local go_sem high] eqA25
/-! ### comfitlaw04_PacketsRace: function 17 -/
mutual
def comfitlaw04_PacketsRace.j0 : Nat → List Int → Int → Int → Int → Int → Bool → Int → Int → Int → Int → Option (Bool)
 | 0, _, _, _, _, _, _, _, _, _, _ => none
 | k + 1, x0, x1, x2, x8, x10, x51, x724000, x724001, x731000, x731001 => if x51 = true then (if x8 = 2 then (if x10 = x8 then ((comfitlaw04_awake.f k).bind fun t733 => (some t733)) else (some false)) else (some false)) else (comfitlaw04_PacketsRace.l0 k x0 x1 x2 (x0.length : Int) 0 x724000 x724001 x731000 x731001 0 1)
def comfitlaw04_PacketsRace.l0 : Nat → List Int → Int → Int → Int → Int → Int → Int → Int → Int → Int → Int → Option (Bool)
 | 0, _, _, _, _, _, _, _, _, _, _, _ => none
 | k + 1, x0, x1, x2, x64, x65, x724000, x724001, x731000, x731001, x735000, x735001 => if x65 < x64 then (if 0 ≤ x65 then (if (Go.bits .and .i64 (shr .i64 (Go.bits .and .i64 x1 x2) x65) 1) = 0 then (comfitlaw04_PacketsRace.l0 k x0 x1 x2 x64 (wrap64 (x65 + 1)) x724000 x724001 x731000 x731001 x735000 x735001) else ((comfitlaw04_list.f x0).bind fun t735 => ((packets_Last.f k t735 (Go.bits .or .i64 x1 x2) x65).bind fun bt738 => (if bt738.2.2 = 0 then ((comfitlaw04_right.f bt738.1 bt738.2.1 1).bind fun t742 => (comfitlaw04_PacketsRace.j2 k x0 x1 x2 x64 x65 (!t742) x724000 x724001 x731000 x731001 x735000 x735001 bt738.1 bt738.2.1)) else (comfitlaw04_PacketsRace.j2 k x0 x1 x2 x64 x65 true x724000 x724001 x731000 x731001 x735000 x735001 bt738.1 bt738.2.1))))) else (none)) else ((comfitlaw04_right.f x724000 x724001 1).bind fun t746 => (if t746 = true then ((comfitlaw04_right.f x731000 x731001 1).bind fun t747 => (if t747 = true then (if (Go.bits .andNot .i64 x2 x1) = 0 then (if x724000 = 0 then (if (Go.bits .andNot .i64 x1 x2) = 0 then (comfitlaw04_PacketsRace.j3 k (x731000 != 0) x724000 x724001 x731000 x731001 x735000 x735001) else (comfitlaw04_PacketsRace.j3 k false x724000 x724001 x731000 x731001 x735000 x735001)) else (comfitlaw04_PacketsRace.j3 k true x724000 x724001 x731000 x731001 x735000 x735001)) else (if (Go.bits .andNot .i64 x1 x2) = 0 then (comfitlaw04_PacketsRace.j3 k (x731000 != 0) x724000 x724001 x731000 x731001 x735000 x735001) else (comfitlaw04_PacketsRace.j3 k false x724000 x724001 x731000 x731001 x735000 x735001))) else (comfitlaw04_PacketsRace.j3 k true x724000 x724001 x731000 x731001 x735000 x735001))) else (comfitlaw04_PacketsRace.j3 k true x724000 x724001 x731000 x731001 x735000 x735001)))
def comfitlaw04_PacketsRace.j2 : Nat → List Int → Int → Int → Int → Int → Bool → Int → Int → Int → Int → Int → Int → Int → Int → Option (Bool)
 | 0, _, _, _, _, _, _, _, _, _, _, _, _, _, _ => none
 | k + 1, x0, x1, x2, x64, x65, x91, x724000, x724001, x731000, x731001, x735000, x735001, x742000, x742001 => if x91 = true then (some false) else ((comfitlaw04_added.f k x735000 x735001 x742000 x742001 false).bind fun bt743 => (if bt743.2.2 = true then (comfitlaw04_PacketsRace.l0 k x0 x1 x2 x64 (wrap64 (x65 + 1)) x724000 x724001 x731000 x731001 bt743.1 bt743.2.1) else (some false)))
def comfitlaw04_PacketsRace.j3 : Nat → Bool → Int → Int → Int → Int → Int → Int → Option (Bool)
 | 0, _, _, _, _, _, _, _ => none
 | k + 1, x130, x724000, x724001, x731000, x731001, x735000, x735001 => if x130 = true then (some false) else ((comfitlaw04_added.f k x724000 x724001 x731000 x731001 false).bind fun bt748 => (if bt748.2.2 = true then ((comfitlaw04_added.f k bt748.1 bt748.2.1 x735000 x735001 false).bind fun bt752 => (if bt752.2.2 = true then (if (bt752.1 == 1 && (bt752.2.1 == 1)) = true then ((comfitlaw04_awake.f k).bind fun t755 => (some t755)) else (some false)) else (some false))) else (some false)))
end
def comfitlaw04_PacketsRace.f (k : Nat) (l0 : List Int) (a1 : Int) (a2 : Int) : Option (Bool) := (comfitlaw04_list.f l0).bind fun t717 => ((packets_First.f k t717 a1 a2).bind fun bt720 => ((comfitlaw04_list.f l0).bind fun t724 => ((packets_First.f k t724 a2 a1).bind fun bt727 => (if bt720.2.2 = 0 then (if bt727.2.2 = 0 then ((comfitref04_Set.f k l0 a1).bind fun t731 => (if t731 = true then ((comfitref04_Set.f k l0 a2).bind fun t732 => (comfitlaw04_PacketsRace.j0 k l0 a1 a2 bt720.2.2 bt727.2.2 (!t732) bt720.1 bt720.2.1 bt727.1 bt727.2.1)) else (comfitlaw04_PacketsRace.j0 k l0 a1 a2 bt720.2.2 bt727.2.2 true bt720.1 bt720.2.1 bt727.1 bt727.2.1))) else (comfitlaw04_PacketsRace.j0 k l0 a1 a2 bt720.2.2 bt727.2.2 true bt720.1 bt720.2.1 bt727.1 bt727.2.1)) else (comfitlaw04_PacketsRace.j0 k l0 a1 a2 bt720.2.2 bt727.2.2 true bt720.1 bt720.2.1 bt727.1 bt727.2.1)))))
set_option maxHeartbeats 8000000 in
set_option maxRecDepth 100000 in
theorem comfitlaw04_PacketsRace.calls (k : Nat) (A0 : Option Addr) (c0 : Nat) (l0 : List Int) (a1 : Int) (a2 : Int) (r : Bool) (w : World) (hr0 : Kd.C (Kd.int .i64) w A0 l0.length l0) (hc0 : l0.length ≤ c0) (h : comfitlaw04_PacketsRace.f k l0 a1 a2 = some r) :
  Calls Try.prog 17 #[.slice A0 l0.length c0, .int .i64 a1, .int .i64 a2] w fun e w' => e = .returned (.bool r) ∧ Below w.heap.size w w' := by
 have hu25 := Try.underlying25
 have HR0 := Aside0.mk hr0
 have HC0 := Aside0.mk hc0
 clear hr0 hc0
 have HB := Aside0.mk (Below.refl w.heap.size w)
 have H : ((comfitlaw04_list.f l0).bind fun t717 => ((packets_First.f k t717 a1 a2).bind fun bt720 => ((comfitlaw04_list.f l0).bind fun t724 => ((packets_First.f k t724 a2 a1).bind fun bt727 => (if bt720.2.2 = 0 then (if bt727.2.2 = 0 then ((comfitref04_Set.f k l0 a1).bind fun t731 => (if t731 = true then ((comfitref04_Set.f k l0 a2).bind fun t732 => (comfitlaw04_PacketsRace.j0 k l0 a1 a2 bt720.2.2 bt727.2.2 (!t732) bt720.1 bt720.2.1 bt727.1 bt727.2.1)) else (comfitlaw04_PacketsRace.j0 k l0 a1 a2 bt720.2.2 bt727.2.2 true bt720.1 bt720.2.1 bt727.1 bt727.2.1))) else (comfitlaw04_PacketsRace.j0 k l0 a1 a2 bt720.2.2 bt727.2.2 true bt720.1 bt720.2.1 bt727.1 bt727.2.1)) else (comfitlaw04_PacketsRace.j0 k l0 a1 a2 bt720.2.2 bt727.2.2 true bt720.1 bt720.2.1 bt727.1 bt727.2.1)))))) = some r := h
 clear h
 replace H := Option.bind_eq_some_iff.mp H
 obtain ⟨t717, A40, H⟩ := H
 replace H : ((packets_First.f k t717 a1 a2).bind fun bt720 => ((comfitlaw04_list.f l0).bind fun t724 => ((packets_First.f k t724 a2 a1).bind fun bt727 => (if bt720.2.2 = 0 then (if bt727.2.2 = 0 then ((comfitref04_Set.f k l0 a1).bind fun t731 => (if t731 = true then ((comfitref04_Set.f k l0 a2).bind fun t732 => (comfitlaw04_PacketsRace.j0 k l0 a1 a2 bt720.2.2 bt727.2.2 (!t732) bt720.1 bt720.2.1 bt727.1 bt727.2.1)) else (comfitlaw04_PacketsRace.j0 k l0 a1 a2 bt720.2.2 bt727.2.2 true bt720.1 bt720.2.1 bt727.1 bt727.2.1))) else (comfitlaw04_PacketsRace.j0 k l0 a1 a2 bt720.2.2 bt727.2.2 true bt720.1 bt720.2.1 bt727.1 bt727.2.1)) else (comfitlaw04_PacketsRace.j0 k l0 a1 a2 bt720.2.2 bt727.2.2 true bt720.1 bt720.2.1 bt727.1 bt727.2.1))))) = some r := H
 have A4 := Aside0.mk A40
 clear A40
 replace H := Option.bind_eq_some_iff.mp H
 obtain ⟨⟨t720, t721, t722⟩, A50, H⟩ := H
 replace H : ((comfitlaw04_list.f l0).bind fun t724 => ((packets_First.f k t724 a2 a1).bind fun bt727 => (if t722 = 0 then (if bt727.2.2 = 0 then ((comfitref04_Set.f k l0 a1).bind fun t731 => (if t731 = true then ((comfitref04_Set.f k l0 a2).bind fun t732 => (comfitlaw04_PacketsRace.j0 k l0 a1 a2 t722 bt727.2.2 (!t732) t720 t721 bt727.1 bt727.2.1)) else (comfitlaw04_PacketsRace.j0 k l0 a1 a2 t722 bt727.2.2 true t720 t721 bt727.1 bt727.2.1))) else (comfitlaw04_PacketsRace.j0 k l0 a1 a2 t722 bt727.2.2 true t720 t721 bt727.1 bt727.2.1)) else (comfitlaw04_PacketsRace.j0 k l0 a1 a2 t722 bt727.2.2 true t720 t721 bt727.1 bt727.2.1)))) = some r := H
 have A5 := Aside0.mk A50
 clear A50
 replace H := Option.bind_eq_some_iff.mp H
 obtain ⟨t724, A60, H⟩ := H
 replace H : ((packets_First.f k t724 a2 a1).bind fun bt727 => (if t722 = 0 then (if bt727.2.2 = 0 then ((comfitref04_Set.f k l0 a1).bind fun t731 => (if t731 = true then ((comfitref04_Set.f k l0 a2).bind fun t732 => (comfitlaw04_PacketsRace.j0 k l0 a1 a2 t722 bt727.2.2 (!t732) t720 t721 bt727.1 bt727.2.1)) else (comfitlaw04_PacketsRace.j0 k l0 a1 a2 t722 bt727.2.2 true t720 t721 bt727.1 bt727.2.1))) else (comfitlaw04_PacketsRace.j0 k l0 a1 a2 t722 bt727.2.2 true t720 t721 bt727.1 bt727.2.1)) else (comfitlaw04_PacketsRace.j0 k l0 a1 a2 t722 bt727.2.2 true t720 t721 bt727.1 bt727.2.1))) = some r := H
 have A6 := Aside0.mk A60
 clear A60
 replace H := Option.bind_eq_some_iff.mp H
 obtain ⟨⟨t727, t728, t729⟩, A70, H⟩ := H
 replace H : (if t722 = 0 then (if t729 = 0 then ((comfitref04_Set.f k l0 a1).bind fun t731 => (if t731 = true then ((comfitref04_Set.f k l0 a2).bind fun t732 => (comfitlaw04_PacketsRace.j0 k l0 a1 a2 t722 t729 (!t732) t720 t721 t727 t728)) else (comfitlaw04_PacketsRace.j0 k l0 a1 a2 t722 t729 true t720 t721 t727 t728))) else (comfitlaw04_PacketsRace.j0 k l0 a1 a2 t722 t729 true t720 t721 t727 t728)) else (comfitlaw04_PacketsRace.j0 k l0 a1 a2 t722 t729 true t720 t721 t727 t728)) = some r := H
 have A7 := Aside0.mk A70
 clear A70
 have HC8 := Aside0.mk H
 clear H
 go_enter Try.func17, Try.ntmps17
 go_upto_region 3 with (first | ((with_reducible refine gate_callee (f := 22) rfl ?_); refine goesL_ (some 20) rfl rfl Try.func22 (by kernel_rfl) rfl #[.slice A0 l0.length c0] rfl al_ ?_; (with_reducible refine (comfitlaw04_list.calls _ _ l0 t717 _ ?side1 ?side2 A4.out).mono ?_); (case side1 => repeat (first | exact HR0.out | (with_reducible refine Kd.C_alloc ?_ _) | (with_reducible refine Kd.C_drewN ?_ _) | (with_reducible refine Kd.C_drew ?_))); (case side2 => exact HC0.out); rintro e w9 ⟨v718, rfl, ho0, hb⟩; refine ⟨_, rfl, ?_⟩; have n0_ := Aside0.mk (Kd.R_lower ho0 (below_size (hb_ HB.out))); have n1_ := Aside0.mk (below_step (hb_ HB.out) hb); clear HB; have HO719 := n0_; have HB := n1_; clear n0_ n1_; (try clear hb); (try clear hb2); (try clear hk); (try clear hi); (try clear ho0); obtain ⟨Ao10, co10, eo10⟩ := Kd.R_slice HO719.out; subst eo10) | ((with_reducible refine gate_callee (f := 41) rfl ?_); refine goesL_ (some 23) rfl rfl Try.func41 (by kernel_rfl) rfl #[.slice Ao10 t717.length co10, .int .i64 a1, .int .i64 a2] rfl al_ ?_; (with_reducible refine (packets_First.calls k _ _ t717 a1 a2 t720 t721 t722 _ ?side1 ?side2 A5.out).mono ?_); (case side1 => exact kc_ (Kd.R_reads' HO719.out).2.2); (case side2 => exact (Kd.R_reads' HO719.out).2.1); rintro e w11 ⟨rfl, hb⟩; refine ⟨_, rfl, ?_⟩; have n0_ := Aside0.mk (Kd.R_below (kr_ (HO719.out)) hb); have n1_ := Aside0.mk (below_step (hb_ HB.out) hb); clear HO719; clear HB; have HO719 := n0_; have HB := n1_; clear n0_ n1_; (try clear hb); (try clear hb2); (try clear hk); (try clear hi)) | ((with_reducible refine gate_dst (N := 7) rfl ?_); refine box_event ?hg (N := 7) ?hd (cs := #[.int .i64 0, .int .i64 0]) (t := 25) ?hr ?_; (case hd => rfl); (case hg => rfl); (case hr => first | (go_simp; done) | (go_simp; rfl)); intro gb723 hg w12 hbox hb; have n0_ := Aside0.mk (Kd.R_below (kr_ (HO719.out)) hb); have n1_ := Aside0.mk (below_step (hb_ HB.out) hb); have n2_ := Aside0.mk (hbox); have n3_ := Aside0.mk ((by rw [hg]; exact (below_size (hb_ HB.out)) : w.heap.size ≤ gb723)); have n4_ := Aside0.mk ((by rw [hg]; exact (below_size (hb_ HB.out)) : w.heap.size ≤ gb723)); clear HO719; clear HB; have HO719 := n0_; have HB := n1_; have BK723 := n2_; have GW723 := n3_; have GE723 := n4_; clear n0_ n1_ n2_ n3_ n4_; clear hb hbox hg; have hcz13_0 : w12.cell? ⟨gb723, 0, none⟩ = some (.int .i64 0) := (blk_cell BK723.out 0).trans rfl; have hcz13_1 : w12.cell? ⟨gb723, 1, none⟩ = some (.int .i64 0) := (blk_cell BK723.out 1).trans rfl; have hfz13_0 := blk_frozen BK723.out 0; have hfz13_1 := blk_frozen BK723.out 1) | ((with_reducible refine gate_callee (f := 22) rfl ?_); refine goesL_ (some 28) rfl rfl Try.func22 (by kernel_rfl) rfl #[.slice A0 l0.length c0] rfl al_ ?_; (with_reducible refine (comfitlaw04_list.calls _ _ l0 t724 _ ?side1 ?side2 A6.out).mono ?_); (case side1 => exact Kd.C_below HR0.out (hb_ HB.out)); (case side2 => exact HC0.out); rintro e w14 ⟨v725, rfl, ho0, hb⟩; refine ⟨_, rfl, ?_⟩; have n0_ := Aside0.mk (Kd.R_elder' (by (with_reducible repeat (first | apply Kd.R_alloc | apply Kd.R_drewN | apply Kd.R_drew)); exact (Kd.R_mono (Kd.R_far (p := ⟨gb723, 1, none⟩) (Kd.R_far (p := ⟨gb723, 0, none⟩) (Kd.R_types HO719.out BK723.out (by decide)) (fun _ hk => hk.2) (.int .i64 t720)) (fun _ hk => hk.2) (.int .i64 t721)) (fun _ h_ => h_.1))) (Kd.R_base ho0) hb); have n1_ := Aside0.mk (Kd.R_lower (Kd.R_new' ho0 (Kd.R_lt (by (with_reducible repeat (first | apply Kd.R_alloc | apply Kd.R_drewN | apply Kd.R_drew)); exact (Kd.R_mono (Kd.R_far (p := ⟨gb723, 1, none⟩) (Kd.R_far (p := ⟨gb723, 0, none⟩) (Kd.R_types HO719.out BK723.out (by decide)) (fun _ hk => hk.2) (.int .i64 t720)) (fun _ hk => hk.2) (.int .i64 t721)) (fun _ h_ => h_.1))))) (below_size (hb_ HB.out))); have n2_ := Aside0.mk (blk_below (g := gb723) (o := .cells #[.int .i64 t720, .int .i64 t721] 25 (0, 0)) (by (with_reducible repeat (first | refine blk_drewN ?_ _ | refine blk_drew ?_ | refine blk_alloc ?_ _)); refine blk_put (cs := #[.int .i64 t720, .int .i64 0]) ?_ 1 _ rfl; (with_reducible repeat (first | refine blk_drewN ?_ _ | refine blk_drew ?_ | refine blk_alloc ?_ _)); refine blk_put (cs := #[.int .i64 0, .int .i64 0]) ?_ 0 _ rfl; (with_reducible repeat (first | refine blk_drewN ?_ _ | refine blk_drew ?_ | refine blk_alloc ?_ _)); exact BK723.out) hb); have n3_ := Aside0.mk (below_step (hb_ HB.out) hb); clear HO719; clear BK723; clear HB; have HO719 := n0_; have HO726 := n1_; have BK723 := n2_; have HB := n3_; clear n0_ n1_ n2_ n3_; (try clear hb); (try clear hb2); (try clear hk); (try clear hi); (try clear ho0); obtain ⟨Ao15, co15, eo15⟩ := Kd.R_slice HO726.out; subst eo15) | ((with_reducible refine gate_callee (f := 41) rfl ?_); refine goesL_ (some 31) rfl rfl Try.func41 (by kernel_rfl) rfl #[.slice Ao15 t724.length co15, .int .i64 a2, .int .i64 a1] rfl al_ ?_; (with_reducible refine (packets_First.calls k _ _ t724 a2 a1 t727 t728 t729 _ ?side1 ?side2 A7.out).mono ?_); (case side1 => exact kc_ (Kd.R_reads' HO726.out).2.2); (case side2 => exact (Kd.R_reads' HO726.out).2.1); rintro e w16 ⟨rfl, hb⟩; refine ⟨_, rfl, ?_⟩; have n0_ := Aside0.mk (Kd.R_below (kr_ (HO719.out)) hb); have n1_ := Aside0.mk (Kd.R_below (kr_ (HO726.out)) hb); have n2_ := Aside0.mk (bkb_ BK723.out hb); have n3_ := Aside0.mk (below_step (hb_ HB.out) hb); clear HO719; clear HO726; clear BK723; clear HB; have HO719 := n0_; have HO726 := n1_; have BK723 := n2_; have HB := n3_; clear n0_ n1_ n2_ n3_; (try clear hb); (try clear hb2); (try clear hk); (try clear hi)) | ((with_reducible refine gate_dst (N := 9) rfl ?_); refine box_event ?hg (N := 9) ?hd (cs := #[.int .i64 0, .int .i64 0]) (t := 25) ?hr ?_; (case hd => rfl); (case hg => rfl); (case hr => first | (go_simp; done) | (go_simp; rfl)); intro gb730 hg w17 hbox hb; have n0_ := Aside0.mk (Kd.R_below (kr_ (HO719.out)) hb); have n1_ := Aside0.mk (Kd.R_below (kr_ (HO726.out)) hb); have n2_ := Aside0.mk (bkb_ BK723.out hb); have n3_ := Aside0.mk (below_step (hb_ HB.out) hb); have n4_ := Aside0.mk (hbox); have n5_ := Aside0.mk ((by rw [hg]; exact (below_size (hb_ HB.out)) : w.heap.size ≤ gb730)); have n6_ := Aside0.mk ((by rw [hg]; exact (below_size (hb_ HB.out)) : w.heap.size ≤ gb730)); have n7_ := Aside0.mk ((by rw [hg]; exact Nat.ne_of_lt (bkl_ BK723.out) : gb723 ≠ gb730)); have n8_ := Aside0.mk ((by rw [hg]; exact Nat.ne_of_gt (bkl_ BK723.out) : gb730 ≠ gb723)); clear HO719; clear HO726; clear BK723; clear HB; have HO719 := n0_; have HO726 := n1_; have BK723 := n2_; have HB := n3_; have BK730 := n4_; have GW730 := n5_; have GE730 := n6_; have NB723_730 := n7_; have NB730_723 := n8_; clear n0_ n1_ n2_ n3_ n4_ n5_ n6_ n7_ n8_; clear hb hbox hg; have hnb18 := NB730_723.out; have hnc18 := NB723_730.out; have hcz19_0 : w17.cell? ⟨gb730, 0, none⟩ = some (.int .i64 0) := (blk_cell BK730.out 0).trans rfl; have hcz19_1 : w17.cell? ⟨gb730, 1, none⟩ = some (.int .i64 0) := (blk_cell BK730.out 1).trans rfl; have hfz19_0 := blk_frozen BK730.out 0; have hfz19_1 := blk_frozen BK730.out 1))
 (try simp only [Act.put, List.setIfInBounds_toArray, List.set_cons_zero, List.set_cons_succ])
 go_cut [51] (fun v51 wc => ∃ (kq : Nat) (x51_7 : Bool), v51 = .bool x51_7 ∧ Aside0 (comfitlaw04_PacketsRace.j0 kq l0 a1 a2 t722 t729 x51_7 t720 t721 t727 t728 = some r) ∧ Aside0 (kq ≤ k) ∧ Aside0 (wc.heap[gb723]? = some (.cells #[.int .i64 t720, .int .i64 t721] 25 (0, 0))) ∧ Aside0 (wc.heap[gb730]? = some (.cells #[.int .i64 t727, .int .i64 t728] 25 (0, 0))) ∧ Aside0 (Below w.heap.size w wc))
 case first =>
  have H := HC8.out
  clear HC8
  by_cases c20 : t722 = 0
  ·rw [if_pos c20] at H
   have c20b0 : (t722 == 0) = true := beq_iff_eq.mpr c20
   have c20b1 : (t722 != 0) = false := bne_eq_false_iff_eq.mpr c20
   clear c20
   (first | rw [c20b0] | (simp only [i64_w, i32_w]; rw [c20b0]) | skip)
   by_cases c21 : t729 = 0
   ·rw [if_pos c21] at H
    have c21b0 : (t729 == 0) = true := beq_iff_eq.mpr c21
    have c21b1 : (t729 != 0) = false := bne_eq_false_iff_eq.mpr c21
    clear c21
    replace H := Option.bind_eq_some_iff.mp H
    obtain ⟨t731, A220, H⟩ := H
    replace H : (if t731 = true then ((comfitref04_Set.f k l0 a2).bind fun t732 => (comfitlaw04_PacketsRace.j0 k l0 a1 a2 t722 t729 (!t732) t720 t721 t727 t728)) else (comfitlaw04_PacketsRace.j0 k l0 a1 a2 t722 t729 true t720 t721 t727 t728)) = some r := H
    have A22 := Aside0.mk A220
    clear A220
    by_cases c23 : t731 = true
    ·subst c23
     have H1 : ((comfitref04_Set.f k l0 a2).bind fun t732 => (comfitlaw04_PacketsRace.j0 k l0 a1 a2 t722 t729 (!t732) t720 t721 t727 t728)) = some r := by rw [if_pos rfl] at H; exact H
     clear H
     have H := H1
     clear H1
     replace H := Option.bind_eq_some_iff.mp H
     obtain ⟨t732, A240, H⟩ := H
     replace H : (comfitlaw04_PacketsRace.j0 k l0 a1 a2 t722 t729 (!t732) t720 t721 t727 t728) = some r := H
     have A24 := Aside0.mk A240
     clear A240
     have H' := Aside0.mk H
     clear H
     go_wp2_with (first | (go_at_call 21; (with_reducible refine (comfitref04_Set.calls k _ _ l0 a1 true _ ?side1 ?side2 A22.out).mono ?_); (case side1 => exact Kd.C_below HR0.out (hb_ HB.out)); (case side2 => exact HC0.out); rintro e w' ⟨rfl, ⟨nd, rfl⟩⟩) | (go_at_call 21; (with_reducible refine (comfitref04_Set.calls k _ _ l0 a2 t732 _ ?side1 ?side2 A24.out).mono ?_); (case side1 => exact Kd.C_below HR0.out (hb_ HB.out)); (case side2 => exact HC0.out); rintro e w' ⟨rfl, ⟨nd, rfl⟩⟩))
     go_meet
     case rel => exact ⟨_, (!t732), (by first | rfl | (simp; done) | (simp [*]; done)), H', ⟨by first | omega | exact Nat.le_refl _⟩, ⟨by (with_reducible repeat (first | refine blk_drewN ?_ _ | refine blk_drew ?_ | refine blk_alloc ?_ _)); refine blk_far ?_ NB723_730.out _; (with_reducible repeat (first | refine blk_drewN ?_ _ | refine blk_drew ?_ | refine blk_alloc ?_ _)); refine blk_far ?_ NB723_730.out _; (with_reducible repeat (first | refine blk_drewN ?_ _ | refine blk_drew ?_ | refine blk_alloc ?_ _)); exact BK723.out⟩, ⟨by (with_reducible repeat (first | refine blk_drewN ?_ _ | refine blk_drew ?_ | refine blk_alloc ?_ _)); refine blk_put (cs := #[.int .i64 t727, .int .i64 0]) ?_ 1 _ rfl; (with_reducible repeat (first | refine blk_drewN ?_ _ | refine blk_drew ?_ | refine blk_alloc ?_ _)); refine blk_put (cs := #[.int .i64 0, .int .i64 0]) ?_ 0 _ rfl; (with_reducible repeat (first | refine blk_drewN ?_ _ | refine blk_drew ?_ | refine blk_alloc ?_ _)); exact BK730.out⟩, ⟨by repeat (first | (with_reducible first | exact HB.out | apply below_alloc | apply pw_below_drewN | apply below_drew1 | refine below_set ?_ GE723.out | refine below_set ?_ GE730.out) | exact HB.out)⟩⟩
    ·replace c23 := Bool.eq_false_iff.mpr c23
     subst c23
     have H1 : (comfitlaw04_PacketsRace.j0 k l0 a1 a2 t722 t729 true t720 t721 t727 t728) = some r := by rw [if_neg (show ¬ (false = true) by decide)] at H; exact H
     clear H
     have H := H1
     clear H1
     have H' := Aside0.mk H
     clear H
     go_wp2_with (first | (go_at_call 21; (with_reducible refine (comfitref04_Set.calls k _ _ l0 a1 false _ ?side1 ?side2 A22.out).mono ?_); (case side1 => exact Kd.C_below HR0.out (hb_ HB.out)); (case side2 => exact HC0.out); rintro e w' ⟨rfl, ⟨nd, rfl⟩⟩))
     go_meet
     case rel => exact ⟨_, (true), (by first | rfl | (simp; done) | (simp [*]; done)), H', ⟨by first | omega | exact Nat.le_refl _⟩, ⟨by (with_reducible repeat (first | refine blk_drewN ?_ _ | refine blk_drew ?_ | refine blk_alloc ?_ _)); refine blk_far ?_ NB723_730.out _; (with_reducible repeat (first | refine blk_drewN ?_ _ | refine blk_drew ?_ | refine blk_alloc ?_ _)); refine blk_far ?_ NB723_730.out _; (with_reducible repeat (first | refine blk_drewN ?_ _ | refine blk_drew ?_ | refine blk_alloc ?_ _)); exact BK723.out⟩, ⟨by (with_reducible repeat (first | refine blk_drewN ?_ _ | refine blk_drew ?_ | refine blk_alloc ?_ _)); refine blk_put (cs := #[.int .i64 t727, .int .i64 0]) ?_ 1 _ rfl; (with_reducible repeat (first | refine blk_drewN ?_ _ | refine blk_drew ?_ | refine blk_alloc ?_ _)); refine blk_put (cs := #[.int .i64 0, .int .i64 0]) ?_ 0 _ rfl; (with_reducible repeat (first | refine blk_drewN ?_ _ | refine blk_drew ?_ | refine blk_alloc ?_ _)); exact BK730.out⟩, ⟨by repeat (first | (with_reducible first | exact HB.out | apply below_alloc | apply pw_below_drewN | apply below_drew1 | refine below_set ?_ GE723.out | refine below_set ?_ GE730.out) | exact HB.out)⟩⟩
   ·rw [if_neg c21] at H
    have c21b0 : (t729 == 0) = false := beq_eq_false_iff_ne.mpr c21
    have c21b1 : (t729 != 0) = true := bne_iff_ne.mpr c21
    have H' := Aside0.mk H
    clear H
    go_wp2
    go_meet
    case rel => exact ⟨_, (true), (by first | rfl | (simp; done) | (simp [*]; done)), H', ⟨by first | omega | exact Nat.le_refl _⟩, ⟨by (with_reducible repeat (first | refine blk_drewN ?_ _ | refine blk_drew ?_ | refine blk_alloc ?_ _)); refine blk_far ?_ NB723_730.out _; (with_reducible repeat (first | refine blk_drewN ?_ _ | refine blk_drew ?_ | refine blk_alloc ?_ _)); refine blk_far ?_ NB723_730.out _; (with_reducible repeat (first | refine blk_drewN ?_ _ | refine blk_drew ?_ | refine blk_alloc ?_ _)); exact BK723.out⟩, ⟨by (with_reducible repeat (first | refine blk_drewN ?_ _ | refine blk_drew ?_ | refine blk_alloc ?_ _)); refine blk_put (cs := #[.int .i64 t727, .int .i64 0]) ?_ 1 _ rfl; (with_reducible repeat (first | refine blk_drewN ?_ _ | refine blk_drew ?_ | refine blk_alloc ?_ _)); refine blk_put (cs := #[.int .i64 0, .int .i64 0]) ?_ 0 _ rfl; (with_reducible repeat (first | refine blk_drewN ?_ _ | refine blk_drew ?_ | refine blk_alloc ?_ _)); exact BK730.out⟩, ⟨by repeat (first | (with_reducible first | exact HB.out | apply below_alloc | apply pw_below_drewN | apply below_drew1 | refine below_set ?_ GE723.out | refine below_set ?_ GE730.out) | exact HB.out)⟩⟩
  ·rw [if_neg c20] at H
   have c20b0 : (t722 == 0) = false := beq_eq_false_iff_ne.mpr c20
   have c20b1 : (t722 != 0) = true := bne_iff_ne.mpr c20
   (first | rw [c20b0] | (simp only [i64_w, i32_w]; rw [c20b0]) | skip)
   have H' := Aside0.mk H
   clear H
   go_wp2
   go_meet
   case rel => exact ⟨_, (true), (by first | rfl | (simp; done) | (simp [*]; done)), H', ⟨by first | omega | exact Nat.le_refl _⟩, ⟨by (with_reducible repeat (first | refine blk_drewN ?_ _ | refine blk_drew ?_ | refine blk_alloc ?_ _)); refine blk_far ?_ NB723_730.out _; (with_reducible repeat (first | refine blk_drewN ?_ _ | refine blk_drew ?_ | refine blk_alloc ?_ _)); refine blk_far ?_ NB723_730.out _; (with_reducible repeat (first | refine blk_drewN ?_ _ | refine blk_drew ?_ | refine blk_alloc ?_ _)); exact BK723.out⟩, ⟨by (with_reducible repeat (first | refine blk_drewN ?_ _ | refine blk_drew ?_ | refine blk_alloc ?_ _)); refine blk_put (cs := #[.int .i64 t727, .int .i64 0]) ?_ 1 _ rfl; (with_reducible repeat (first | refine blk_drewN ?_ _ | refine blk_drew ?_ | refine blk_alloc ?_ _)); refine blk_put (cs := #[.int .i64 0, .int .i64 0]) ?_ 0 _ rfl; (with_reducible repeat (first | refine blk_drewN ?_ _ | refine blk_drew ?_ | refine blk_alloc ?_ _)); exact BK730.out⟩, ⟨by repeat (first | (with_reducible first | exact HB.out | apply below_alloc | apply pw_below_drewN | apply below_drew1 | refine below_set ?_ GE723.out | refine below_set ?_ GE730.out) | exact HB.out)⟩⟩
 case rest =>
  clear HC8
  try clear c1
  try clear c2
  try clear p2
  try clear c4
  try clear c17
  try clear c18
  try clear c20
  try clear c20b0
  try clear c20b1
  try clear c21
  try clear c21b0
  try clear c21b1
  try clear c22
  try clear c23
  try clear hcz13_0
  try clear hcz13_1
  try clear hcz19_0
  try clear hcz19_1
  try clear hfz13_0
  try clear hfz13_1
  try clear hfz19_0
  try clear hfz19_1
  obtain ⟨kq, x51_7, rfl, HA, HJ7, BK723, BK730, HB⟩ := hcut
  cases kq with
  | zero => exact absurd HA.out (by simp [comfitlaw04_PacketsRace.j0])
  | succ kj7 =>
   have H := HA.out
   clear HA
   simp only [comfitlaw04_PacketsRace.j0] at H
   by_cases c25 : x51_7 = true
   ·subst c25
    have H1 : (if t722 = 2 then (if t729 = t722 then ((comfitlaw04_awake.f kj7).bind fun t733 => (some t733)) else (some false)) else (some false)) = some r := by rw [if_pos rfl] at H; exact H
    clear H
    have H := H1
    clear H1
    by_cases c26 : t722 = 2
    ·rw [if_pos c26] at H
     have c26b0 : (t722 == 2) = true := beq_iff_eq.mpr c26
     have c26b1 : (t722 != 2) = false := bne_eq_false_iff_eq.mpr c26
     clear c26
     by_cases c27 : t729 = t722
     ·rw [if_pos c27] at H
      have c27b0 : (t729 == t722) = true := beq_iff_eq.mpr c27
      have c27b1 : (t729 != t722) = false := bne_eq_false_iff_eq.mpr c27
      clear c27
      replace H := Option.bind_eq_some_iff.mp H
      obtain ⟨t733, A280, H⟩ := H
      replace H : (some t733) = some r := H
      have A28 := Aside0.mk A280
      clear A280
      obtain rfl := Option.some.inj H
      go_wp2_with (first | (go_at_call 20; (with_reducible refine (comfitlaw04_awake.calls kj7  t733 _ A28.out).mono ?_); rintro e w29 ⟨rfl, hb⟩; have n0_ := Aside0.mk (bkb_ BK723.out hb); have n1_ := Aside0.mk (bkb_ BK730.out hb); have n2_ := Aside0.mk (below_step (hb_ HB.out) hb); clear BK723; clear BK730; clear HB; have BK723 := n0_; have BK730 := n1_; have HB := n2_; clear n0_ n1_ n2_; (try clear hb); (try clear hb2); (try clear hk); (try clear hi)))
      go_ret
      exact ⟨by first | rfl | (simp [errW_none, errW_some] <;> rfl) | (simp [*, errW_none, errW_some] <;> rfl), by repeat (first | (with_reducible first | exact HB.out | apply below_alloc | apply pw_below_drewN | apply below_drew1 | refine below_set ?_ GE723.out | refine below_set ?_ GE730.out) | exact HB.out)⟩
     ·rw [if_neg c27] at H
      have c27b0 : (t729 == t722) = false := beq_eq_false_iff_ne.mpr c27
      have c27b1 : (t729 != t722) = true := bne_iff_ne.mpr c27
      obtain rfl := Option.some.inj H
      go_wp2
      go_ret
      exact ⟨by first | rfl | (simp [errW_none, errW_some] <;> rfl) | (simp [*, errW_none, errW_some] <;> rfl), by repeat (first | (with_reducible first | exact HB.out | apply below_alloc | apply pw_below_drewN | apply below_drew1 | refine below_set ?_ GE723.out | refine below_set ?_ GE730.out) | exact HB.out)⟩
    ·rw [if_neg c26] at H
     have c26b0 : (t722 == 2) = false := beq_eq_false_iff_ne.mpr c26
     have c26b1 : (t722 != 2) = true := bne_iff_ne.mpr c26
     obtain rfl := Option.some.inj H
     go_wp2
     go_ret
     exact ⟨by first | rfl | (simp [errW_none, errW_some] <;> rfl) | (simp [*, errW_none, errW_some] <;> rfl), by repeat (first | (with_reducible first | exact HB.out | apply below_alloc | apply pw_below_drewN | apply below_drew1 | refine below_set ?_ GE723.out | refine below_set ?_ GE730.out) | exact HB.out)⟩
   ·replace c25 := Bool.eq_false_iff.mpr c25
    subst c25
    have H1 : (comfitlaw04_PacketsRace.l0 kj7 l0 a1 a2 (l0.length : Int) 0 t720 t721 t727 t728 0 1) = some r := by rw [if_neg (show ¬ (false = true) by decide)] at H; exact H
    clear H
    have H := H1
    clear H1
    have H' := Aside0.mk H
    clear H
    go_wp2_with (first | ((with_reducible refine gate_dst (N := 11) rfl ?_); refine box_event ?hg (N := 11) ?hd (cs := #[.int .i64 0, .int .i64 0]) (t := 25) ?hr ?_; (case hd => rfl); (case hg => rfl); (case hr => first | (go_simp; done) | (go_simp; rfl)); intro gb734 hg w30 hbox hb; have n0_ := Aside0.mk (bkb_ BK723.out hb); have n1_ := Aside0.mk (bkb_ BK730.out hb); have n2_ := Aside0.mk (below_step (hb_ HB.out) hb); have n3_ := Aside0.mk (hbox); have n4_ := Aside0.mk ((by rw [hg]; exact (below_size (hb_ HB.out)) : w.heap.size ≤ gb734)); have n5_ := Aside0.mk ((by rw [hg]; exact (below_size (hb_ HB.out)) : w.heap.size ≤ gb734)); have n6_ := Aside0.mk ((by rw [hg]; exact Nat.ne_of_lt (bkl_ BK723.out) : gb723 ≠ gb734)); have n7_ := Aside0.mk ((by rw [hg]; exact Nat.ne_of_gt (bkl_ BK723.out) : gb734 ≠ gb723)); have n8_ := Aside0.mk ((by rw [hg]; exact Nat.ne_of_lt (bkl_ BK730.out) : gb730 ≠ gb734)); have n9_ := Aside0.mk ((by rw [hg]; exact Nat.ne_of_gt (bkl_ BK730.out) : gb734 ≠ gb730)); clear BK723; clear BK730; clear HB; have BK723 := n0_; have BK730 := n1_; have HB := n2_; have BK734 := n3_; have GW734 := n4_; have GE734 := n5_; have NB723_734 := n6_; have NB734_723 := n7_; have NB730_734 := n8_; have NB734_730 := n9_; clear n0_ n1_ n2_ n3_ n4_ n5_ n6_ n7_ n8_ n9_; clear hb hbox hg; have hnb31 := NB734_723.out; have hnc31 := NB723_734.out; have hnb32 := NB734_730.out; have hnc32 := NB730_734.out; have hcz33_0 : w30.cell? ⟨gb734, 0, none⟩ = some (.int .i64 0) := (blk_cell BK734.out 0).trans rfl; have hcz33_1 : w30.cell? ⟨gb734, 1, none⟩ = some (.int .i64 0) := (blk_cell BK734.out 1).trans rfl; have hfz33_0 := blk_frozen BK734.out 0; have hfz33_1 := blk_frozen BK734.out 1))
    go_loopg [65] kj7 (fun kq v65 w' => ∃ (x65_2 : Int) (x735000_2 : Int) (x735001_2 : Int), v65 = .int .i64 x65_2 ∧ Aside0 (comfitlaw04_PacketsRace.l0 kq l0 a1 a2 (l0.length : Int) x65_2 t720 t721 t727 t728 x735000_2 x735001_2 = some r) ∧ Aside0 (kq ≤ kj7) ∧ Aside0 (w'.heap[gb723]? = some (.cells #[.int .i64 t720, .int .i64 t721] 25 (0, 0))) ∧ Aside0 (w'.heap[gb730]? = some (.cells #[.int .i64 t727, .int .i64 t728] 25 (0, 0))) ∧ Aside0 (w'.heap[gb734]? = some (.cells #[.int .i64 x735000_2, .int .i64 x735001_2] 25 (0, 0))) ∧ Aside0 (Below w.heap.size w w'))
    case atStart => exact ⟨(0), (0), (1), (by first | rfl | (simp; done) | (simp [*]; done)), H', ⟨Nat.le_refl _⟩, ⟨by (with_reducible repeat (first | refine blk_drewN ?_ _ | refine blk_drew ?_ | refine blk_alloc ?_ _)); refine blk_far ?_ NB723_734.out _; (with_reducible repeat (first | refine blk_drewN ?_ _ | refine blk_drew ?_ | refine blk_alloc ?_ _)); refine blk_far ?_ NB723_734.out _; (with_reducible repeat (first | refine blk_drewN ?_ _ | refine blk_drew ?_ | refine blk_alloc ?_ _)); exact BK723.out⟩, ⟨by (with_reducible repeat (first | refine blk_drewN ?_ _ | refine blk_drew ?_ | refine blk_alloc ?_ _)); refine blk_far ?_ NB730_734.out _; (with_reducible repeat (first | refine blk_drewN ?_ _ | refine blk_drew ?_ | refine blk_alloc ?_ _)); refine blk_far ?_ NB730_734.out _; (with_reducible repeat (first | refine blk_drewN ?_ _ | refine blk_drew ?_ | refine blk_alloc ?_ _)); exact BK730.out⟩, ⟨by (with_reducible repeat (first | refine blk_drewN ?_ _ | refine blk_drew ?_ | refine blk_alloc ?_ _)); refine blk_put (cs := #[.int .i64 0, .int .i64 0]) ?_ 1 _ rfl; (with_reducible repeat (first | refine blk_drewN ?_ _ | refine blk_drew ?_ | refine blk_alloc ?_ _)); refine blk_put (cs := #[.int .i64 0, .int .i64 0]) ?_ 0 _ rfl; (with_reducible repeat (first | refine blk_drewN ?_ _ | refine blk_drew ?_ | refine blk_alloc ?_ _)); exact BK734.out⟩, ⟨by repeat (first | (with_reducible first | exact HB.out | apply below_alloc | apply pw_below_drewN | apply below_drew1 | refine below_set ?_ GE723.out | refine below_set ?_ GE730.out | refine below_set ?_ GE734.out) | exact HB.out)⟩⟩
    case round =>
     clear H'
     try clear c1
     try clear c2
     try clear p2
     try clear c3
     try clear c4
     try clear c17
     try clear c18
     try clear c20
     try clear c20b0
     try clear c20b1
     try clear c21
     try clear c21b0
     try clear c21b1
     try clear c22
     try clear c23
     try clear c25
     try clear c26
     try clear c26b0
     try clear c26b1
     try clear c27
     try clear c27b0
     try clear c27b1
     try clear c31
     try clear c32
     try clear hcz13_0
     try clear hcz13_1
     try clear hcz19_0
     try clear hcz19_1
     try clear hcz33_0
     try clear hcz33_1
     try clear hfz13_0
     try clear hfz13_1
     try clear hfz19_0
     try clear hfz19_1
     try clear hfz33_0
     try clear hfz33_1
     try clear p2
     obtain ⟨x65_2, x735000_2, x735001_2, rfl, HA, HK2, BK723, BK730, BK734, HB⟩ := hrel
     cases gk with
     | zero => exact absurd HA.out (by simp [comfitlaw04_PacketsRace.l0])
     | succ k2 =>
      have H := HA.out
      clear HA
      simp only [comfitlaw04_PacketsRace.l0] at H
      by_cases c34 : x65_2 < (l0.length : Int)
      ·rw [if_pos c34] at H
       have c34b0 : decide (x65_2 < (l0.length : Int)) = true := decide_eq_true c34
       clear c34
       by_cases c35 : 0 ≤ x65_2
       ·rw [if_pos c35] at H
        have c35b0 := eq_true c35
        have c35b1 : decide (0 ≤ x65_2) = true := decide_eq_true c35
        clear c35
        obtain ⟨ji36, hji36⟩ : ∃ j_ : Int, (shr .i64 (Go.bits .and .i64 a1 a2) x65_2) = j_ := ⟨_, rfl⟩
        replace H : (if (Go.bits .and .i64 (ji36) 1) = 0 then (comfitlaw04_PacketsRace.l0 k2 l0 a1 a2 (l0.length : Int) (wrap64 (x65_2 + 1)) t720 t721 t727 t728 x735000_2 x735001_2) else ((comfitlaw04_list.f l0).bind fun t735 => ((packets_Last.f k2 t735 (Go.bits .or .i64 a1 a2) x65_2).bind fun bt738 => (if bt738.2.2 = 0 then ((comfitlaw04_right.f bt738.1 bt738.2.1 1).bind fun t742 => (comfitlaw04_PacketsRace.j2 k2 l0 a1 a2 (l0.length : Int) x65_2 (!t742) t720 t721 t727 t728 x735000_2 x735001_2 bt738.1 bt738.2.1)) else (comfitlaw04_PacketsRace.j2 k2 l0 a1 a2 (l0.length : Int) x65_2 true t720 t721 t727 t728 x735000_2 x735001_2 bt738.1 bt738.2.1))))) = some r := by first | (rw [hji36] at H; exact H) | (simp only [hji36] at H ⊢; exact H)
        have hji36_ : ((Go.bits .and .i64 a1 a2) / 2 ^ min x65_2.toNat 64) = ji36 := hji36
        have hji36z : x65_2 ≤ 64 → ((Go.bits .and .i64 a1 a2) / 2 ^ x65_2.toNat) = ji36 := shr_small hji36
        by_cases c37 : (Go.bits .and .i64 (ji36) 1) = 0
        ·rw [if_pos c37] at H
         have c37b0 : ((Go.bits .and .i64 (ji36) 1) == 0) = true := beq_iff_eq.mpr c37
         have c37b1 : ((Go.bits .and .i64 (ji36) 1) != 0) = false := bne_eq_false_iff_eq.mpr c37
         clear c37
         have H' := Aside0.mk H
         clear H
         go_wp2
         go_roundg k2
         case measure => have := HJ7.out; have := HK2.out; omega
         case rel => exact ⟨(wrap64 (x65_2 + 1)), (x735000_2), (x735001_2), (by first | rfl | (simp; done) | (simp [*]; done)), H', ⟨by have := HJ7.out; have := HK2.out; omega⟩, ⟨by (with_reducible repeat (first | refine blk_drewN ?_ _ | refine blk_drew ?_ | refine blk_alloc ?_ _)); exact BK723.out⟩, ⟨by (with_reducible repeat (first | refine blk_drewN ?_ _ | refine blk_drew ?_ | refine blk_alloc ?_ _)); exact BK730.out⟩, ⟨by (with_reducible repeat (first | refine blk_drewN ?_ _ | refine blk_drew ?_ | refine blk_alloc ?_ _)); exact BK734.out⟩, ⟨by repeat (first | (with_reducible first | exact HB.out | apply below_alloc | apply pw_below_drewN | apply below_drew1 | refine below_set ?_ GE723.out | refine below_set ?_ GE730.out | refine below_set ?_ GE734.out) | exact HB.out)⟩⟩
        ·rw [if_neg c37] at H
         have c37b0 : ((Go.bits .and .i64 (ji36) 1) == 0) = false := beq_eq_false_iff_ne.mpr c37
         have c37b1 : ((Go.bits .and .i64 (ji36) 1) != 0) = true := bne_iff_ne.mpr c37
         replace H := Option.bind_eq_some_iff.mp H
         obtain ⟨t735, A380, H⟩ := H
         replace H : ((packets_Last.f k2 t735 (Go.bits .or .i64 a1 a2) x65_2).bind fun bt738 => (if bt738.2.2 = 0 then ((comfitlaw04_right.f bt738.1 bt738.2.1 1).bind fun t742 => (comfitlaw04_PacketsRace.j2 k2 l0 a1 a2 (l0.length : Int) x65_2 (!t742) t720 t721 t727 t728 x735000_2 x735001_2 bt738.1 bt738.2.1)) else (comfitlaw04_PacketsRace.j2 k2 l0 a1 a2 (l0.length : Int) x65_2 true t720 t721 t727 t728 x735000_2 x735001_2 bt738.1 bt738.2.1))) = some r := H
         have A38 := Aside0.mk A380
         clear A380
         replace H := Option.bind_eq_some_iff.mp H
         obtain ⟨⟨t738, t739, t740⟩, A390, H⟩ := H
         replace H : (if t740 = 0 then ((comfitlaw04_right.f t738 t739 1).bind fun t742 => (comfitlaw04_PacketsRace.j2 k2 l0 a1 a2 (l0.length : Int) x65_2 (!t742) t720 t721 t727 t728 x735000_2 x735001_2 t738 t739)) else (comfitlaw04_PacketsRace.j2 k2 l0 a1 a2 (l0.length : Int) x65_2 true t720 t721 t727 t728 x735000_2 x735001_2 t738 t739)) = some r := H
         have A39 := Aside0.mk A390
         clear A390
         have HC40 := Aside0.mk H
         clear H
         go_upto_region 11 with (first | ((with_reducible refine gate_callee (f := 22) rfl ?_); refine goesL_ (some 77) rfl rfl Try.func22 (by kernel_rfl) rfl #[.slice A0 l0.length c0] rfl al_ ?_; (with_reducible refine (comfitlaw04_list.calls _ _ l0 t735 _ ?side1 ?side2 A38.out).mono ?_); (case side1 => exact kc_ (Kd.C_below HR0.out HB.out)); (case side2 => exact HC0.out); rintro e w41 ⟨v736, rfl, ho0, hb⟩; refine ⟨_, rfl, ?_⟩; have n0_ := Aside0.mk (Kd.R_lower ho0 (below_size (hb_ HB.out))); have n1_ := Aside0.mk (bkb_ BK723.out hb); have n2_ := Aside0.mk (bkb_ BK730.out hb); have n3_ := Aside0.mk (bkb_ BK734.out hb); have n4_ := Aside0.mk (below_step (hb_ HB.out) hb); clear BK723; clear BK730; clear BK734; clear HB; have HO737 := n0_; have BK723 := n1_; have BK730 := n2_; have BK734 := n3_; have HB := n4_; clear n0_ n1_ n2_ n3_ n4_; (try clear hb); (try clear hb2); (try clear hk); (try clear hi); (try clear ho0); obtain ⟨Ao42, co42, eo42⟩ := Kd.R_slice HO737.out; subst eo42) | ((with_reducible refine gate_callee (f := 26) rfl ?_); refine goesL_ (some 82) rfl rfl Try.func26 (by kernel_rfl) rfl #[.slice Ao42 t735.length co42, .int .i64 (Go.bits .or .i64 a1 a2), .int .i64 x65_2] rfl al_ ?_; (with_reducible refine (packets_Last.calls k2 _ _ t735 (Go.bits .or .i64 a1 a2) x65_2 t738 t739 t740 _ ?side1 ?side2 A39.out).mono ?_); (case side1 => exact kc_ (Kd.R_reads' HO737.out).2.2); (case side2 => exact (Kd.R_reads' HO737.out).2.1); rintro e w43 ⟨rfl, hb⟩; refine ⟨_, rfl, ?_⟩; have n0_ := Aside0.mk (Kd.R_below (kr_ (HO737.out)) hb); have n1_ := Aside0.mk (bkb_ BK723.out hb); have n2_ := Aside0.mk (bkb_ BK730.out hb); have n3_ := Aside0.mk (bkb_ BK734.out hb); have n4_ := Aside0.mk (below_step (hb_ HB.out) hb); clear HO737; clear BK723; clear BK730; clear BK734; clear HB; have HO737 := n0_; have BK723 := n1_; have BK730 := n2_; have BK734 := n3_; have HB := n4_; clear n0_ n1_ n2_ n3_ n4_; (try clear hb); (try clear hb2); (try clear hk); (try clear hi)) | ((with_reducible refine gate_dst (N := 13) rfl ?_); refine box_event ?hg (N := 13) ?hd (cs := #[.int .i64 0, .int .i64 0]) (t := 25) ?hr ?_; (case hd => rfl); (case hg => rfl); (case hr => first | (go_simp; done) | (go_simp; rfl)); intro gb741 hg w44 hbox hb; have n0_ := Aside0.mk (Kd.R_below (kr_ (HO737.out)) hb); have n1_ := Aside0.mk (bkb_ BK723.out hb); have n2_ := Aside0.mk (bkb_ BK730.out hb); have n3_ := Aside0.mk (bkb_ BK734.out hb); have n4_ := Aside0.mk (below_step (hb_ HB.out) hb); have n5_ := Aside0.mk (hbox); have n6_ := Aside0.mk ((by rw [hg]; exact (below_size (hb_ HB.out)) : w.heap.size ≤ gb741)); have n7_ := Aside0.mk ((by rw [hg]; exact (below_size (hb_ HB.out)) : w.heap.size ≤ gb741)); have n8_ := Aside0.mk ((by rw [hg]; exact Nat.ne_of_lt (bkl_ BK723.out) : gb723 ≠ gb741)); have n9_ := Aside0.mk ((by rw [hg]; exact Nat.ne_of_gt (bkl_ BK723.out) : gb741 ≠ gb723)); have n10_ := Aside0.mk ((by rw [hg]; exact Nat.ne_of_lt (bkl_ BK730.out) : gb730 ≠ gb741)); have n11_ := Aside0.mk ((by rw [hg]; exact Nat.ne_of_gt (bkl_ BK730.out) : gb741 ≠ gb730)); have n12_ := Aside0.mk ((by rw [hg]; exact Nat.ne_of_lt (bkl_ BK734.out) : gb734 ≠ gb741)); have n13_ := Aside0.mk ((by rw [hg]; exact Nat.ne_of_gt (bkl_ BK734.out) : gb741 ≠ gb734)); clear HO737; clear BK723; clear BK730; clear BK734; clear HB; have HO737 := n0_; have BK723 := n1_; have BK730 := n2_; have BK734 := n3_; have HB := n4_; have BK741 := n5_; have GW741 := n6_; have GE741 := n7_; have NB723_741 := n8_; have NB741_723 := n9_; have NB730_741 := n10_; have NB741_730 := n11_; have NB734_741 := n12_; have NB741_734 := n13_; clear n0_ n1_ n2_ n3_ n4_ n5_ n6_ n7_ n8_ n9_ n10_ n11_ n12_ n13_; clear hb hbox hg; have hnb45 := NB741_723.out; have hnc45 := NB723_741.out; have hnb46 := NB741_730.out; have hnc46 := NB730_741.out; have hnb47 := NB741_734.out; have hnc47 := NB734_741.out; have hcz48_0 : w44.cell? ⟨gb741, 0, none⟩ = some (.int .i64 0) := (blk_cell BK741.out 0).trans rfl; have hcz48_1 : w44.cell? ⟨gb741, 1, none⟩ = some (.int .i64 0) := (blk_cell BK741.out 1).trans rfl; have hfz48_0 := blk_frozen BK741.out 0; have hfz48_1 := blk_frozen BK741.out 1))
         (try simp only [Act.put, List.setIfInBounds_toArray, List.set_cons_zero, List.set_cons_succ])
         go_cut [91] (fun v91 wc => ∃ (kq : Nat) (x91_39 : Bool), v91 = .bool x91_39 ∧ Aside0 (comfitlaw04_PacketsRace.j2 kq l0 a1 a2 (l0.length : Int) x65_2 x91_39 t720 t721 t727 t728 x735000_2 x735001_2 t738 t739 = some r) ∧ Aside0 (kq ≤ k2) ∧ Aside0 (wc.heap[gb723]? = some (.cells #[.int .i64 t720, .int .i64 t721] 25 (0, 0))) ∧ Aside0 (wc.heap[gb730]? = some (.cells #[.int .i64 t727, .int .i64 t728] 25 (0, 0))) ∧ Aside0 (wc.heap[gb734]? = some (.cells #[.int .i64 x735000_2, .int .i64 x735001_2] 25 (0, 0))) ∧ Aside0 (wc.heap[gb741]? = some (.cells #[.int .i64 t738, .int .i64 t739] 25 (0, 0))) ∧ Aside0 (Below w.heap.size w wc))
         case first =>
          have H := HC40.out
          clear HC40
          by_cases c49 : t740 = 0
          ·rw [if_pos c49] at H
           have c49b0 : (t740 == 0) = true := beq_iff_eq.mpr c49
           have c49b1 : (t740 != 0) = false := bne_eq_false_iff_eq.mpr c49
           clear c49
           (first | rw [c49b0] | (simp only [i64_w, i32_w]; rw [c49b0]) | skip)
           replace H := Option.bind_eq_some_iff.mp H
           obtain ⟨t742, A500, H⟩ := H
           replace H : (comfitlaw04_PacketsRace.j2 k2 l0 a1 a2 (l0.length : Int) x65_2 (!t742) t720 t721 t727 t728 x735000_2 x735001_2 t738 t739) = some r := H
           have A50 := Aside0.mk A500
           clear A500
           have H' := Aside0.mk H
           clear H
           have hnb51 := NB741_723.out
           have hnc51 := NB723_741.out
           have hnb52 := NB741_730.out
           have hnc52 := NB730_741.out
           have hnb53 := NB741_734.out
           have hnc53 := NB734_741.out
           have hcz54_0 : w44.cell? ⟨gb741, 0, none⟩ = some (.int .i64 0) := (blk_cell BK741.out 0).trans rfl
           have hcz54_1 : w44.cell? ⟨gb741, 1, none⟩ = some (.int .i64 0) := (blk_cell BK741.out 1).trans rfl
           have hfz54_0 := blk_frozen BK741.out 0
           have hfz54_1 := blk_frozen BK741.out 1
           go_wp2_with (first | (go_at_call 19; (with_reducible refine (comfitlaw04_right.calls t738 t739 1 t742 _ A50.out).mono ?_); rintro e w55 ⟨rfl, hb⟩; have n0_ := Aside0.mk (Kd.R_below (by (with_reducible repeat (first | apply Kd.R_alloc | apply Kd.R_drewN | apply Kd.R_drew)); exact (Kd.R_mono (Kd.R_far (p := ⟨gb741, 1, none⟩) (Kd.R_far (p := ⟨gb741, 0, none⟩) (Kd.R_types HO737.out BK741.out (by decide)) (fun _ hk => hk.2) (.int .i64 t738)) (fun _ hk => hk.2) (.int .i64 t739)) (fun _ h_ => h_.1))) hb); have n1_ := Aside0.mk (blk_below (g := gb723) (o := .cells #[.int .i64 t720, .int .i64 t721] 25 (0, 0)) (by (with_reducible repeat (first | refine blk_drewN ?_ _ | refine blk_drew ?_ | refine blk_alloc ?_ _)); refine blk_far ?_ NB723_741.out _; (with_reducible repeat (first | refine blk_drewN ?_ _ | refine blk_drew ?_ | refine blk_alloc ?_ _)); refine blk_far ?_ NB723_741.out _; (with_reducible repeat (first | refine blk_drewN ?_ _ | refine blk_drew ?_ | refine blk_alloc ?_ _)); exact BK723.out) hb); have n2_ := Aside0.mk (blk_below (g := gb730) (o := .cells #[.int .i64 t727, .int .i64 t728] 25 (0, 0)) (by (with_reducible repeat (first | refine blk_drewN ?_ _ | refine blk_drew ?_ | refine blk_alloc ?_ _)); refine blk_far ?_ NB730_741.out _; (with_reducible repeat (first | refine blk_drewN ?_ _ | refine blk_drew ?_ | refine blk_alloc ?_ _)); refine blk_far ?_ NB730_741.out _; (with_reducible repeat (first | refine blk_drewN ?_ _ | refine blk_drew ?_ | refine blk_alloc ?_ _)); exact BK730.out) hb); have n3_ := Aside0.mk (blk_below (g := gb734) (o := .cells #[.int .i64 x735000_2, .int .i64 x735001_2] 25 (0, 0)) (by (with_reducible repeat (first | refine blk_drewN ?_ _ | refine blk_drew ?_ | refine blk_alloc ?_ _)); refine blk_far ?_ NB734_741.out _; (with_reducible repeat (first | refine blk_drewN ?_ _ | refine blk_drew ?_ | refine blk_alloc ?_ _)); refine blk_far ?_ NB734_741.out _; (with_reducible repeat (first | refine blk_drewN ?_ _ | refine blk_drew ?_ | refine blk_alloc ?_ _)); exact BK734.out) hb); have n4_ := Aside0.mk (blk_below (g := gb741) (o := .cells #[.int .i64 t738, .int .i64 t739] 25 (0, 0)) (by (with_reducible repeat (first | refine blk_drewN ?_ _ | refine blk_drew ?_ | refine blk_alloc ?_ _)); refine blk_put (cs := #[.int .i64 t738, .int .i64 0]) ?_ 1 _ rfl; (with_reducible repeat (first | refine blk_drewN ?_ _ | refine blk_drew ?_ | refine blk_alloc ?_ _)); refine blk_put (cs := #[.int .i64 0, .int .i64 0]) ?_ 0 _ rfl; (with_reducible repeat (first | refine blk_drewN ?_ _ | refine blk_drew ?_ | refine blk_alloc ?_ _)); exact BK741.out) hb); have n5_ := Aside0.mk (below_step (hb_ HB.out) hb); clear HO737; clear BK723; clear BK730; clear BK734; clear BK741; clear HB; have HO737 := n0_; have BK723 := n1_; have BK730 := n2_; have BK734 := n3_; have BK741 := n4_; have HB := n5_; clear n0_ n1_ n2_ n3_ n4_ n5_; (try clear hb); (try clear hb2); (try clear hk); (try clear hi)))
           go_meet
           case rel => exact ⟨_, (!t742), (by first | rfl | (simp; done) | (simp [*]; done)), H', ⟨by have := HJ7.out; have := HK2.out; first | omega | exact Nat.le_refl _⟩, ⟨by (with_reducible repeat (first | refine blk_drewN ?_ _ | refine blk_drew ?_ | refine blk_alloc ?_ _)); exact BK723.out⟩, ⟨by (with_reducible repeat (first | refine blk_drewN ?_ _ | refine blk_drew ?_ | refine blk_alloc ?_ _)); exact BK730.out⟩, ⟨by (with_reducible repeat (first | refine blk_drewN ?_ _ | refine blk_drew ?_ | refine blk_alloc ?_ _)); exact BK734.out⟩, ⟨by (with_reducible repeat (first | refine blk_drewN ?_ _ | refine blk_drew ?_ | refine blk_alloc ?_ _)); exact BK741.out⟩, ⟨by repeat (first | (with_reducible first | exact HB.out | apply below_alloc | apply pw_below_drewN | apply below_drew1 | refine below_set ?_ GE723.out | refine below_set ?_ GE730.out | refine below_set ?_ GE734.out | refine below_set ?_ GE741.out) | exact HB.out)⟩⟩
          ·rw [if_neg c49] at H
           have c49b0 : (t740 == 0) = false := beq_eq_false_iff_ne.mpr c49
           have c49b1 : (t740 != 0) = true := bne_iff_ne.mpr c49
           (first | rw [c49b0] | (simp only [i64_w, i32_w]; rw [c49b0]) | skip)
           have H' := Aside0.mk H
           clear H
           go_wp2
           go_meet
           case rel => exact ⟨_, (true), (by first | rfl | (simp; done) | (simp [*]; done)), H', ⟨by have := HJ7.out; have := HK2.out; first | omega | exact Nat.le_refl _⟩, ⟨by (with_reducible repeat (first | refine blk_drewN ?_ _ | refine blk_drew ?_ | refine blk_alloc ?_ _)); refine blk_far ?_ NB723_741.out _; (with_reducible repeat (first | refine blk_drewN ?_ _ | refine blk_drew ?_ | refine blk_alloc ?_ _)); refine blk_far ?_ NB723_741.out _; (with_reducible repeat (first | refine blk_drewN ?_ _ | refine blk_drew ?_ | refine blk_alloc ?_ _)); exact BK723.out⟩, ⟨by (with_reducible repeat (first | refine blk_drewN ?_ _ | refine blk_drew ?_ | refine blk_alloc ?_ _)); refine blk_far ?_ NB730_741.out _; (with_reducible repeat (first | refine blk_drewN ?_ _ | refine blk_drew ?_ | refine blk_alloc ?_ _)); refine blk_far ?_ NB730_741.out _; (with_reducible repeat (first | refine blk_drewN ?_ _ | refine blk_drew ?_ | refine blk_alloc ?_ _)); exact BK730.out⟩, ⟨by (with_reducible repeat (first | refine blk_drewN ?_ _ | refine blk_drew ?_ | refine blk_alloc ?_ _)); refine blk_far ?_ NB734_741.out _; (with_reducible repeat (first | refine blk_drewN ?_ _ | refine blk_drew ?_ | refine blk_alloc ?_ _)); refine blk_far ?_ NB734_741.out _; (with_reducible repeat (first | refine blk_drewN ?_ _ | refine blk_drew ?_ | refine blk_alloc ?_ _)); exact BK734.out⟩, ⟨by (with_reducible repeat (first | refine blk_drewN ?_ _ | refine blk_drew ?_ | refine blk_alloc ?_ _)); refine blk_put (cs := #[.int .i64 t738, .int .i64 0]) ?_ 1 _ rfl; (with_reducible repeat (first | refine blk_drewN ?_ _ | refine blk_drew ?_ | refine blk_alloc ?_ _)); refine blk_put (cs := #[.int .i64 0, .int .i64 0]) ?_ 0 _ rfl; (with_reducible repeat (first | refine blk_drewN ?_ _ | refine blk_drew ?_ | refine blk_alloc ?_ _)); exact BK741.out⟩, ⟨by repeat (first | (with_reducible first | exact HB.out | apply below_alloc | apply pw_below_drewN | apply below_drew1 | refine below_set ?_ GE723.out | refine below_set ?_ GE730.out | refine below_set ?_ GE734.out | refine below_set ?_ GE741.out) | exact HB.out)⟩⟩
         case rest =>
          clear HC40
          try clear c1
          try clear c2
          try clear p2
          try clear c3
          try clear c4
          try clear c5
          try clear p6
          try clear c17
          try clear c18
          try clear c20
          try clear c20b0
          try clear c20b1
          try clear c21
          try clear c21b0
          try clear c21b1
          try clear c22
          try clear c23
          try clear c25
          try clear c26
          try clear c26b0
          try clear c26b1
          try clear c27
          try clear c27b0
          try clear c27b1
          try clear c31
          try clear c32
          try clear c34
          try clear c34b0
          try clear c35
          try clear c35b0
          try clear c35b1
          try clear c37
          try clear c37b0
          try clear c37b1
          try clear c41
          try clear c45
          try clear c46
          try clear c47
          try clear c49
          try clear c49b0
          try clear c49b1
          try clear c51
          try clear c52
          try clear c53
          try clear hcz13_0
          try clear hcz13_1
          try clear hcz19_0
          try clear hcz19_1
          try clear hcz33_0
          try clear hcz33_1
          try clear hcz48_0
          try clear hcz48_1
          try clear hcz54_0
          try clear hcz54_1
          try clear hfz13_0
          try clear hfz13_1
          try clear hfz19_0
          try clear hfz19_1
          try clear hfz33_0
          try clear hfz33_1
          try clear hfz48_0
          try clear hfz48_1
          try clear hfz54_0
          try clear hfz54_1
          try clear p2
          obtain ⟨kq, x91_39, rfl, HA, HJ39, BK723, BK730, BK734, BK741, HB⟩ := hcut
          cases kq with
          | zero => exact absurd HA.out (by simp [comfitlaw04_PacketsRace.j2])
          | succ kj39 =>
           have H := HA.out
           clear HA
           simp only [comfitlaw04_PacketsRace.j2] at H
           by_cases c56 : x91_39 = true
           ·subst c56
            have H1 : (some false) = some r := by rw [if_pos rfl] at H; exact H
            clear H
            have H := H1
            clear H1
            obtain rfl := Option.some.inj H
            go_wp2
            go_ret
            exact ⟨by first | rfl | (simp [errW_none, errW_some] <;> rfl) | (simp only [← hji36]; first | rfl | (simp [errW_none, errW_some] <;> rfl)) | (simp [*, errW_none, errW_some] <;> rfl), by repeat (first | (with_reducible first | exact HB.out | apply below_alloc | apply pw_below_drewN | apply below_drew1 | refine below_set ?_ GE723.out | refine below_set ?_ GE730.out | refine below_set ?_ GE734.out | refine below_set ?_ GE741.out) | exact HB.out)⟩
           ·replace c56 := Bool.eq_false_iff.mpr c56
            subst c56
            have H1 : ((comfitlaw04_added.f kj39 x735000_2 x735001_2 t738 t739 false).bind fun bt743 => (if bt743.2.2 = true then (comfitlaw04_PacketsRace.l0 kj39 l0 a1 a2 (l0.length : Int) (wrap64 (x65_2 + 1)) t720 t721 t727 t728 bt743.1 bt743.2.1) else (some false))) = some r := by rw [if_neg (show ¬ (false = true) by decide)] at H; exact H
            clear H
            have H := H1
            clear H1
            replace H := Option.bind_eq_some_iff.mp H
            obtain ⟨⟨t743, t744, t745⟩, A570, H⟩ := H
            replace H : (if t745 = true then (comfitlaw04_PacketsRace.l0 kj39 l0 a1 a2 (l0.length : Int) (wrap64 (x65_2 + 1)) t720 t721 t727 t728 t743 t744) else (some false)) = some r := H
            have A57 := Aside0.mk A570
            clear A570
            by_cases c58 : t745 = true
            ·subst c58
             have H1 : (comfitlaw04_PacketsRace.l0 kj39 l0 a1 a2 (l0.length : Int) (wrap64 (x65_2 + 1)) t720 t721 t727 t728 t743 t744) = some r := by rw [if_pos rfl] at H; exact H
             clear H
             have H := H1
             clear H1
             have H' := Aside0.mk H
             clear H
             have hnb59 := NB734_723.out
             have hnc59 := NB723_734.out
             have hnb60 := NB734_730.out
             have hnc60 := NB730_734.out
             have hnb61 := NB734_741.out
             have hnc61 := NB741_734.out
             have hcz62_0 : wc.cell? ⟨gb734, 0, none⟩ = some (.int .i64 x735000_2) := (blk_cell BK734.out 0).trans rfl
             have hcz62_1 : wc.cell? ⟨gb734, 1, none⟩ = some (.int .i64 x735001_2) := (blk_cell BK734.out 1).trans rfl
             have hfz62_0 := blk_frozen BK734.out 0
             have hfz62_1 := blk_frozen BK734.out 1
             have hnb63 := NB741_723.out
             have hnc63 := NB723_741.out
             have hnb64 := NB741_730.out
             have hnc64 := NB730_741.out
             have hcz65_0 : wc.cell? ⟨gb741, 0, none⟩ = some (.int .i64 t738) := (blk_cell BK741.out 0).trans rfl
             have hcz65_1 : wc.cell? ⟨gb741, 1, none⟩ = some (.int .i64 t739) := (blk_cell BK741.out 1).trans rfl
             have hfz65_0 := blk_frozen BK741.out 0
             have hfz65_1 := blk_frozen BK741.out 1
             go_wp2_with (first | ((with_reducible refine gate_callee (f := 24) rfl ?_); refine goesL_ (some 95) rfl rfl Try.func24 (by kernel_rfl) rfl #[.agg #[.int .i64 x735000_2, .int .i64 x735001_2], .agg #[.int .i64 t738, .int .i64 t739], .bool false] rfl al_ ?_; (with_reducible refine (comfitlaw04_added.calls kj39 x735000_2 x735001_2 t738 t739 false t743 t744 true _ A57.out).mono ?_); rintro e w66 ⟨rfl, hb⟩; refine ⟨_, rfl, ?_⟩; have n0_ := Aside0.mk (bkb_ BK723.out hb); have n1_ := Aside0.mk (bkb_ BK730.out hb); have n2_ := Aside0.mk (bkb_ BK734.out hb); have n3_ := Aside0.mk (bkb_ BK741.out hb); have n4_ := Aside0.mk (below_step (hb_ HB.out) hb); clear BK723; clear BK730; clear BK734; clear BK741; clear HB; have BK723 := n0_; have BK730 := n1_; have BK734 := n2_; have BK741 := n3_; have HB := n4_; clear n0_ n1_ n2_ n3_ n4_; (try clear hb); (try clear hb2); (try clear hk); (try clear hi); have hcz67_0 : w66.cell? ⟨gb734, 0, none⟩ = some (.int .i64 x735000_2) := (blk_cell BK734.out 0).trans rfl; have hcz67_1 : w66.cell? ⟨gb734, 1, none⟩ = some (.int .i64 x735001_2) := (blk_cell BK734.out 1).trans rfl; have hfz67_0 := blk_frozen BK734.out 0; have hfz67_1 := blk_frozen BK734.out 1))
             go_roundg kj39
             case measure => have := HJ7.out; have := HK2.out; have := HJ39.out; omega
             case rel => exact ⟨(wrap64 (x65_2 + 1)), (t743), (t744), (by first | rfl | (simp; done) | (simp [*]; done)), H', ⟨by have := HJ7.out; have := HK2.out; have := HJ39.out; omega⟩, ⟨by (with_reducible repeat (first | refine blk_drewN ?_ _ | refine blk_drew ?_ | refine blk_alloc ?_ _)); refine blk_far ?_ NB723_734.out _; (with_reducible repeat (first | refine blk_drewN ?_ _ | refine blk_drew ?_ | refine blk_alloc ?_ _)); refine blk_far ?_ NB723_734.out _; (with_reducible repeat (first | refine blk_drewN ?_ _ | refine blk_drew ?_ | refine blk_alloc ?_ _)); exact BK723.out⟩, ⟨by (with_reducible repeat (first | refine blk_drewN ?_ _ | refine blk_drew ?_ | refine blk_alloc ?_ _)); refine blk_far ?_ NB730_734.out _; (with_reducible repeat (first | refine blk_drewN ?_ _ | refine blk_drew ?_ | refine blk_alloc ?_ _)); refine blk_far ?_ NB730_734.out _; (with_reducible repeat (first | refine blk_drewN ?_ _ | refine blk_drew ?_ | refine blk_alloc ?_ _)); exact BK730.out⟩, ⟨by (with_reducible repeat (first | refine blk_drewN ?_ _ | refine blk_drew ?_ | refine blk_alloc ?_ _)); refine blk_put (cs := #[.int .i64 t743, .int .i64 x735001_2]) ?_ 1 _ rfl; (with_reducible repeat (first | refine blk_drewN ?_ _ | refine blk_drew ?_ | refine blk_alloc ?_ _)); refine blk_put (cs := #[.int .i64 x735000_2, .int .i64 x735001_2]) ?_ 0 _ rfl; (with_reducible repeat (first | refine blk_drewN ?_ _ | refine blk_drew ?_ | refine blk_alloc ?_ _)); exact BK734.out⟩, ⟨by repeat (first | (with_reducible first | exact HB.out | apply below_alloc | apply pw_below_drewN | apply below_drew1 | refine below_set ?_ GE723.out | refine below_set ?_ GE730.out | refine below_set ?_ GE734.out | refine below_set ?_ GE741.out) | exact HB.out)⟩⟩
            ·replace c58 := Bool.eq_false_iff.mpr c58
             subst c58
             have H1 : (some false) = some r := by rw [if_neg (show ¬ (false = true) by decide)] at H; exact H
             clear H
             have H := H1
             clear H1
             obtain rfl := Option.some.inj H
             have hnb68 := NB734_723.out
             have hnc68 := NB723_734.out
             have hnb69 := NB734_730.out
             have hnc69 := NB730_734.out
             have hnb70 := NB734_741.out
             have hnc70 := NB741_734.out
             have hcz71_0 : wc.cell? ⟨gb734, 0, none⟩ = some (.int .i64 x735000_2) := (blk_cell BK734.out 0).trans rfl
             have hcz71_1 : wc.cell? ⟨gb734, 1, none⟩ = some (.int .i64 x735001_2) := (blk_cell BK734.out 1).trans rfl
             have hfz71_0 := blk_frozen BK734.out 0
             have hfz71_1 := blk_frozen BK734.out 1
             have hnb72 := NB741_723.out
             have hnc72 := NB723_741.out
             have hnb73 := NB741_730.out
             have hnc73 := NB730_741.out
             have hcz74_0 : wc.cell? ⟨gb741, 0, none⟩ = some (.int .i64 t738) := (blk_cell BK741.out 0).trans rfl
             have hcz74_1 : wc.cell? ⟨gb741, 1, none⟩ = some (.int .i64 t739) := (blk_cell BK741.out 1).trans rfl
             have hfz74_0 := blk_frozen BK741.out 0
             have hfz74_1 := blk_frozen BK741.out 1
             go_wp2_with (first | ((with_reducible refine gate_callee (f := 24) rfl ?_); refine goesL_ (some 95) rfl rfl Try.func24 (by kernel_rfl) rfl #[.agg #[.int .i64 x735000_2, .int .i64 x735001_2], .agg #[.int .i64 t738, .int .i64 t739], .bool false] rfl al_ ?_; (with_reducible refine (comfitlaw04_added.calls kj39 x735000_2 x735001_2 t738 t739 false t743 t744 false _ A57.out).mono ?_); rintro e w75 ⟨rfl, hb⟩; refine ⟨_, rfl, ?_⟩; have n0_ := Aside0.mk (bkb_ BK723.out hb); have n1_ := Aside0.mk (bkb_ BK730.out hb); have n2_ := Aside0.mk (bkb_ BK734.out hb); have n3_ := Aside0.mk (bkb_ BK741.out hb); have n4_ := Aside0.mk (below_step (hb_ HB.out) hb); clear BK723; clear BK730; clear BK734; clear BK741; clear HB; have BK723 := n0_; have BK730 := n1_; have BK734 := n2_; have BK741 := n3_; have HB := n4_; clear n0_ n1_ n2_ n3_ n4_; (try clear hb); (try clear hb2); (try clear hk); (try clear hi); have hcz76_0 : w75.cell? ⟨gb734, 0, none⟩ = some (.int .i64 x735000_2) := (blk_cell BK734.out 0).trans rfl; have hcz76_1 : w75.cell? ⟨gb734, 1, none⟩ = some (.int .i64 x735001_2) := (blk_cell BK734.out 1).trans rfl; have hfz76_0 := blk_frozen BK734.out 0; have hfz76_1 := blk_frozen BK734.out 1))
             go_ret
             exact ⟨by first | rfl | (simp [errW_none, errW_some] <;> rfl) | (simp only [← hji36]; first | rfl | (simp [errW_none, errW_some] <;> rfl)) | (simp [*, errW_none, errW_some] <;> rfl), by repeat (first | (with_reducible first | exact HB.out | apply below_alloc | apply pw_below_drewN | apply below_drew1 | refine below_set ?_ GE723.out | refine below_set ?_ GE730.out | refine below_set ?_ GE734.out | refine below_set ?_ GE741.out) | exact HB.out)⟩
       ·rw [if_neg c35] at H
        exact absurd H (by simp)
      ·rw [if_neg c34] at H
       have c34b0 : decide (x65_2 < (l0.length : Int)) = false := decide_eq_false c34
       clear c34
       have HC77 := Aside0.mk H
       clear H
       go_upto_region 18 with (fail)
       go_cut [130] (fun v130 wc => ∃ (kq : Nat) (x130_76 : Bool), v130 = .bool x130_76 ∧ Aside0 (comfitlaw04_PacketsRace.j3 kq x130_76 t720 t721 t727 t728 x735000_2 x735001_2 = some r) ∧ Aside0 (kq ≤ k2) ∧ Aside0 (wc.heap[gb723]? = some (.cells #[.int .i64 t720, .int .i64 t721] 25 (0, 0))) ∧ Aside0 (wc.heap[gb730]? = some (.cells #[.int .i64 t727, .int .i64 t728] 25 (0, 0))) ∧ Aside0 (wc.heap[gb734]? = some (.cells #[.int .i64 x735000_2, .int .i64 x735001_2] 25 (0, 0))) ∧ Aside0 (Below w.heap.size w wc))
       case first =>
        have H := HC77.out
        clear HC77
        replace H := Option.bind_eq_some_iff.mp H
        obtain ⟨t746, A780, H⟩ := H
        replace H : (if t746 = true then ((comfitlaw04_right.f t727 t728 1).bind fun t747 => (if t747 = true then (if (Go.bits .andNot .i64 a2 a1) = 0 then (if t720 = 0 then (if (Go.bits .andNot .i64 a1 a2) = 0 then (comfitlaw04_PacketsRace.j3 k2 (t727 != 0) t720 t721 t727 t728 x735000_2 x735001_2) else (comfitlaw04_PacketsRace.j3 k2 false t720 t721 t727 t728 x735000_2 x735001_2)) else (comfitlaw04_PacketsRace.j3 k2 true t720 t721 t727 t728 x735000_2 x735001_2)) else (if (Go.bits .andNot .i64 a1 a2) = 0 then (comfitlaw04_PacketsRace.j3 k2 (t727 != 0) t720 t721 t727 t728 x735000_2 x735001_2) else (comfitlaw04_PacketsRace.j3 k2 false t720 t721 t727 t728 x735000_2 x735001_2))) else (comfitlaw04_PacketsRace.j3 k2 true t720 t721 t727 t728 x735000_2 x735001_2))) else (comfitlaw04_PacketsRace.j3 k2 true t720 t721 t727 t728 x735000_2 x735001_2)) = some r := H
        have A78 := Aside0.mk A780
        clear A780
        by_cases c79 : t746 = true
        ·subst c79
         have H1 : ((comfitlaw04_right.f t727 t728 1).bind fun t747 => (if t747 = true then (if (Go.bits .andNot .i64 a2 a1) = 0 then (if t720 = 0 then (if (Go.bits .andNot .i64 a1 a2) = 0 then (comfitlaw04_PacketsRace.j3 k2 (t727 != 0) t720 t721 t727 t728 x735000_2 x735001_2) else (comfitlaw04_PacketsRace.j3 k2 false t720 t721 t727 t728 x735000_2 x735001_2)) else (comfitlaw04_PacketsRace.j3 k2 true t720 t721 t727 t728 x735000_2 x735001_2)) else (if (Go.bits .andNot .i64 a1 a2) = 0 then (comfitlaw04_PacketsRace.j3 k2 (t727 != 0) t720 t721 t727 t728 x735000_2 x735001_2) else (comfitlaw04_PacketsRace.j3 k2 false t720 t721 t727 t728 x735000_2 x735001_2))) else (comfitlaw04_PacketsRace.j3 k2 true t720 t721 t727 t728 x735000_2 x735001_2))) = some r := by rw [if_pos rfl] at H; exact H
         clear H
         have H := H1
         clear H1
         replace H := Option.bind_eq_some_iff.mp H
         obtain ⟨t747, A800, H⟩ := H
         replace H : (if t747 = true then (if (Go.bits .andNot .i64 a2 a1) = 0 then (if t720 = 0 then (if (Go.bits .andNot .i64 a1 a2) = 0 then (comfitlaw04_PacketsRace.j3 k2 (t727 != 0) t720 t721 t727 t728 x735000_2 x735001_2) else (comfitlaw04_PacketsRace.j3 k2 false t720 t721 t727 t728 x735000_2 x735001_2)) else (comfitlaw04_PacketsRace.j3 k2 true t720 t721 t727 t728 x735000_2 x735001_2)) else (if (Go.bits .andNot .i64 a1 a2) = 0 then (comfitlaw04_PacketsRace.j3 k2 (t727 != 0) t720 t721 t727 t728 x735000_2 x735001_2) else (comfitlaw04_PacketsRace.j3 k2 false t720 t721 t727 t728 x735000_2 x735001_2))) else (comfitlaw04_PacketsRace.j3 k2 true t720 t721 t727 t728 x735000_2 x735001_2)) = some r := H
         have A80 := Aside0.mk A800
         clear A800
         by_cases c81 : t747 = true
         ·subst c81
          have H1 : (if (Go.bits .andNot .i64 a2 a1) = 0 then (if t720 = 0 then (if (Go.bits .andNot .i64 a1 a2) = 0 then (comfitlaw04_PacketsRace.j3 k2 (t727 != 0) t720 t721 t727 t728 x735000_2 x735001_2) else (comfitlaw04_PacketsRace.j3 k2 false t720 t721 t727 t728 x735000_2 x735001_2)) else (comfitlaw04_PacketsRace.j3 k2 true t720 t721 t727 t728 x735000_2 x735001_2)) else (if (Go.bits .andNot .i64 a1 a2) = 0 then (comfitlaw04_PacketsRace.j3 k2 (t727 != 0) t720 t721 t727 t728 x735000_2 x735001_2) else (comfitlaw04_PacketsRace.j3 k2 false t720 t721 t727 t728 x735000_2 x735001_2))) = some r := by rw [if_pos rfl] at H; exact H
          clear H
          have H := H1
          clear H1
          by_cases c82 : (Go.bits .andNot .i64 a2 a1) = 0
          ·rw [if_pos c82] at H
           have c82b0 : ((Go.bits .andNot .i64 a2 a1) == 0) = true := beq_iff_eq.mpr c82
           have c82b1 : ((Go.bits .andNot .i64 a2 a1) != 0) = false := bne_eq_false_iff_eq.mpr c82
           clear c82
           (first | rw [c82b0] | (simp only [i64_w, i32_w]; rw [c82b0]) | skip)
           by_cases c83 : t720 = 0
           ·rw [if_pos c83] at H
            have c83b0 : (t720 == 0) = true := beq_iff_eq.mpr c83
            have c83b1 : (t720 != 0) = false := bne_eq_false_iff_eq.mpr c83
            clear c83
            by_cases c84 : (Go.bits .andNot .i64 a1 a2) = 0
            ·rw [if_pos c84] at H
             have c84b0 : ((Go.bits .andNot .i64 a1 a2) == 0) = true := beq_iff_eq.mpr c84
             have c84b1 : ((Go.bits .andNot .i64 a1 a2) != 0) = false := bne_eq_false_iff_eq.mpr c84
             clear c84
             have H' := Aside0.mk H
             clear H
             have hnb85 := NB723_730.out
             have hnc85 := NB730_723.out
             have hnb86 := NB723_734.out
             have hnc86 := NB734_723.out
             have hcz87_0 : wr.cell? ⟨gb723, 0, none⟩ = some (.int .i64 t720) := (blk_cell BK723.out 0).trans rfl
             have hcz87_1 : wr.cell? ⟨gb723, 1, none⟩ = some (.int .i64 t721) := (blk_cell BK723.out 1).trans rfl
             have hfz87_0 := blk_frozen BK723.out 0
             have hfz87_1 := blk_frozen BK723.out 1
             go_wp2_with (first | ((with_reducible refine gate_callee (f := 19) rfl ?_); refine goesL_ (some 102) rfl rfl Try.func19 (by kernel_rfl) rfl #[.agg #[.int .i64 t720, .int .i64 t721], .int .i64 1] rfl al_ ?_; (with_reducible refine (comfitlaw04_right.calls t720 t721 1 true _ A78.out).mono ?_); rintro e w88 ⟨rfl, hb⟩; refine ⟨_, rfl, ?_⟩; have n0_ := Aside0.mk (bkb_ BK723.out hb); have n1_ := Aside0.mk (bkb_ BK730.out hb); have n2_ := Aside0.mk (bkb_ BK734.out hb); have n3_ := Aside0.mk (below_step (hb_ HB.out) hb); clear BK723; clear BK730; clear BK734; clear HB; have BK723 := n0_; have BK730 := n1_; have BK734 := n2_; have HB := n3_; clear n0_ n1_ n2_ n3_; (try clear hb); (try clear hb2); (try clear hk); (try clear hi); have hnb89 := NB730_734.out; have hnc89 := NB734_730.out; have hcz90_0 : w88.cell? ⟨gb730, 0, none⟩ = some (.int .i64 t727) := (blk_cell BK730.out 0).trans rfl; have hcz90_1 : w88.cell? ⟨gb730, 1, none⟩ = some (.int .i64 t728) := (blk_cell BK730.out 1).trans rfl; have hfz90_0 := blk_frozen BK730.out 0; have hfz90_1 := blk_frozen BK730.out 1) | (go_at_call 19; (with_reducible refine (comfitlaw04_right.calls t727 t728 1 true _ A80.out).mono ?_); rintro e w91 ⟨rfl, hb⟩; have n0_ := Aside0.mk (bkb_ BK723.out hb); have n1_ := Aside0.mk (bkb_ BK730.out hb); have n2_ := Aside0.mk (bkb_ BK734.out hb); have n3_ := Aside0.mk (below_step (hb_ HB.out) hb); clear BK723; clear BK730; clear BK734; clear HB; have BK723 := n0_; have BK730 := n1_; have BK734 := n2_; have HB := n3_; clear n0_ n1_ n2_ n3_; (try clear hb); (try clear hb2); (try clear hk); (try clear hi); have hcz92_0 : w91.cell? ⟨gb723, 0, none⟩ = some (.int .i64 t720) := (blk_cell BK723.out 0).trans rfl; have hcz92_1 : w91.cell? ⟨gb723, 1, none⟩ = some (.int .i64 t721) := (blk_cell BK723.out 1).trans rfl; have hfz92_0 := blk_frozen BK723.out 0; have hfz92_1 := blk_frozen BK723.out 1; have hcz93_0 : w91.cell? ⟨gb730, 0, none⟩ = some (.int .i64 t727) := (blk_cell BK730.out 0).trans rfl; have hcz93_1 : w91.cell? ⟨gb730, 1, none⟩ = some (.int .i64 t728) := (blk_cell BK730.out 1).trans rfl; have hfz93_0 := blk_frozen BK730.out 0; have hfz93_1 := blk_frozen BK730.out 1))
             go_meet
             case rel => exact ⟨_, ((t727 != 0)), (by first | rfl | (simp; done) | (simp [*]; done)), H', ⟨by have := HJ7.out; have := HK2.out; first | omega | exact Nat.le_refl _⟩, ⟨by (with_reducible repeat (first | refine blk_drewN ?_ _ | refine blk_drew ?_ | refine blk_alloc ?_ _)); exact BK723.out⟩, ⟨by (with_reducible repeat (first | refine blk_drewN ?_ _ | refine blk_drew ?_ | refine blk_alloc ?_ _)); exact BK730.out⟩, ⟨by (with_reducible repeat (first | refine blk_drewN ?_ _ | refine blk_drew ?_ | refine blk_alloc ?_ _)); exact BK734.out⟩, ⟨by repeat (first | (with_reducible first | exact HB.out | apply below_alloc | apply pw_below_drewN | apply below_drew1 | refine below_set ?_ GE723.out | refine below_set ?_ GE730.out | refine below_set ?_ GE734.out) | exact HB.out)⟩⟩
            ·rw [if_neg c84] at H
             have c84b0 : ((Go.bits .andNot .i64 a1 a2) == 0) = false := beq_eq_false_iff_ne.mpr c84
             have c84b1 : ((Go.bits .andNot .i64 a1 a2) != 0) = true := bne_iff_ne.mpr c84
             have H' := Aside0.mk H
             clear H
             have hnb94 := NB723_730.out
             have hnc94 := NB730_723.out
             have hnb95 := NB723_734.out
             have hnc95 := NB734_723.out
             have hcz96_0 : wr.cell? ⟨gb723, 0, none⟩ = some (.int .i64 t720) := (blk_cell BK723.out 0).trans rfl
             have hcz96_1 : wr.cell? ⟨gb723, 1, none⟩ = some (.int .i64 t721) := (blk_cell BK723.out 1).trans rfl
             have hfz96_0 := blk_frozen BK723.out 0
             have hfz96_1 := blk_frozen BK723.out 1
             go_wp2_with (first | ((with_reducible refine gate_callee (f := 19) rfl ?_); refine goesL_ (some 102) rfl rfl Try.func19 (by kernel_rfl) rfl #[.agg #[.int .i64 t720, .int .i64 t721], .int .i64 1] rfl al_ ?_; (with_reducible refine (comfitlaw04_right.calls t720 t721 1 true _ A78.out).mono ?_); rintro e w97 ⟨rfl, hb⟩; refine ⟨_, rfl, ?_⟩; have n0_ := Aside0.mk (bkb_ BK723.out hb); have n1_ := Aside0.mk (bkb_ BK730.out hb); have n2_ := Aside0.mk (bkb_ BK734.out hb); have n3_ := Aside0.mk (below_step (hb_ HB.out) hb); clear BK723; clear BK730; clear BK734; clear HB; have BK723 := n0_; have BK730 := n1_; have BK734 := n2_; have HB := n3_; clear n0_ n1_ n2_ n3_; (try clear hb); (try clear hb2); (try clear hk); (try clear hi); have hnb98 := NB730_734.out; have hnc98 := NB734_730.out; have hcz99_0 : w97.cell? ⟨gb730, 0, none⟩ = some (.int .i64 t727) := (blk_cell BK730.out 0).trans rfl; have hcz99_1 : w97.cell? ⟨gb730, 1, none⟩ = some (.int .i64 t728) := (blk_cell BK730.out 1).trans rfl; have hfz99_0 := blk_frozen BK730.out 0; have hfz99_1 := blk_frozen BK730.out 1) | (go_at_call 19; (with_reducible refine (comfitlaw04_right.calls t727 t728 1 true _ A80.out).mono ?_); rintro e w100 ⟨rfl, hb⟩; have n0_ := Aside0.mk (bkb_ BK723.out hb); have n1_ := Aside0.mk (bkb_ BK730.out hb); have n2_ := Aside0.mk (bkb_ BK734.out hb); have n3_ := Aside0.mk (below_step (hb_ HB.out) hb); clear BK723; clear BK730; clear BK734; clear HB; have BK723 := n0_; have BK730 := n1_; have BK734 := n2_; have HB := n3_; clear n0_ n1_ n2_ n3_; (try clear hb); (try clear hb2); (try clear hk); (try clear hi); have hcz101_0 : w100.cell? ⟨gb723, 0, none⟩ = some (.int .i64 t720) := (blk_cell BK723.out 0).trans rfl; have hcz101_1 : w100.cell? ⟨gb723, 1, none⟩ = some (.int .i64 t721) := (blk_cell BK723.out 1).trans rfl; have hfz101_0 := blk_frozen BK723.out 0; have hfz101_1 := blk_frozen BK723.out 1))
             go_meet
             case rel => exact ⟨_, (false), (by first | rfl | (simp; done) | (simp [*]; done)), H', ⟨by have := HJ7.out; have := HK2.out; first | omega | exact Nat.le_refl _⟩, ⟨by (with_reducible repeat (first | refine blk_drewN ?_ _ | refine blk_drew ?_ | refine blk_alloc ?_ _)); exact BK723.out⟩, ⟨by (with_reducible repeat (first | refine blk_drewN ?_ _ | refine blk_drew ?_ | refine blk_alloc ?_ _)); exact BK730.out⟩, ⟨by (with_reducible repeat (first | refine blk_drewN ?_ _ | refine blk_drew ?_ | refine blk_alloc ?_ _)); exact BK734.out⟩, ⟨by repeat (first | (with_reducible first | exact HB.out | apply below_alloc | apply pw_below_drewN | apply below_drew1 | refine below_set ?_ GE723.out | refine below_set ?_ GE730.out | refine below_set ?_ GE734.out) | exact HB.out)⟩⟩
           ·rw [if_neg c83] at H
            have c83b0 : (t720 == 0) = false := beq_eq_false_iff_ne.mpr c83
            have c83b1 : (t720 != 0) = true := bne_iff_ne.mpr c83
            have H' := Aside0.mk H
            clear H
            have hnb102 := NB723_730.out
            have hnc102 := NB730_723.out
            have hnb103 := NB723_734.out
            have hnc103 := NB734_723.out
            have hcz104_0 : wr.cell? ⟨gb723, 0, none⟩ = some (.int .i64 t720) := (blk_cell BK723.out 0).trans rfl
            have hcz104_1 : wr.cell? ⟨gb723, 1, none⟩ = some (.int .i64 t721) := (blk_cell BK723.out 1).trans rfl
            have hfz104_0 := blk_frozen BK723.out 0
            have hfz104_1 := blk_frozen BK723.out 1
            go_wp2_with (first | ((with_reducible refine gate_callee (f := 19) rfl ?_); refine goesL_ (some 102) rfl rfl Try.func19 (by kernel_rfl) rfl #[.agg #[.int .i64 t720, .int .i64 t721], .int .i64 1] rfl al_ ?_; (with_reducible refine (comfitlaw04_right.calls t720 t721 1 true _ A78.out).mono ?_); rintro e w105 ⟨rfl, hb⟩; refine ⟨_, rfl, ?_⟩; have n0_ := Aside0.mk (bkb_ BK723.out hb); have n1_ := Aside0.mk (bkb_ BK730.out hb); have n2_ := Aside0.mk (bkb_ BK734.out hb); have n3_ := Aside0.mk (below_step (hb_ HB.out) hb); clear BK723; clear BK730; clear BK734; clear HB; have BK723 := n0_; have BK730 := n1_; have BK734 := n2_; have HB := n3_; clear n0_ n1_ n2_ n3_; (try clear hb); (try clear hb2); (try clear hk); (try clear hi); have hnb106 := NB730_734.out; have hnc106 := NB734_730.out; have hcz107_0 : w105.cell? ⟨gb730, 0, none⟩ = some (.int .i64 t727) := (blk_cell BK730.out 0).trans rfl; have hcz107_1 : w105.cell? ⟨gb730, 1, none⟩ = some (.int .i64 t728) := (blk_cell BK730.out 1).trans rfl; have hfz107_0 := blk_frozen BK730.out 0; have hfz107_1 := blk_frozen BK730.out 1) | (go_at_call 19; (with_reducible refine (comfitlaw04_right.calls t727 t728 1 true _ A80.out).mono ?_); rintro e w108 ⟨rfl, hb⟩; have n0_ := Aside0.mk (bkb_ BK723.out hb); have n1_ := Aside0.mk (bkb_ BK730.out hb); have n2_ := Aside0.mk (bkb_ BK734.out hb); have n3_ := Aside0.mk (below_step (hb_ HB.out) hb); clear BK723; clear BK730; clear BK734; clear HB; have BK723 := n0_; have BK730 := n1_; have BK734 := n2_; have HB := n3_; clear n0_ n1_ n2_ n3_; (try clear hb); (try clear hb2); (try clear hk); (try clear hi); have hcz109_0 : w108.cell? ⟨gb723, 0, none⟩ = some (.int .i64 t720) := (blk_cell BK723.out 0).trans rfl; have hcz109_1 : w108.cell? ⟨gb723, 1, none⟩ = some (.int .i64 t721) := (blk_cell BK723.out 1).trans rfl; have hfz109_0 := blk_frozen BK723.out 0; have hfz109_1 := blk_frozen BK723.out 1))
            go_meet
            case rel => exact ⟨_, (true), (by first | rfl | (simp; done) | (simp [*]; done)), H', ⟨by have := HJ7.out; have := HK2.out; first | omega | exact Nat.le_refl _⟩, ⟨by (with_reducible repeat (first | refine blk_drewN ?_ _ | refine blk_drew ?_ | refine blk_alloc ?_ _)); exact BK723.out⟩, ⟨by (with_reducible repeat (first | refine blk_drewN ?_ _ | refine blk_drew ?_ | refine blk_alloc ?_ _)); exact BK730.out⟩, ⟨by (with_reducible repeat (first | refine blk_drewN ?_ _ | refine blk_drew ?_ | refine blk_alloc ?_ _)); exact BK734.out⟩, ⟨by repeat (first | (with_reducible first | exact HB.out | apply below_alloc | apply pw_below_drewN | apply below_drew1 | refine below_set ?_ GE723.out | refine below_set ?_ GE730.out | refine below_set ?_ GE734.out) | exact HB.out)⟩⟩
          ·rw [if_neg c82] at H
           have c82b0 : ((Go.bits .andNot .i64 a2 a1) == 0) = false := beq_eq_false_iff_ne.mpr c82
           have c82b1 : ((Go.bits .andNot .i64 a2 a1) != 0) = true := bne_iff_ne.mpr c82
           (first | rw [c82b0] | (simp only [i64_w, i32_w]; rw [c82b0]) | skip)
           by_cases c110 : (Go.bits .andNot .i64 a1 a2) = 0
           ·rw [if_pos c110] at H
            have c110b0 : ((Go.bits .andNot .i64 a1 a2) == 0) = true := beq_iff_eq.mpr c110
            have c110b1 : ((Go.bits .andNot .i64 a1 a2) != 0) = false := bne_eq_false_iff_eq.mpr c110
            clear c110
            have H' := Aside0.mk H
            clear H
            have hnb111 := NB723_730.out
            have hnc111 := NB730_723.out
            have hnb112 := NB723_734.out
            have hnc112 := NB734_723.out
            have hcz113_0 : wr.cell? ⟨gb723, 0, none⟩ = some (.int .i64 t720) := (blk_cell BK723.out 0).trans rfl
            have hcz113_1 : wr.cell? ⟨gb723, 1, none⟩ = some (.int .i64 t721) := (blk_cell BK723.out 1).trans rfl
            have hfz113_0 := blk_frozen BK723.out 0
            have hfz113_1 := blk_frozen BK723.out 1
            go_wp2_with (first | ((with_reducible refine gate_callee (f := 19) rfl ?_); refine goesL_ (some 102) rfl rfl Try.func19 (by kernel_rfl) rfl #[.agg #[.int .i64 t720, .int .i64 t721], .int .i64 1] rfl al_ ?_; (with_reducible refine (comfitlaw04_right.calls t720 t721 1 true _ A78.out).mono ?_); rintro e w114 ⟨rfl, hb⟩; refine ⟨_, rfl, ?_⟩; have n0_ := Aside0.mk (bkb_ BK723.out hb); have n1_ := Aside0.mk (bkb_ BK730.out hb); have n2_ := Aside0.mk (bkb_ BK734.out hb); have n3_ := Aside0.mk (below_step (hb_ HB.out) hb); clear BK723; clear BK730; clear BK734; clear HB; have BK723 := n0_; have BK730 := n1_; have BK734 := n2_; have HB := n3_; clear n0_ n1_ n2_ n3_; (try clear hb); (try clear hb2); (try clear hk); (try clear hi); have hnb115 := NB730_734.out; have hnc115 := NB734_730.out; have hcz116_0 : w114.cell? ⟨gb730, 0, none⟩ = some (.int .i64 t727) := (blk_cell BK730.out 0).trans rfl; have hcz116_1 : w114.cell? ⟨gb730, 1, none⟩ = some (.int .i64 t728) := (blk_cell BK730.out 1).trans rfl; have hfz116_0 := blk_frozen BK730.out 0; have hfz116_1 := blk_frozen BK730.out 1) | (go_at_call 19; (with_reducible refine (comfitlaw04_right.calls t727 t728 1 true _ A80.out).mono ?_); rintro e w117 ⟨rfl, hb⟩; have n0_ := Aside0.mk (bkb_ BK723.out hb); have n1_ := Aside0.mk (bkb_ BK730.out hb); have n2_ := Aside0.mk (bkb_ BK734.out hb); have n3_ := Aside0.mk (below_step (hb_ HB.out) hb); clear BK723; clear BK730; clear BK734; clear HB; have BK723 := n0_; have BK730 := n1_; have BK734 := n2_; have HB := n3_; clear n0_ n1_ n2_ n3_; (try clear hb); (try clear hb2); (try clear hk); (try clear hi); have hcz118_0 : w117.cell? ⟨gb730, 0, none⟩ = some (.int .i64 t727) := (blk_cell BK730.out 0).trans rfl; have hcz118_1 : w117.cell? ⟨gb730, 1, none⟩ = some (.int .i64 t728) := (blk_cell BK730.out 1).trans rfl; have hfz118_0 := blk_frozen BK730.out 0; have hfz118_1 := blk_frozen BK730.out 1))
            go_meet
            case rel => exact ⟨_, ((t727 != 0)), (by first | rfl | (simp; done) | (simp [*]; done)), H', ⟨by have := HJ7.out; have := HK2.out; first | omega | exact Nat.le_refl _⟩, ⟨by (with_reducible repeat (first | refine blk_drewN ?_ _ | refine blk_drew ?_ | refine blk_alloc ?_ _)); exact BK723.out⟩, ⟨by (with_reducible repeat (first | refine blk_drewN ?_ _ | refine blk_drew ?_ | refine blk_alloc ?_ _)); exact BK730.out⟩, ⟨by (with_reducible repeat (first | refine blk_drewN ?_ _ | refine blk_drew ?_ | refine blk_alloc ?_ _)); exact BK734.out⟩, ⟨by repeat (first | (with_reducible first | exact HB.out | apply below_alloc | apply pw_below_drewN | apply below_drew1 | refine below_set ?_ GE723.out | refine below_set ?_ GE730.out | refine below_set ?_ GE734.out) | exact HB.out)⟩⟩
           ·rw [if_neg c110] at H
            have c110b0 : ((Go.bits .andNot .i64 a1 a2) == 0) = false := beq_eq_false_iff_ne.mpr c110
            have c110b1 : ((Go.bits .andNot .i64 a1 a2) != 0) = true := bne_iff_ne.mpr c110
            have H' := Aside0.mk H
            clear H
            have hnb119 := NB723_730.out
            have hnc119 := NB730_723.out
            have hnb120 := NB723_734.out
            have hnc120 := NB734_723.out
            have hcz121_0 : wr.cell? ⟨gb723, 0, none⟩ = some (.int .i64 t720) := (blk_cell BK723.out 0).trans rfl
            have hcz121_1 : wr.cell? ⟨gb723, 1, none⟩ = some (.int .i64 t721) := (blk_cell BK723.out 1).trans rfl
            have hfz121_0 := blk_frozen BK723.out 0
            have hfz121_1 := blk_frozen BK723.out 1
            go_wp2_with (first | ((with_reducible refine gate_callee (f := 19) rfl ?_); refine goesL_ (some 102) rfl rfl Try.func19 (by kernel_rfl) rfl #[.agg #[.int .i64 t720, .int .i64 t721], .int .i64 1] rfl al_ ?_; (with_reducible refine (comfitlaw04_right.calls t720 t721 1 true _ A78.out).mono ?_); rintro e w122 ⟨rfl, hb⟩; refine ⟨_, rfl, ?_⟩; have n0_ := Aside0.mk (bkb_ BK723.out hb); have n1_ := Aside0.mk (bkb_ BK730.out hb); have n2_ := Aside0.mk (bkb_ BK734.out hb); have n3_ := Aside0.mk (below_step (hb_ HB.out) hb); clear BK723; clear BK730; clear BK734; clear HB; have BK723 := n0_; have BK730 := n1_; have BK734 := n2_; have HB := n3_; clear n0_ n1_ n2_ n3_; (try clear hb); (try clear hb2); (try clear hk); (try clear hi); have hnb123 := NB730_734.out; have hnc123 := NB734_730.out; have hcz124_0 : w122.cell? ⟨gb730, 0, none⟩ = some (.int .i64 t727) := (blk_cell BK730.out 0).trans rfl; have hcz124_1 : w122.cell? ⟨gb730, 1, none⟩ = some (.int .i64 t728) := (blk_cell BK730.out 1).trans rfl; have hfz124_0 := blk_frozen BK730.out 0; have hfz124_1 := blk_frozen BK730.out 1) | (go_at_call 19; (with_reducible refine (comfitlaw04_right.calls t727 t728 1 true _ A80.out).mono ?_); rintro e w125 ⟨rfl, hb⟩; have n0_ := Aside0.mk (bkb_ BK723.out hb); have n1_ := Aside0.mk (bkb_ BK730.out hb); have n2_ := Aside0.mk (bkb_ BK734.out hb); have n3_ := Aside0.mk (below_step (hb_ HB.out) hb); clear BK723; clear BK730; clear BK734; clear HB; have BK723 := n0_; have BK730 := n1_; have BK734 := n2_; have HB := n3_; clear n0_ n1_ n2_ n3_; (try clear hb); (try clear hb2); (try clear hk); (try clear hi)))
            go_meet
            case rel => exact ⟨_, (false), (by first | rfl | (simp; done) | (simp [*]; done)), H', ⟨by have := HJ7.out; have := HK2.out; first | omega | exact Nat.le_refl _⟩, ⟨by (with_reducible repeat (first | refine blk_drewN ?_ _ | refine blk_drew ?_ | refine blk_alloc ?_ _)); exact BK723.out⟩, ⟨by (with_reducible repeat (first | refine blk_drewN ?_ _ | refine blk_drew ?_ | refine blk_alloc ?_ _)); exact BK730.out⟩, ⟨by (with_reducible repeat (first | refine blk_drewN ?_ _ | refine blk_drew ?_ | refine blk_alloc ?_ _)); exact BK734.out⟩, ⟨by repeat (first | (with_reducible first | exact HB.out | apply below_alloc | apply pw_below_drewN | apply below_drew1 | refine below_set ?_ GE723.out | refine below_set ?_ GE730.out | refine below_set ?_ GE734.out) | exact HB.out)⟩⟩
         ·replace c81 := Bool.eq_false_iff.mpr c81
          subst c81
          have H1 : (comfitlaw04_PacketsRace.j3 k2 true t720 t721 t727 t728 x735000_2 x735001_2) = some r := by rw [if_neg (show ¬ (false = true) by decide)] at H; exact H
          clear H
          have H := H1
          clear H1
          have H' := Aside0.mk H
          clear H
          have hnb126 := NB723_730.out
          have hnc126 := NB730_723.out
          have hnb127 := NB723_734.out
          have hnc127 := NB734_723.out
          have hcz128_0 : wr.cell? ⟨gb723, 0, none⟩ = some (.int .i64 t720) := (blk_cell BK723.out 0).trans rfl
          have hcz128_1 : wr.cell? ⟨gb723, 1, none⟩ = some (.int .i64 t721) := (blk_cell BK723.out 1).trans rfl
          have hfz128_0 := blk_frozen BK723.out 0
          have hfz128_1 := blk_frozen BK723.out 1
          go_wp2_with (first | ((with_reducible refine gate_callee (f := 19) rfl ?_); refine goesL_ (some 102) rfl rfl Try.func19 (by kernel_rfl) rfl #[.agg #[.int .i64 t720, .int .i64 t721], .int .i64 1] rfl al_ ?_; (with_reducible refine (comfitlaw04_right.calls t720 t721 1 true _ A78.out).mono ?_); rintro e w129 ⟨rfl, hb⟩; refine ⟨_, rfl, ?_⟩; have n0_ := Aside0.mk (bkb_ BK723.out hb); have n1_ := Aside0.mk (bkb_ BK730.out hb); have n2_ := Aside0.mk (bkb_ BK734.out hb); have n3_ := Aside0.mk (below_step (hb_ HB.out) hb); clear BK723; clear BK730; clear BK734; clear HB; have BK723 := n0_; have BK730 := n1_; have BK734 := n2_; have HB := n3_; clear n0_ n1_ n2_ n3_; (try clear hb); (try clear hb2); (try clear hk); (try clear hi); have hnb130 := NB730_734.out; have hnc130 := NB734_730.out; have hcz131_0 : w129.cell? ⟨gb730, 0, none⟩ = some (.int .i64 t727) := (blk_cell BK730.out 0).trans rfl; have hcz131_1 : w129.cell? ⟨gb730, 1, none⟩ = some (.int .i64 t728) := (blk_cell BK730.out 1).trans rfl; have hfz131_0 := blk_frozen BK730.out 0; have hfz131_1 := blk_frozen BK730.out 1) | (go_at_call 19; (with_reducible refine (comfitlaw04_right.calls t727 t728 1 false _ A80.out).mono ?_); rintro e w132 ⟨rfl, hb⟩; have n0_ := Aside0.mk (bkb_ BK723.out hb); have n1_ := Aside0.mk (bkb_ BK730.out hb); have n2_ := Aside0.mk (bkb_ BK734.out hb); have n3_ := Aside0.mk (below_step (hb_ HB.out) hb); clear BK723; clear BK730; clear BK734; clear HB; have BK723 := n0_; have BK730 := n1_; have BK734 := n2_; have HB := n3_; clear n0_ n1_ n2_ n3_; (try clear hb); (try clear hb2); (try clear hk); (try clear hi)))
          go_meet
          case rel => exact ⟨_, (true), (by first | rfl | (simp; done) | (simp [*]; done)), H', ⟨by have := HJ7.out; have := HK2.out; first | omega | exact Nat.le_refl _⟩, ⟨by (with_reducible repeat (first | refine blk_drewN ?_ _ | refine blk_drew ?_ | refine blk_alloc ?_ _)); exact BK723.out⟩, ⟨by (with_reducible repeat (first | refine blk_drewN ?_ _ | refine blk_drew ?_ | refine blk_alloc ?_ _)); exact BK730.out⟩, ⟨by (with_reducible repeat (first | refine blk_drewN ?_ _ | refine blk_drew ?_ | refine blk_alloc ?_ _)); exact BK734.out⟩, ⟨by repeat (first | (with_reducible first | exact HB.out | apply below_alloc | apply pw_below_drewN | apply below_drew1 | refine below_set ?_ GE723.out | refine below_set ?_ GE730.out | refine below_set ?_ GE734.out) | exact HB.out)⟩⟩
        ·replace c79 := Bool.eq_false_iff.mpr c79
         subst c79
         have H1 : (comfitlaw04_PacketsRace.j3 k2 true t720 t721 t727 t728 x735000_2 x735001_2) = some r := by rw [if_neg (show ¬ (false = true) by decide)] at H; exact H
         clear H
         have H := H1
         clear H1
         have H' := Aside0.mk H
         clear H
         have hnb133 := NB723_730.out
         have hnc133 := NB730_723.out
         have hnb134 := NB723_734.out
         have hnc134 := NB734_723.out
         have hcz135_0 : wr.cell? ⟨gb723, 0, none⟩ = some (.int .i64 t720) := (blk_cell BK723.out 0).trans rfl
         have hcz135_1 : wr.cell? ⟨gb723, 1, none⟩ = some (.int .i64 t721) := (blk_cell BK723.out 1).trans rfl
         have hfz135_0 := blk_frozen BK723.out 0
         have hfz135_1 := blk_frozen BK723.out 1
         go_wp2_with (first | ((with_reducible refine gate_callee (f := 19) rfl ?_); refine goesL_ (some 102) rfl rfl Try.func19 (by kernel_rfl) rfl #[.agg #[.int .i64 t720, .int .i64 t721], .int .i64 1] rfl al_ ?_; (with_reducible refine (comfitlaw04_right.calls t720 t721 1 false _ A78.out).mono ?_); rintro e w136 ⟨rfl, hb⟩; refine ⟨_, rfl, ?_⟩; have n0_ := Aside0.mk (bkb_ BK723.out hb); have n1_ := Aside0.mk (bkb_ BK730.out hb); have n2_ := Aside0.mk (bkb_ BK734.out hb); have n3_ := Aside0.mk (below_step (hb_ HB.out) hb); clear BK723; clear BK730; clear BK734; clear HB; have BK723 := n0_; have BK730 := n1_; have BK734 := n2_; have HB := n3_; clear n0_ n1_ n2_ n3_; (try clear hb); (try clear hb2); (try clear hk); (try clear hi)))
         go_meet
         case rel => exact ⟨_, (true), (by first | rfl | (simp; done) | (simp [*]; done)), H', ⟨by have := HJ7.out; have := HK2.out; first | omega | exact Nat.le_refl _⟩, ⟨by (with_reducible repeat (first | refine blk_drewN ?_ _ | refine blk_drew ?_ | refine blk_alloc ?_ _)); exact BK723.out⟩, ⟨by (with_reducible repeat (first | refine blk_drewN ?_ _ | refine blk_drew ?_ | refine blk_alloc ?_ _)); exact BK730.out⟩, ⟨by (with_reducible repeat (first | refine blk_drewN ?_ _ | refine blk_drew ?_ | refine blk_alloc ?_ _)); exact BK734.out⟩, ⟨by repeat (first | (with_reducible first | exact HB.out | apply below_alloc | apply pw_below_drewN | apply below_drew1 | refine below_set ?_ GE723.out | refine below_set ?_ GE730.out | refine below_set ?_ GE734.out) | exact HB.out)⟩⟩
       case rest =>
        clear HC77
        try clear c1
        try clear c2
        try clear p2
        try clear c3
        try clear c4
        try clear c5
        try clear c6
        try clear p6
        try clear c7
        try clear c8
        try clear c9
        try clear c10
        try clear c11
        try clear c12
        try clear c13
        try clear c17
        try clear c18
        try clear c19
        try clear c20
        try clear c20b0
        try clear c20b1
        try clear c21
        try clear c21b0
        try clear c21b1
        try clear c22
        try clear c23
        try clear c24
        try clear c25
        try clear c26
        try clear c26b0
        try clear c26b1
        try clear c27
        try clear c27b0
        try clear c27b1
        try clear c31
        try clear c32
        try clear c34
        try clear c34b0
        try clear c35
        try clear c35b0
        try clear c35b1
        try clear c37
        try clear c37b0
        try clear c37b1
        try clear c41
        try clear c45
        try clear c46
        try clear c47
        try clear c49
        try clear c49b0
        try clear c49b1
        try clear c51
        try clear c52
        try clear c53
        try clear c56
        try clear c58
        try clear c59
        try clear c60
        try clear c61
        try clear c63
        try clear c64
        try clear p64
        try clear c68
        try clear c69
        try clear c70
        try clear c72
        try clear c73
        try clear c79
        try clear c81
        try clear c82
        try clear c82b0
        try clear c82b1
        try clear c83
        try clear c83b0
        try clear c83b1
        try clear c84
        try clear c84b0
        try clear c84b1
        try clear c85
        try clear c86
        try clear c89
        try clear c94
        try clear c95
        try clear c98
        try clear c102
        try clear c103
        try clear c106
        try clear c110
        try clear c110b0
        try clear c110b1
        try clear c111
        try clear c112
        try clear c115
        try clear c119
        try clear c120
        try clear c123
        try clear c126
        try clear c127
        try clear c130
        try clear c133
        try clear c134
        try clear hcz101_0
        try clear hcz101_1
        try clear hcz104_0
        try clear hcz104_1
        try clear hcz107_0
        try clear hcz107_1
        try clear hcz109_0
        try clear hcz109_1
        try clear hcz113_0
        try clear hcz113_1
        try clear hcz116_0
        try clear hcz116_1
        try clear hcz118_0
        try clear hcz118_1
        try clear hcz121_0
        try clear hcz121_1
        try clear hcz124_0
        try clear hcz124_1
        try clear hcz128_0
        try clear hcz128_1
        try clear hcz131_0
        try clear hcz131_1
        try clear hcz135_0
        try clear hcz135_1
        try clear hcz13_0
        try clear hcz13_1
        try clear hcz19_0
        try clear hcz19_1
        try clear hcz33_0
        try clear hcz33_1
        try clear hcz48_0
        try clear hcz48_1
        try clear hcz54_0
        try clear hcz54_1
        try clear hcz62_0
        try clear hcz62_1
        try clear hcz65_0
        try clear hcz65_1
        try clear hcz67_0
        try clear hcz67_1
        try clear hcz71_0
        try clear hcz71_1
        try clear hcz74_0
        try clear hcz74_1
        try clear hcz76_0
        try clear hcz76_1
        try clear hcz87_0
        try clear hcz87_1
        try clear hcz90_0
        try clear hcz90_1
        try clear hcz92_0
        try clear hcz92_1
        try clear hcz93_0
        try clear hcz93_1
        try clear hcz96_0
        try clear hcz96_1
        try clear hcz99_0
        try clear hcz99_1
        try clear hfz101_0
        try clear hfz101_1
        try clear hfz104_0
        try clear hfz104_1
        try clear hfz107_0
        try clear hfz107_1
        try clear hfz109_0
        try clear hfz109_1
        try clear hfz113_0
        try clear hfz113_1
        try clear hfz116_0
        try clear hfz116_1
        try clear hfz118_0
        try clear hfz118_1
        try clear hfz121_0
        try clear hfz121_1
        try clear hfz124_0
        try clear hfz124_1
        try clear hfz128_0
        try clear hfz128_1
        try clear hfz131_0
        try clear hfz131_1
        try clear hfz135_0
        try clear hfz135_1
        try clear hfz13_0
        try clear hfz13_1
        try clear hfz19_0
        try clear hfz19_1
        try clear hfz33_0
        try clear hfz33_1
        try clear hfz48_0
        try clear hfz48_1
        try clear hfz54_0
        try clear hfz54_1
        try clear hfz62_0
        try clear hfz62_1
        try clear hfz65_0
        try clear hfz65_1
        try clear hfz67_0
        try clear hfz67_1
        try clear hfz71_0
        try clear hfz71_1
        try clear hfz74_0
        try clear hfz74_1
        try clear hfz76_0
        try clear hfz76_1
        try clear hfz87_0
        try clear hfz87_1
        try clear hfz90_0
        try clear hfz90_1
        try clear hfz92_0
        try clear hfz92_1
        try clear hfz93_0
        try clear hfz93_1
        try clear hfz96_0
        try clear hfz96_1
        try clear hfz99_0
        try clear hfz99_1
        try clear p2
        try clear p6
        obtain ⟨kq, x130_76, rfl, HA, HJ76, BK723, BK730, BK734, HB⟩ := hcut
        cases kq with
        | zero => exact absurd HA.out (by simp [comfitlaw04_PacketsRace.j3])
        | succ kj76 =>
         have H := HA.out
         clear HA
         simp only [comfitlaw04_PacketsRace.j3] at H
         by_cases c137 : x130_76 = true
         ·subst c137
          have H1 : (some false) = some r := by rw [if_pos rfl] at H; exact H
          clear H
          have H := H1
          clear H1
          obtain rfl := Option.some.inj H
          go_wp2
          go_ret
          exact ⟨by first | rfl | (simp [errW_none, errW_some] <;> rfl) | (simp [*, errW_none, errW_some] <;> rfl), by repeat (first | (with_reducible first | exact HB.out | apply below_alloc | apply pw_below_drewN | apply below_drew1 | refine below_set ?_ GE723.out | refine below_set ?_ GE730.out | refine below_set ?_ GE734.out) | exact HB.out)⟩
         ·replace c137 := Bool.eq_false_iff.mpr c137
          subst c137
          have H1 : ((comfitlaw04_added.f kj76 t720 t721 t727 t728 false).bind fun bt748 => (if bt748.2.2 = true then ((comfitlaw04_added.f kj76 bt748.1 bt748.2.1 x735000_2 x735001_2 false).bind fun bt752 => (if bt752.2.2 = true then (if (bt752.1 == 1 && (bt752.2.1 == 1)) = true then ((comfitlaw04_awake.f kj76).bind fun t755 => (some t755)) else (some false)) else (some false))) else (some false))) = some r := by rw [if_neg (show ¬ (false = true) by decide)] at H; exact H
          clear H
          have H := H1
          clear H1
          replace H := Option.bind_eq_some_iff.mp H
          obtain ⟨⟨t748, t749, t750⟩, A1380, H⟩ := H
          replace H : (if t750 = true then ((comfitlaw04_added.f kj76 t748 t749 x735000_2 x735001_2 false).bind fun bt752 => (if bt752.2.2 = true then (if (bt752.1 == 1 && (bt752.2.1 == 1)) = true then ((comfitlaw04_awake.f kj76).bind fun t755 => (some t755)) else (some false)) else (some false))) else (some false)) = some r := H
          have A138 := Aside0.mk A1380
          clear A1380
          by_cases c139 : t750 = true
          ·subst c139
           have H1 : ((comfitlaw04_added.f kj76 t748 t749 x735000_2 x735001_2 false).bind fun bt752 => (if bt752.2.2 = true then (if (bt752.1 == 1 && (bt752.2.1 == 1)) = true then ((comfitlaw04_awake.f kj76).bind fun t755 => (some t755)) else (some false)) else (some false))) = some r := by rw [if_pos rfl] at H; exact H
           clear H
           have H := H1
           clear H1
           replace H := Option.bind_eq_some_iff.mp H
           obtain ⟨⟨t752, t753, t754⟩, A1400, H⟩ := H
           replace H : (if t754 = true then (if (t752 == 1 && (t753 == 1)) = true then ((comfitlaw04_awake.f kj76).bind fun t755 => (some t755)) else (some false)) else (some false)) = some r := H
           have A140 := Aside0.mk A1400
           clear A1400
           by_cases c141 : t754 = true
           ·subst c141
            have H1 : (if (t752 == 1 && (t753 == 1)) = true then ((comfitlaw04_awake.f kj76).bind fun t755 => (some t755)) else (some false)) = some r := by rw [if_pos rfl] at H; exact H
            clear H
            have H := H1
            clear H1
            by_cases c142 : (t752 == 1 && (t753 == 1)) = true
            ·rw [if_pos c142] at H
             have c142b0 : (t752 == 1 && (t753 == 1)) = true := c142
             (try (have c142b1 : decide (t752 = 1 && (t753 == 1)) = true := by simpa using c142))
             (try (have c142b2 : (t752 == 1 && (t753 == 1)) = true := by simpa using c142))
             clear c142
             replace H := Option.bind_eq_some_iff.mp H
             obtain ⟨t755, A1430, H⟩ := H
             replace H : (some t755) = some r := H
             have A143 := Aside0.mk A1430
             clear A1430
             obtain rfl := Option.some.inj H
             have hnb144 := NB723_730.out
             have hnc144 := NB730_723.out
             have hnb145 := NB723_734.out
             have hnc145 := NB734_723.out
             have hcz146_0 : wc.cell? ⟨gb723, 0, none⟩ = some (.int .i64 t720) := (blk_cell BK723.out 0).trans rfl
             have hcz146_1 : wc.cell? ⟨gb723, 1, none⟩ = some (.int .i64 t721) := (blk_cell BK723.out 1).trans rfl
             have hfz146_0 := blk_frozen BK723.out 0
             have hfz146_1 := blk_frozen BK723.out 1
             have hnb147 := NB730_734.out
             have hnc147 := NB734_730.out
             have hcz148_0 : wc.cell? ⟨gb730, 0, none⟩ = some (.int .i64 t727) := (blk_cell BK730.out 0).trans rfl
             have hcz148_1 : wc.cell? ⟨gb730, 1, none⟩ = some (.int .i64 t728) := (blk_cell BK730.out 1).trans rfl
             have hfz148_0 := blk_frozen BK730.out 0
             have hfz148_1 := blk_frozen BK730.out 1
             go_wp2_with (first | ((with_reducible refine gate_callee (f := 24) rfl ?_); refine goesL_ (some 134) rfl rfl Try.func24 (by kernel_rfl) rfl #[.agg #[.int .i64 t720, .int .i64 t721], .agg #[.int .i64 t727, .int .i64 t728], .bool false] rfl al_ ?_; (with_reducible refine (comfitlaw04_added.calls kj76 t720 t721 t727 t728 false t748 t749 true _ A138.out).mono ?_); rintro e w149 ⟨rfl, hb⟩; refine ⟨_, rfl, ?_⟩; have n0_ := Aside0.mk (bkb_ BK723.out hb); have n1_ := Aside0.mk (bkb_ BK730.out hb); have n2_ := Aside0.mk (bkb_ BK734.out hb); have n3_ := Aside0.mk (below_step (hb_ HB.out) hb); clear BK723; clear BK730; clear BK734; clear HB; have BK723 := n0_; have BK730 := n1_; have BK734 := n2_; have HB := n3_; clear n0_ n1_ n2_ n3_; (try clear hb); (try clear hb2); (try clear hk); (try clear hi)) | ((with_reducible refine gate_dst (N := 16) rfl ?_); refine box_event ?hg (N := 16) ?hd (cs := #[.int .i64 0, .int .i64 0]) (t := 25) ?hr ?_; (case hd => rfl); (case hg => rfl); (case hr => first | (go_simp; done) | (go_simp; rfl)); intro gb751 hg w150 hbox hb; have n0_ := Aside0.mk (bkb_ BK723.out hb); have n1_ := Aside0.mk (bkb_ BK730.out hb); have n2_ := Aside0.mk (bkb_ BK734.out hb); have n3_ := Aside0.mk (below_step (hb_ HB.out) hb); have n4_ := Aside0.mk (hbox); have n5_ := Aside0.mk ((by rw [hg]; exact (below_size (hb_ HB.out)) : w.heap.size ≤ gb751)); have n6_ := Aside0.mk ((by rw [hg]; exact (below_size (hb_ HB.out)) : w.heap.size ≤ gb751)); have n7_ := Aside0.mk ((by rw [hg]; exact Nat.ne_of_lt (bkl_ BK723.out) : gb723 ≠ gb751)); have n8_ := Aside0.mk ((by rw [hg]; exact Nat.ne_of_gt (bkl_ BK723.out) : gb751 ≠ gb723)); have n9_ := Aside0.mk ((by rw [hg]; exact Nat.ne_of_lt (bkl_ BK730.out) : gb730 ≠ gb751)); have n10_ := Aside0.mk ((by rw [hg]; exact Nat.ne_of_gt (bkl_ BK730.out) : gb751 ≠ gb730)); have n11_ := Aside0.mk ((by rw [hg]; exact Nat.ne_of_lt (bkl_ BK734.out) : gb734 ≠ gb751)); have n12_ := Aside0.mk ((by rw [hg]; exact Nat.ne_of_gt (bkl_ BK734.out) : gb751 ≠ gb734)); clear BK723; clear BK730; clear BK734; clear HB; have BK723 := n0_; have BK730 := n1_; have BK734 := n2_; have HB := n3_; have BK751 := n4_; have GW751 := n5_; have GE751 := n6_; have NB723_751 := n7_; have NB751_723 := n8_; have NB730_751 := n9_; have NB751_730 := n10_; have NB734_751 := n11_; have NB751_734 := n12_; clear n0_ n1_ n2_ n3_ n4_ n5_ n6_ n7_ n8_ n9_ n10_ n11_ n12_; clear hb hbox hg; have hnb151 := NB751_723.out; have hnc151 := NB723_751.out; have hnb152 := NB751_730.out; have hnc152 := NB730_751.out; have hnb153 := NB751_734.out; have hnc153 := NB734_751.out; have hcz154_0 : w150.cell? ⟨gb751, 0, none⟩ = some (.int .i64 0) := (blk_cell BK751.out 0).trans rfl; have hcz154_1 : w150.cell? ⟨gb751, 1, none⟩ = some (.int .i64 0) := (blk_cell BK751.out 1).trans rfl; have hfz154_0 := blk_frozen BK751.out 0; have hfz154_1 := blk_frozen BK751.out 1; have hcz155_0 : w150.cell? ⟨gb734, 0, none⟩ = some (.int .i64 x735000_2) := (blk_cell BK734.out 0).trans rfl; have hcz155_1 : w150.cell? ⟨gb734, 1, none⟩ = some (.int .i64 x735001_2) := (blk_cell BK734.out 1).trans rfl; have hfz155_0 := blk_frozen BK734.out 0; have hfz155_1 := blk_frozen BK734.out 1) | ((with_reducible refine gate_callee (f := 24) rfl ?_); refine goesL_ (some 142) rfl rfl Try.func24 (by kernel_rfl) rfl #[.agg #[.int .i64 t748, .int .i64 t749], .agg #[.int .i64 x735000_2, .int .i64 x735001_2], .bool false] rfl al_ ?_; (with_reducible refine (comfitlaw04_added.calls kj76 t748 t749 x735000_2 x735001_2 false t752 t753 true _ A140.out).mono ?_); rintro e w156 ⟨rfl, hb⟩; refine ⟨_, rfl, ?_⟩; have n0_ := Aside0.mk (blk_below (g := gb723) (o := .cells #[.int .i64 t720, .int .i64 t721] 25 (0, 0)) (by (with_reducible repeat (first | refine blk_drewN ?_ _ | refine blk_drew ?_ | refine blk_alloc ?_ _)); refine blk_far ?_ NB723_751.out _; (with_reducible repeat (first | refine blk_drewN ?_ _ | refine blk_drew ?_ | refine blk_alloc ?_ _)); refine blk_far ?_ NB723_751.out _; (with_reducible repeat (first | refine blk_drewN ?_ _ | refine blk_drew ?_ | refine blk_alloc ?_ _)); exact BK723.out) hb); have n1_ := Aside0.mk (blk_below (g := gb730) (o := .cells #[.int .i64 t727, .int .i64 t728] 25 (0, 0)) (by (with_reducible repeat (first | refine blk_drewN ?_ _ | refine blk_drew ?_ | refine blk_alloc ?_ _)); refine blk_far ?_ NB730_751.out _; (with_reducible repeat (first | refine blk_drewN ?_ _ | refine blk_drew ?_ | refine blk_alloc ?_ _)); refine blk_far ?_ NB730_751.out _; (with_reducible repeat (first | refine blk_drewN ?_ _ | refine blk_drew ?_ | refine blk_alloc ?_ _)); exact BK730.out) hb); have n2_ := Aside0.mk (blk_below (g := gb734) (o := .cells #[.int .i64 x735000_2, .int .i64 x735001_2] 25 (0, 0)) (by (with_reducible repeat (first | refine blk_drewN ?_ _ | refine blk_drew ?_ | refine blk_alloc ?_ _)); refine blk_far ?_ NB734_751.out _; (with_reducible repeat (first | refine blk_drewN ?_ _ | refine blk_drew ?_ | refine blk_alloc ?_ _)); refine blk_far ?_ NB734_751.out _; (with_reducible repeat (first | refine blk_drewN ?_ _ | refine blk_drew ?_ | refine blk_alloc ?_ _)); exact BK734.out) hb); have n3_ := Aside0.mk (blk_below (g := gb751) (o := .cells #[.int .i64 t748, .int .i64 t749] 25 (0, 0)) (by (with_reducible repeat (first | refine blk_drewN ?_ _ | refine blk_drew ?_ | refine blk_alloc ?_ _)); refine blk_put (cs := #[.int .i64 t748, .int .i64 0]) ?_ 1 _ rfl; (with_reducible repeat (first | refine blk_drewN ?_ _ | refine blk_drew ?_ | refine blk_alloc ?_ _)); refine blk_put (cs := #[.int .i64 0, .int .i64 0]) ?_ 0 _ rfl; (with_reducible repeat (first | refine blk_drewN ?_ _ | refine blk_drew ?_ | refine blk_alloc ?_ _)); exact BK751.out) hb); have n4_ := Aside0.mk (below_step (hb_ HB.out) hb); clear BK723; clear BK730; clear BK734; clear BK751; clear HB; have BK723 := n0_; have BK730 := n1_; have BK734 := n2_; have BK751 := n3_; have HB := n4_; clear n0_ n1_ n2_ n3_ n4_; (try clear hb); (try clear hb2); (try clear hk); (try clear hi); have hcz157_0 : w156.cell? ⟨gb751, 0, none⟩ = some (.int .i64 t748) := (blk_cell BK751.out 0).trans rfl; have hcz157_1 : w156.cell? ⟨gb751, 1, none⟩ = some (.int .i64 t749) := (blk_cell BK751.out 1).trans rfl; have hfz157_0 := blk_frozen BK751.out 0; have hfz157_1 := blk_frozen BK751.out 1) | (go_at_call 20; (with_reducible refine (comfitlaw04_awake.calls kj76  t755 _ A143.out).mono ?_); rintro e w158 ⟨rfl, hb⟩; have n0_ := Aside0.mk (blk_below (g := gb723) (o := .cells #[.int .i64 t720, .int .i64 t721] 25 (0, 0)) (by (with_reducible repeat (first | refine blk_drewN ?_ _ | refine blk_drew ?_ | refine blk_alloc ?_ _)); refine blk_far ?_ NB723_751.out _; (with_reducible repeat (first | refine blk_drewN ?_ _ | refine blk_drew ?_ | refine blk_alloc ?_ _)); refine blk_far ?_ NB723_751.out _; (with_reducible repeat (first | refine blk_drewN ?_ _ | refine blk_drew ?_ | refine blk_alloc ?_ _)); exact BK723.out) hb); have n1_ := Aside0.mk (blk_below (g := gb730) (o := .cells #[.int .i64 t727, .int .i64 t728] 25 (0, 0)) (by (with_reducible repeat (first | refine blk_drewN ?_ _ | refine blk_drew ?_ | refine blk_alloc ?_ _)); refine blk_far ?_ NB730_751.out _; (with_reducible repeat (first | refine blk_drewN ?_ _ | refine blk_drew ?_ | refine blk_alloc ?_ _)); refine blk_far ?_ NB730_751.out _; (with_reducible repeat (first | refine blk_drewN ?_ _ | refine blk_drew ?_ | refine blk_alloc ?_ _)); exact BK730.out) hb); have n2_ := Aside0.mk (blk_below (g := gb734) (o := .cells #[.int .i64 x735000_2, .int .i64 x735001_2] 25 (0, 0)) (by (with_reducible repeat (first | refine blk_drewN ?_ _ | refine blk_drew ?_ | refine blk_alloc ?_ _)); refine blk_far ?_ NB734_751.out _; (with_reducible repeat (first | refine blk_drewN ?_ _ | refine blk_drew ?_ | refine blk_alloc ?_ _)); refine blk_far ?_ NB734_751.out _; (with_reducible repeat (first | refine blk_drewN ?_ _ | refine blk_drew ?_ | refine blk_alloc ?_ _)); exact BK734.out) hb); have n3_ := Aside0.mk (blk_below (g := gb751) (o := .cells #[.int .i64 t752, .int .i64 t753] 25 (0, 0)) (by (with_reducible repeat (first | refine blk_drewN ?_ _ | refine blk_drew ?_ | refine blk_alloc ?_ _)); refine blk_put (cs := #[.int .i64 t752, .int .i64 t749]) ?_ 1 _ rfl; (with_reducible repeat (first | refine blk_drewN ?_ _ | refine blk_drew ?_ | refine blk_alloc ?_ _)); refine blk_put (cs := #[.int .i64 t748, .int .i64 t749]) ?_ 0 _ rfl; (with_reducible repeat (first | refine blk_drewN ?_ _ | refine blk_drew ?_ | refine blk_alloc ?_ _)); exact BK751.out) hb); have n4_ := Aside0.mk (below_step (hb_ HB.out) hb); clear BK723; clear BK730; clear BK734; clear BK751; clear HB; have BK723 := n0_; have BK730 := n1_; have BK734 := n2_; have BK751 := n3_; have HB := n4_; clear n0_ n1_ n2_ n3_ n4_; (try clear hb); (try clear hb2); (try clear hk); (try clear hi)))
             go_ret
             exact ⟨by first | rfl | (simp [errW_none, errW_some] <;> rfl) | (simp [*, errW_none, errW_some] <;> rfl), by repeat (first | (with_reducible first | exact HB.out | apply below_alloc | apply pw_below_drewN | apply below_drew1 | refine below_set ?_ GE723.out | refine below_set ?_ GE730.out | refine below_set ?_ GE734.out | refine below_set ?_ GE751.out) | exact HB.out)⟩
            ·rw [if_neg c142] at H
             have c142b0 : (t752 == 1 && (t753 == 1)) = false := by simpa using c142
             (try (have c142b1 : decide (t752 = 1 && (t753 == 1)) = false := by simpa using c142))
             (try (have c142b2 : (t752 == 1 && (t753 == 1)) = false := by simpa using c142))
             (try (have c142b3 : ¬ (t752 = 1 && (t753 == 1)) := by simpa using c142))
             clear c142
             obtain rfl := Option.some.inj H
             have hnb159 := NB723_730.out
             have hnc159 := NB730_723.out
             have hnb160 := NB723_734.out
             have hnc160 := NB734_723.out
             have hcz161_0 : wc.cell? ⟨gb723, 0, none⟩ = some (.int .i64 t720) := (blk_cell BK723.out 0).trans rfl
             have hcz161_1 : wc.cell? ⟨gb723, 1, none⟩ = some (.int .i64 t721) := (blk_cell BK723.out 1).trans rfl
             have hfz161_0 := blk_frozen BK723.out 0
             have hfz161_1 := blk_frozen BK723.out 1
             have hnb162 := NB730_734.out
             have hnc162 := NB734_730.out
             have hcz163_0 : wc.cell? ⟨gb730, 0, none⟩ = some (.int .i64 t727) := (blk_cell BK730.out 0).trans rfl
             have hcz163_1 : wc.cell? ⟨gb730, 1, none⟩ = some (.int .i64 t728) := (blk_cell BK730.out 1).trans rfl
             have hfz163_0 := blk_frozen BK730.out 0
             have hfz163_1 := blk_frozen BK730.out 1
             go_wp2_with (first | ((with_reducible refine gate_callee (f := 24) rfl ?_); refine goesL_ (some 134) rfl rfl Try.func24 (by kernel_rfl) rfl #[.agg #[.int .i64 t720, .int .i64 t721], .agg #[.int .i64 t727, .int .i64 t728], .bool false] rfl al_ ?_; (with_reducible refine (comfitlaw04_added.calls kj76 t720 t721 t727 t728 false t748 t749 true _ A138.out).mono ?_); rintro e w164 ⟨rfl, hb⟩; refine ⟨_, rfl, ?_⟩; have n0_ := Aside0.mk (bkb_ BK723.out hb); have n1_ := Aside0.mk (bkb_ BK730.out hb); have n2_ := Aside0.mk (bkb_ BK734.out hb); have n3_ := Aside0.mk (below_step (hb_ HB.out) hb); clear BK723; clear BK730; clear BK734; clear HB; have BK723 := n0_; have BK730 := n1_; have BK734 := n2_; have HB := n3_; clear n0_ n1_ n2_ n3_; (try clear hb); (try clear hb2); (try clear hk); (try clear hi)) | ((with_reducible refine gate_dst (N := 16) rfl ?_); refine box_event ?hg (N := 16) ?hd (cs := #[.int .i64 0, .int .i64 0]) (t := 25) ?hr ?_; (case hd => rfl); (case hg => rfl); (case hr => first | (go_simp; done) | (go_simp; rfl)); intro gb751 hg w165 hbox hb; have n0_ := Aside0.mk (bkb_ BK723.out hb); have n1_ := Aside0.mk (bkb_ BK730.out hb); have n2_ := Aside0.mk (bkb_ BK734.out hb); have n3_ := Aside0.mk (below_step (hb_ HB.out) hb); have n4_ := Aside0.mk (hbox); have n5_ := Aside0.mk ((by rw [hg]; exact (below_size (hb_ HB.out)) : w.heap.size ≤ gb751)); have n6_ := Aside0.mk ((by rw [hg]; exact (below_size (hb_ HB.out)) : w.heap.size ≤ gb751)); have n7_ := Aside0.mk ((by rw [hg]; exact Nat.ne_of_lt (bkl_ BK723.out) : gb723 ≠ gb751)); have n8_ := Aside0.mk ((by rw [hg]; exact Nat.ne_of_gt (bkl_ BK723.out) : gb751 ≠ gb723)); have n9_ := Aside0.mk ((by rw [hg]; exact Nat.ne_of_lt (bkl_ BK730.out) : gb730 ≠ gb751)); have n10_ := Aside0.mk ((by rw [hg]; exact Nat.ne_of_gt (bkl_ BK730.out) : gb751 ≠ gb730)); have n11_ := Aside0.mk ((by rw [hg]; exact Nat.ne_of_lt (bkl_ BK734.out) : gb734 ≠ gb751)); have n12_ := Aside0.mk ((by rw [hg]; exact Nat.ne_of_gt (bkl_ BK734.out) : gb751 ≠ gb734)); clear BK723; clear BK730; clear BK734; clear HB; have BK723 := n0_; have BK730 := n1_; have BK734 := n2_; have HB := n3_; have BK751 := n4_; have GW751 := n5_; have GE751 := n6_; have NB723_751 := n7_; have NB751_723 := n8_; have NB730_751 := n9_; have NB751_730 := n10_; have NB734_751 := n11_; have NB751_734 := n12_; clear n0_ n1_ n2_ n3_ n4_ n5_ n6_ n7_ n8_ n9_ n10_ n11_ n12_; clear hb hbox hg; have hnb166 := NB751_723.out; have hnc166 := NB723_751.out; have hnb167 := NB751_730.out; have hnc167 := NB730_751.out; have hnb168 := NB751_734.out; have hnc168 := NB734_751.out; have hcz169_0 : w165.cell? ⟨gb751, 0, none⟩ = some (.int .i64 0) := (blk_cell BK751.out 0).trans rfl; have hcz169_1 : w165.cell? ⟨gb751, 1, none⟩ = some (.int .i64 0) := (blk_cell BK751.out 1).trans rfl; have hfz169_0 := blk_frozen BK751.out 0; have hfz169_1 := blk_frozen BK751.out 1; have hcz170_0 : w165.cell? ⟨gb734, 0, none⟩ = some (.int .i64 x735000_2) := (blk_cell BK734.out 0).trans rfl; have hcz170_1 : w165.cell? ⟨gb734, 1, none⟩ = some (.int .i64 x735001_2) := (blk_cell BK734.out 1).trans rfl; have hfz170_0 := blk_frozen BK734.out 0; have hfz170_1 := blk_frozen BK734.out 1) | ((with_reducible refine gate_callee (f := 24) rfl ?_); refine goesL_ (some 142) rfl rfl Try.func24 (by kernel_rfl) rfl #[.agg #[.int .i64 t748, .int .i64 t749], .agg #[.int .i64 x735000_2, .int .i64 x735001_2], .bool false] rfl al_ ?_; (with_reducible refine (comfitlaw04_added.calls kj76 t748 t749 x735000_2 x735001_2 false t752 t753 true _ A140.out).mono ?_); rintro e w171 ⟨rfl, hb⟩; refine ⟨_, rfl, ?_⟩; have n0_ := Aside0.mk (blk_below (g := gb723) (o := .cells #[.int .i64 t720, .int .i64 t721] 25 (0, 0)) (by (with_reducible repeat (first | refine blk_drewN ?_ _ | refine blk_drew ?_ | refine blk_alloc ?_ _)); refine blk_far ?_ NB723_751.out _; (with_reducible repeat (first | refine blk_drewN ?_ _ | refine blk_drew ?_ | refine blk_alloc ?_ _)); refine blk_far ?_ NB723_751.out _; (with_reducible repeat (first | refine blk_drewN ?_ _ | refine blk_drew ?_ | refine blk_alloc ?_ _)); exact BK723.out) hb); have n1_ := Aside0.mk (blk_below (g := gb730) (o := .cells #[.int .i64 t727, .int .i64 t728] 25 (0, 0)) (by (with_reducible repeat (first | refine blk_drewN ?_ _ | refine blk_drew ?_ | refine blk_alloc ?_ _)); refine blk_far ?_ NB730_751.out _; (with_reducible repeat (first | refine blk_drewN ?_ _ | refine blk_drew ?_ | refine blk_alloc ?_ _)); refine blk_far ?_ NB730_751.out _; (with_reducible repeat (first | refine blk_drewN ?_ _ | refine blk_drew ?_ | refine blk_alloc ?_ _)); exact BK730.out) hb); have n2_ := Aside0.mk (blk_below (g := gb734) (o := .cells #[.int .i64 x735000_2, .int .i64 x735001_2] 25 (0, 0)) (by (with_reducible repeat (first | refine blk_drewN ?_ _ | refine blk_drew ?_ | refine blk_alloc ?_ _)); refine blk_far ?_ NB734_751.out _; (with_reducible repeat (first | refine blk_drewN ?_ _ | refine blk_drew ?_ | refine blk_alloc ?_ _)); refine blk_far ?_ NB734_751.out _; (with_reducible repeat (first | refine blk_drewN ?_ _ | refine blk_drew ?_ | refine blk_alloc ?_ _)); exact BK734.out) hb); have n3_ := Aside0.mk (blk_below (g := gb751) (o := .cells #[.int .i64 t748, .int .i64 t749] 25 (0, 0)) (by (with_reducible repeat (first | refine blk_drewN ?_ _ | refine blk_drew ?_ | refine blk_alloc ?_ _)); refine blk_put (cs := #[.int .i64 t748, .int .i64 0]) ?_ 1 _ rfl; (with_reducible repeat (first | refine blk_drewN ?_ _ | refine blk_drew ?_ | refine blk_alloc ?_ _)); refine blk_put (cs := #[.int .i64 0, .int .i64 0]) ?_ 0 _ rfl; (with_reducible repeat (first | refine blk_drewN ?_ _ | refine blk_drew ?_ | refine blk_alloc ?_ _)); exact BK751.out) hb); have n4_ := Aside0.mk (below_step (hb_ HB.out) hb); clear BK723; clear BK730; clear BK734; clear BK751; clear HB; have BK723 := n0_; have BK730 := n1_; have BK734 := n2_; have BK751 := n3_; have HB := n4_; clear n0_ n1_ n2_ n3_ n4_; (try clear hb); (try clear hb2); (try clear hk); (try clear hi); have hcz172_0 : w171.cell? ⟨gb751, 0, none⟩ = some (.int .i64 t748) := (blk_cell BK751.out 0).trans rfl; have hcz172_1 : w171.cell? ⟨gb751, 1, none⟩ = some (.int .i64 t749) := (blk_cell BK751.out 1).trans rfl; have hfz172_0 := blk_frozen BK751.out 0; have hfz172_1 := blk_frozen BK751.out 1))
             go_ret
             exact ⟨by first | rfl | (simp [errW_none, errW_some] <;> rfl) | (simp [*, errW_none, errW_some] <;> rfl), by repeat (first | (with_reducible first | exact HB.out | apply below_alloc | apply pw_below_drewN | apply below_drew1 | refine below_set ?_ GE723.out | refine below_set ?_ GE730.out | refine below_set ?_ GE734.out | refine below_set ?_ GE751.out) | exact HB.out)⟩
           ·replace c141 := Bool.eq_false_iff.mpr c141
            subst c141
            have H1 : (some false) = some r := by rw [if_neg (show ¬ (false = true) by decide)] at H; exact H
            clear H
            have H := H1
            clear H1
            obtain rfl := Option.some.inj H
            have hnb173 := NB723_730.out
            have hnc173 := NB730_723.out
            have hnb174 := NB723_734.out
            have hnc174 := NB734_723.out
            have hcz175_0 : wc.cell? ⟨gb723, 0, none⟩ = some (.int .i64 t720) := (blk_cell BK723.out 0).trans rfl
            have hcz175_1 : wc.cell? ⟨gb723, 1, none⟩ = some (.int .i64 t721) := (blk_cell BK723.out 1).trans rfl
            have hfz175_0 := blk_frozen BK723.out 0
            have hfz175_1 := blk_frozen BK723.out 1
            have hnb176 := NB730_734.out
            have hnc176 := NB734_730.out
            have hcz177_0 : wc.cell? ⟨gb730, 0, none⟩ = some (.int .i64 t727) := (blk_cell BK730.out 0).trans rfl
            have hcz177_1 : wc.cell? ⟨gb730, 1, none⟩ = some (.int .i64 t728) := (blk_cell BK730.out 1).trans rfl
            have hfz177_0 := blk_frozen BK730.out 0
            have hfz177_1 := blk_frozen BK730.out 1
            go_wp2_with (first | ((with_reducible refine gate_callee (f := 24) rfl ?_); refine goesL_ (some 134) rfl rfl Try.func24 (by kernel_rfl) rfl #[.agg #[.int .i64 t720, .int .i64 t721], .agg #[.int .i64 t727, .int .i64 t728], .bool false] rfl al_ ?_; (with_reducible refine (comfitlaw04_added.calls kj76 t720 t721 t727 t728 false t748 t749 true _ A138.out).mono ?_); rintro e w178 ⟨rfl, hb⟩; refine ⟨_, rfl, ?_⟩; have n0_ := Aside0.mk (bkb_ BK723.out hb); have n1_ := Aside0.mk (bkb_ BK730.out hb); have n2_ := Aside0.mk (bkb_ BK734.out hb); have n3_ := Aside0.mk (below_step (hb_ HB.out) hb); clear BK723; clear BK730; clear BK734; clear HB; have BK723 := n0_; have BK730 := n1_; have BK734 := n2_; have HB := n3_; clear n0_ n1_ n2_ n3_; (try clear hb); (try clear hb2); (try clear hk); (try clear hi)) | ((with_reducible refine gate_dst (N := 16) rfl ?_); refine box_event ?hg (N := 16) ?hd (cs := #[.int .i64 0, .int .i64 0]) (t := 25) ?hr ?_; (case hd => rfl); (case hg => rfl); (case hr => first | (go_simp; done) | (go_simp; rfl)); intro gb751 hg w179 hbox hb; have n0_ := Aside0.mk (bkb_ BK723.out hb); have n1_ := Aside0.mk (bkb_ BK730.out hb); have n2_ := Aside0.mk (bkb_ BK734.out hb); have n3_ := Aside0.mk (below_step (hb_ HB.out) hb); have n4_ := Aside0.mk (hbox); have n5_ := Aside0.mk ((by rw [hg]; exact (below_size (hb_ HB.out)) : w.heap.size ≤ gb751)); have n6_ := Aside0.mk ((by rw [hg]; exact (below_size (hb_ HB.out)) : w.heap.size ≤ gb751)); have n7_ := Aside0.mk ((by rw [hg]; exact Nat.ne_of_lt (bkl_ BK723.out) : gb723 ≠ gb751)); have n8_ := Aside0.mk ((by rw [hg]; exact Nat.ne_of_gt (bkl_ BK723.out) : gb751 ≠ gb723)); have n9_ := Aside0.mk ((by rw [hg]; exact Nat.ne_of_lt (bkl_ BK730.out) : gb730 ≠ gb751)); have n10_ := Aside0.mk ((by rw [hg]; exact Nat.ne_of_gt (bkl_ BK730.out) : gb751 ≠ gb730)); have n11_ := Aside0.mk ((by rw [hg]; exact Nat.ne_of_lt (bkl_ BK734.out) : gb734 ≠ gb751)); have n12_ := Aside0.mk ((by rw [hg]; exact Nat.ne_of_gt (bkl_ BK734.out) : gb751 ≠ gb734)); clear BK723; clear BK730; clear BK734; clear HB; have BK723 := n0_; have BK730 := n1_; have BK734 := n2_; have HB := n3_; have BK751 := n4_; have GW751 := n5_; have GE751 := n6_; have NB723_751 := n7_; have NB751_723 := n8_; have NB730_751 := n9_; have NB751_730 := n10_; have NB734_751 := n11_; have NB751_734 := n12_; clear n0_ n1_ n2_ n3_ n4_ n5_ n6_ n7_ n8_ n9_ n10_ n11_ n12_; clear hb hbox hg; have hnb180 := NB751_723.out; have hnc180 := NB723_751.out; have hnb181 := NB751_730.out; have hnc181 := NB730_751.out; have hnb182 := NB751_734.out; have hnc182 := NB734_751.out; have hcz183_0 : w179.cell? ⟨gb751, 0, none⟩ = some (.int .i64 0) := (blk_cell BK751.out 0).trans rfl; have hcz183_1 : w179.cell? ⟨gb751, 1, none⟩ = some (.int .i64 0) := (blk_cell BK751.out 1).trans rfl; have hfz183_0 := blk_frozen BK751.out 0; have hfz183_1 := blk_frozen BK751.out 1; have hcz184_0 : w179.cell? ⟨gb734, 0, none⟩ = some (.int .i64 x735000_2) := (blk_cell BK734.out 0).trans rfl; have hcz184_1 : w179.cell? ⟨gb734, 1, none⟩ = some (.int .i64 x735001_2) := (blk_cell BK734.out 1).trans rfl; have hfz184_0 := blk_frozen BK734.out 0; have hfz184_1 := blk_frozen BK734.out 1) | ((with_reducible refine gate_callee (f := 24) rfl ?_); refine goesL_ (some 142) rfl rfl Try.func24 (by kernel_rfl) rfl #[.agg #[.int .i64 t748, .int .i64 t749], .agg #[.int .i64 x735000_2, .int .i64 x735001_2], .bool false] rfl al_ ?_; (with_reducible refine (comfitlaw04_added.calls kj76 t748 t749 x735000_2 x735001_2 false t752 t753 false _ A140.out).mono ?_); rintro e w185 ⟨rfl, hb⟩; refine ⟨_, rfl, ?_⟩; have n0_ := Aside0.mk (blk_below (g := gb723) (o := .cells #[.int .i64 t720, .int .i64 t721] 25 (0, 0)) (by (with_reducible repeat (first | refine blk_drewN ?_ _ | refine blk_drew ?_ | refine blk_alloc ?_ _)); refine blk_far ?_ NB723_751.out _; (with_reducible repeat (first | refine blk_drewN ?_ _ | refine blk_drew ?_ | refine blk_alloc ?_ _)); refine blk_far ?_ NB723_751.out _; (with_reducible repeat (first | refine blk_drewN ?_ _ | refine blk_drew ?_ | refine blk_alloc ?_ _)); exact BK723.out) hb); have n1_ := Aside0.mk (blk_below (g := gb730) (o := .cells #[.int .i64 t727, .int .i64 t728] 25 (0, 0)) (by (with_reducible repeat (first | refine blk_drewN ?_ _ | refine blk_drew ?_ | refine blk_alloc ?_ _)); refine blk_far ?_ NB730_751.out _; (with_reducible repeat (first | refine blk_drewN ?_ _ | refine blk_drew ?_ | refine blk_alloc ?_ _)); refine blk_far ?_ NB730_751.out _; (with_reducible repeat (first | refine blk_drewN ?_ _ | refine blk_drew ?_ | refine blk_alloc ?_ _)); exact BK730.out) hb); have n2_ := Aside0.mk (blk_below (g := gb734) (o := .cells #[.int .i64 x735000_2, .int .i64 x735001_2] 25 (0, 0)) (by (with_reducible repeat (first | refine blk_drewN ?_ _ | refine blk_drew ?_ | refine blk_alloc ?_ _)); refine blk_far ?_ NB734_751.out _; (with_reducible repeat (first | refine blk_drewN ?_ _ | refine blk_drew ?_ | refine blk_alloc ?_ _)); refine blk_far ?_ NB734_751.out _; (with_reducible repeat (first | refine blk_drewN ?_ _ | refine blk_drew ?_ | refine blk_alloc ?_ _)); exact BK734.out) hb); have n3_ := Aside0.mk (blk_below (g := gb751) (o := .cells #[.int .i64 t748, .int .i64 t749] 25 (0, 0)) (by (with_reducible repeat (first | refine blk_drewN ?_ _ | refine blk_drew ?_ | refine blk_alloc ?_ _)); refine blk_put (cs := #[.int .i64 t748, .int .i64 0]) ?_ 1 _ rfl; (with_reducible repeat (first | refine blk_drewN ?_ _ | refine blk_drew ?_ | refine blk_alloc ?_ _)); refine blk_put (cs := #[.int .i64 0, .int .i64 0]) ?_ 0 _ rfl; (with_reducible repeat (first | refine blk_drewN ?_ _ | refine blk_drew ?_ | refine blk_alloc ?_ _)); exact BK751.out) hb); have n4_ := Aside0.mk (below_step (hb_ HB.out) hb); clear BK723; clear BK730; clear BK734; clear BK751; clear HB; have BK723 := n0_; have BK730 := n1_; have BK734 := n2_; have BK751 := n3_; have HB := n4_; clear n0_ n1_ n2_ n3_ n4_; (try clear hb); (try clear hb2); (try clear hk); (try clear hi); have hcz186_0 : w185.cell? ⟨gb751, 0, none⟩ = some (.int .i64 t748) := (blk_cell BK751.out 0).trans rfl; have hcz186_1 : w185.cell? ⟨gb751, 1, none⟩ = some (.int .i64 t749) := (blk_cell BK751.out 1).trans rfl; have hfz186_0 := blk_frozen BK751.out 0; have hfz186_1 := blk_frozen BK751.out 1))
            go_ret
            exact ⟨by first | rfl | (simp [errW_none, errW_some] <;> rfl) | (simp [*, errW_none, errW_some] <;> rfl), by repeat (first | (with_reducible first | exact HB.out | apply below_alloc | apply pw_below_drewN | apply below_drew1 | refine below_set ?_ GE723.out | refine below_set ?_ GE730.out | refine below_set ?_ GE734.out | refine below_set ?_ GE751.out) | exact HB.out)⟩
          ·replace c139 := Bool.eq_false_iff.mpr c139
           subst c139
           have H1 : (some false) = some r := by rw [if_neg (show ¬ (false = true) by decide)] at H; exact H
           clear H
           have H := H1
           clear H1
           obtain rfl := Option.some.inj H
           have hnb187 := NB723_730.out
           have hnc187 := NB730_723.out
           have hnb188 := NB723_734.out
           have hnc188 := NB734_723.out
           have hcz189_0 : wc.cell? ⟨gb723, 0, none⟩ = some (.int .i64 t720) := (blk_cell BK723.out 0).trans rfl
           have hcz189_1 : wc.cell? ⟨gb723, 1, none⟩ = some (.int .i64 t721) := (blk_cell BK723.out 1).trans rfl
           have hfz189_0 := blk_frozen BK723.out 0
           have hfz189_1 := blk_frozen BK723.out 1
           have hnb190 := NB730_734.out
           have hnc190 := NB734_730.out
           have hcz191_0 : wc.cell? ⟨gb730, 0, none⟩ = some (.int .i64 t727) := (blk_cell BK730.out 0).trans rfl
           have hcz191_1 : wc.cell? ⟨gb730, 1, none⟩ = some (.int .i64 t728) := (blk_cell BK730.out 1).trans rfl
           have hfz191_0 := blk_frozen BK730.out 0
           have hfz191_1 := blk_frozen BK730.out 1
           go_wp2_with (first | ((with_reducible refine gate_callee (f := 24) rfl ?_); refine goesL_ (some 134) rfl rfl Try.func24 (by kernel_rfl) rfl #[.agg #[.int .i64 t720, .int .i64 t721], .agg #[.int .i64 t727, .int .i64 t728], .bool false] rfl al_ ?_; (with_reducible refine (comfitlaw04_added.calls kj76 t720 t721 t727 t728 false t748 t749 false _ A138.out).mono ?_); rintro e w192 ⟨rfl, hb⟩; refine ⟨_, rfl, ?_⟩; have n0_ := Aside0.mk (bkb_ BK723.out hb); have n1_ := Aside0.mk (bkb_ BK730.out hb); have n2_ := Aside0.mk (bkb_ BK734.out hb); have n3_ := Aside0.mk (below_step (hb_ HB.out) hb); clear BK723; clear BK730; clear BK734; clear HB; have BK723 := n0_; have BK730 := n1_; have BK734 := n2_; have HB := n3_; clear n0_ n1_ n2_ n3_; (try clear hb); (try clear hb2); (try clear hk); (try clear hi)) | ((with_reducible refine gate_dst (N := 16) rfl ?_); refine box_event ?hg (N := 16) ?hd (cs := #[.int .i64 0, .int .i64 0]) (t := 25) ?hr ?_; (case hd => rfl); (case hg => rfl); (case hr => first | (go_simp; done) | (go_simp; rfl)); intro gb751 hg w193 hbox hb; have n0_ := Aside0.mk (bkb_ BK723.out hb); have n1_ := Aside0.mk (bkb_ BK730.out hb); have n2_ := Aside0.mk (bkb_ BK734.out hb); have n3_ := Aside0.mk (below_step (hb_ HB.out) hb); have n4_ := Aside0.mk (hbox); have n5_ := Aside0.mk ((by rw [hg]; exact (below_size (hb_ HB.out)) : w.heap.size ≤ gb751)); have n6_ := Aside0.mk ((by rw [hg]; exact (below_size (hb_ HB.out)) : w.heap.size ≤ gb751)); have n7_ := Aside0.mk ((by rw [hg]; exact Nat.ne_of_lt (bkl_ BK723.out) : gb723 ≠ gb751)); have n8_ := Aside0.mk ((by rw [hg]; exact Nat.ne_of_gt (bkl_ BK723.out) : gb751 ≠ gb723)); have n9_ := Aside0.mk ((by rw [hg]; exact Nat.ne_of_lt (bkl_ BK730.out) : gb730 ≠ gb751)); have n10_ := Aside0.mk ((by rw [hg]; exact Nat.ne_of_gt (bkl_ BK730.out) : gb751 ≠ gb730)); have n11_ := Aside0.mk ((by rw [hg]; exact Nat.ne_of_lt (bkl_ BK734.out) : gb734 ≠ gb751)); have n12_ := Aside0.mk ((by rw [hg]; exact Nat.ne_of_gt (bkl_ BK734.out) : gb751 ≠ gb734)); clear BK723; clear BK730; clear BK734; clear HB; have BK723 := n0_; have BK730 := n1_; have BK734 := n2_; have HB := n3_; have BK751 := n4_; have GW751 := n5_; have GE751 := n6_; have NB723_751 := n7_; have NB751_723 := n8_; have NB730_751 := n9_; have NB751_730 := n10_; have NB734_751 := n11_; have NB751_734 := n12_; clear n0_ n1_ n2_ n3_ n4_ n5_ n6_ n7_ n8_ n9_ n10_ n11_ n12_; clear hb hbox hg; have hnb194 := NB751_723.out; have hnc194 := NB723_751.out; have hnb195 := NB751_730.out; have hnc195 := NB730_751.out; have hnb196 := NB751_734.out; have hnc196 := NB734_751.out; have hcz197_0 : w193.cell? ⟨gb751, 0, none⟩ = some (.int .i64 0) := (blk_cell BK751.out 0).trans rfl; have hcz197_1 : w193.cell? ⟨gb751, 1, none⟩ = some (.int .i64 0) := (blk_cell BK751.out 1).trans rfl; have hfz197_0 := blk_frozen BK751.out 0; have hfz197_1 := blk_frozen BK751.out 1))
           go_ret
           exact ⟨by first | rfl | (simp [errW_none, errW_some] <;> rfl) | (simp [*, errW_none, errW_some] <;> rfl), by repeat (first | (with_reducible first | exact HB.out | apply below_alloc | apply pw_below_drewN | apply below_drew1 | refine below_set ?_ GE723.out | refine below_set ?_ GE730.out | refine below_set ?_ GE734.out | refine below_set ?_ GE751.out) | exact HB.out)⟩

/-- THE ONE PURE STATEMENT of comfitlaw04_PacketsRace: yours. -/
def comfitlaw04_PacketsRace.Pure : Prop := ∀ (l0 : List Int) (a1 : Int) (a2 : Int), l0.length ≤ maxLen → l0.length * 8 ≤ 140737488351232 → (∀ x ∈ l0, (Lit.int .i64 x).wf = true) → (Lit.int .i64 a1).wf = true → (Lit.int .i64 a2).wf = true → ∃ k, comfitlaw04_PacketsRace.f k l0 a1 a2 = some true
theorem comfitlaw04_PacketsRace.walk (P : comfitlaw04_PacketsRace.Pure) (a0 : Option Addr) (len0 cap0 : Nat) (z0 : List Int) (a1 : Int) (a2 : Int) (w : World) (w0 : (a0 = none ∧ len0 = 0 ∧ cap0 = 0 ∧ z0 = []) ∨ ∃ x, a0 = some x ∧ len0 ≤ cap0 ∧ cap0 ≤ maxLen ∧ z0.length = cap0 ∧ (∀ i, i < z0.length → w.cell? (x.add i) = some (.int .i64 (z0.getD i 0))) ∧ ∀ n ∈ z0, (Lit.int .i64 n).wf = true) (y0 : len0 * 8 ≤ 140737488351232) (w1 : (Lit.int .i64 a1).wf = true) (w2 : (Lit.int .i64 a2).wf = true) :
  Calls Try.prog 17 #[.slice a0 len0 cap0, .int .i64 a1, .int .i64 a2] w fun e w' => e = .returned (.bool true) ∧ Below w.heap.size w w' := by
 obtain ⟨l0, rfl, hr0, hm0, hw0, hc0⟩ := ReadsInt.ofRowC w0
 obtain ⟨k, h⟩ := P l0 a1 a2 hm0 y0 hw0 w1 w2
 refine (comfitlaw04_PacketsRace.calls k _ _ l0 a1 a2 true w (Kd.C_of_reads (d := (0 : Int)) (h1 := fun _ => rfl) hr0) hc0 h).mono ?_
 rintro e w' ⟨rfl, hd⟩
 exact ⟨rfl, hd⟩

end Go.Proofs.Ytigmhomfadimnaa.X
