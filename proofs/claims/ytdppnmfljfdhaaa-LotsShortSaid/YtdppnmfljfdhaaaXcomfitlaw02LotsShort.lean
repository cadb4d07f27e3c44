/- Written by a program of this session (wip/tools/xprint.py, which calls the kit's print): Go functions as Lean functions, and for each the proof that the machine's call does what it says; no conditions but those that each theorem names. -/
import Derived.Test.YtdppnmfljfdhaaaX0
import Derived.Test.YtdppnmfljfdhaaaXR
import Derived.Test.YtdppnmfljfdhaaaXS
import Derived.Test.YtdppnmfljfdhaaaXcomfitlaw02awake
import Derived.Test.YtdppnmfljfdhaaaXlotsRun
import Derived.Test.YtdppnmfljfdhaaaXlotsSingle
import Derived.Test.YtdppnmfljfdhaaaHShort
namespace Go.Proofs.Ytdppnmfljfdhaaa.X
open Go.RowKit Go.Proofs.YtdppnmfljfdhaaaW.PrintWords Go.Proofs.YtdppnmfljfdhaaaW.PrintLast Go.Proofs.YtdppnmfljfdhaaaW.PrintMore
attribute [local go_sem] max2_int min2_int max_two min_two max_three min_three max_four min_four   -- for this text's walks alone
set_option linter.unusedVariables false
set_option linter.unusedSimpArgs false

/-! ### comfitlaw02_LotsShort: function 17 -/
mutual
def comfitlaw02_LotsShort.j0 : Nat → Int → Int → List Bool → Int → Int → Bool → List Int → List Int → List Int → List Int → Option (Bool)
 | 0, _, _, _, _, _, _, _, _, _, _ => none
 | k + 1, x0, x1, x2, x8, x10, x41, x745000, x745001, x753000, x753001 => if x41 = true then (if x8 = 2 then (if x10 = x8 then ((comfitlaw02_awake.f k).bind fun t754 => (some t754)) else (some false)) else (some false)) else (if 0 ≤ (mn (x2.length : Int) 15) then (if (mn (x2.length : Int) 15) ≤ (x2.length : Int) then ((slices_Clone_bool_bool.f (x2.take ((mn (x2.length : Int) 15) : Int).toNat)).bind fun t756 => ((lots_Run.f k x745000 x745001 t756).bind fun bt759 => ((slices_Clone_bool_bool.f (x2.take ((mn (x2.length : Int) 15) : Int).toNat)).bind fun t763 => ((lots_Run.f k x753000 x753001 t763).bind fun bt766 => (if bt759.2.2 = 0 then (comfitlaw02_LotsShort.j1 k x0 x1 x2 bt759.2.2 bt766.2.2 bt759.1 bt759.2.1 bt766.1 bt766.2.1 (bt766.2.2 != 0)) else (comfitlaw02_LotsShort.j1 k x0 x1 x2 bt759.2.2 bt766.2.2 bt759.1 bt759.2.1 bt766.1 bt766.2.1 true)))))) else (none)) else (none))
def comfitlaw02_LotsShort.j1 : Nat → Int → Int → List Bool → Int → Int → Int → Bool → Int → Bool → Bool → Option (Bool)
 | 0, _, _, _, _, _, _, _, _, _, _ => none
 | k + 1, x0, x1, x2, x8, x10, x11, x12, x13, x14, x81 => if x81 = true then (if x8 = 2 then (if x10 = x8 then (if (x2.length : Int) = x0 then (some false) else ((comfitlaw02_awake.f k).bind fun t769 => (some t769))) else (some false)) else (some false)) else (if x11 = x0 then (if x13 < 1 then (comfitlaw02_LotsShort.j2 k x0 x1 x2 x13 x14 true) else (if x13 > x0 then (comfitlaw02_LotsShort.j2 k x0 x1 x2 x13 x14 true) else (if (x12 != x14) = true then (comfitlaw02_LotsShort.j2 k x0 x1 x2 x13 x14 true) else (comfitlaw02_LotsShort.j2 k x0 x1 x2 x13 x14 ((x2.length : Int) != x0))))) else (comfitlaw02_LotsShort.j2 k x0 x1 x2 x13 x14 true))
def comfitlaw02_LotsShort.j2 : Nat → Int → Int → List Bool → Int → Bool → Bool → Option (Bool)
 | 0, _, _, _, _, _, _ => none
 | k + 1, x0, x1, x2, x13, x14, x120 => if x120 = true then (some false) else (if 0 ≤ x13 then (if x13 ≤ (x2.length : Int) then (comfitlaw02_LotsShort.l0 k x0 x1 x13 x14 0 (x2.take (x13 : Int).toNat) ((x2.take (x13 : Int).toNat).length : Int) 0) else (none)) else (none))
def comfitlaw02_LotsShort.l0 : Nat → Int → Int → Int → Bool → Int → List Bool → Int → Int → Option (Bool)
 | 0, _, _, _, _, _, _, _, _ => none
 | k + 1, x0, x1, x13, x14, x15, x123, x124, x125 => if x125 < x124 then (if 0 ≤ x125 then (if x125 < (x123.length : Int) then (if rdOf false x123 x125 = true then (comfitlaw02_LotsShort.l0 k x0 x1 x13 x14 (wrap64 (x15 + 1)) x123 x124 (wrap64 (x125 + 1))) else (comfitlaw02_LotsShort.l0 k x0 x1 x13 x14 x15 x123 x124 (wrap64 (x125 + 1)))) else (none)) else (none)) else (if x14 = true then (if (wrap64 ((wrap64 (x15 + x0)) - x13)) ≤ x1 then ((comfitlaw02_awake.f k).bind fun t771 => (some t771)) else (some false)) else (if x15 > x1 then ((comfitlaw02_awake.f k).bind fun t772 => (some t772)) else (some false)))
end
def comfitlaw02_LotsShort.f (k : Nat) (a0 : Int) (a1 : Int) (l2 : List Bool) : Option (Bool) := (lots_Single.f a0 a1).bind fun bt737 => ((lots_Short.f a0 a1).bind fun bt745 => (if bt737.2.2 = 0 then (if bt745.2.2 = 0 then ((comfitref02_Numbers.f a0 a1).bind fun t753 => (comfitlaw02_LotsShort.j0 k a0 a1 l2 bt737.2.2 bt745.2.2 (!t753) bt737.1 bt737.2.1 bt745.1 bt745.2.1)) else (comfitlaw02_LotsShort.j0 k a0 a1 l2 bt737.2.2 bt745.2.2 true bt737.1 bt737.2.1 bt745.1 bt745.2.1)) else (comfitlaw02_LotsShort.j0 k a0 a1 l2 bt737.2.2 bt745.2.2 true bt737.1 bt737.2.1 bt745.1 bt745.2.1)))
theorem comfitlaw02_LotsShort.mono_l : ∀ k, (∀ y0 y1 y2 y3 y4 y5 y6 y7 y8 y9, LeO (comfitlaw02_LotsShort.j0 k y0 y1 y2 y3 y4 y5 y6 y7 y8 y9) (comfitlaw02_LotsShort.j0 (k + 1) y0 y1 y2 y3 y4 y5 y6 y7 y8 y9)) ∧ (∀ y0 y1 y2 y3 y4 y5 y6 y7 y8 y9, LeO (comfitlaw02_LotsShort.j1 k y0 y1 y2 y3 y4 y5 y6 y7 y8 y9) (comfitlaw02_LotsShort.j1 (k + 1) y0 y1 y2 y3 y4 y5 y6 y7 y8 y9)) ∧ (∀ y0 y1 y2 y3 y4 y5, LeO (comfitlaw02_LotsShort.j2 k y0 y1 y2 y3 y4 y5) (comfitlaw02_LotsShort.j2 (k + 1) y0 y1 y2 y3 y4 y5)) ∧ (∀ y0 y1 y2 y3 y4 y5 y6 y7, LeO (comfitlaw02_LotsShort.l0 k y0 y1 y2 y3 y4 y5 y6 y7) (comfitlaw02_LotsShort.l0 (k + 1) y0 y1 y2 y3 y4 y5 y6 y7))
 | 0 => ⟨fun _ _ _ _ _ _ _ _ _ _ r h => by simp [comfitlaw02_LotsShort.j0] at h, fun _ _ _ _ _ _ _ _ _ _ r h => by simp [comfitlaw02_LotsShort.j1] at h, fun _ _ _ _ _ _ r h => by simp [comfitlaw02_LotsShort.j2] at h, fun _ _ _ _ _ _ _ _ r h => by simp [comfitlaw02_LotsShort.l0] at h⟩
 | k + 1 => by
  obtain ⟨ih0, ih1, ih2, ih3⟩ := comfitlaw02_LotsShort.mono_l k
  refine ⟨?_, ?_, ?_, ?_⟩
  ·intro y0 y1 y2 y3 y4 y5 y6 y7 y8 y9
   unfold comfitlaw02_LotsShort.j0
   repeat' first
   | (with_reducible exact ih0 _ _ _ _ _ _ _ _ _ _)
   | (with_reducible exact ih1 _ _ _ _ _ _ _ _ _ _)
   | (with_reducible exact ih2 _ _ _ _ _ _)
   | (with_reducible exact ih3 _ _ _ _ _ _ _ _)
   | (with_reducible exact comfitlaw02_awake.mono _)
   | (with_reducible exact lots_Run.mono _ _ _ _)
   | (with_reducible exact LeO.refl _)
   | (with_reducible exact LeO.none _)
   | (with_reducible refine LeO.ite ?_ ?_)
   | (with_reducible refine LeO.bind ?_ (fun _ => ?_))
   | exact ih0 _ _ _ _ _ _ _ _ _ _
   | exact ih1 _ _ _ _ _ _ _ _ _ _
   | exact ih2 _ _ _ _ _ _
   | exact ih3 _ _ _ _ _ _ _ _
   | exact comfitlaw02_awake.mono _
   | exact lots_Run.mono _ _ _ _
   | exact LeO.none _
   | refine LeO.ite ?_ ?_
   | refine LeO.bind ?_ (fun _ => ?_)
  ·intro y0 y1 y2 y3 y4 y5 y6 y7 y8 y9
   unfold comfitlaw02_LotsShort.j1
   repeat' first
   | (with_reducible exact ih0 _ _ _ _ _ _ _ _ _ _)
   | (with_reducible exact ih1 _ _ _ _ _ _ _ _ _ _)
   | (with_reducible exact ih2 _ _ _ _ _ _)
   | (with_reducible exact ih3 _ _ _ _ _ _ _ _)
   | (with_reducible exact comfitlaw02_awake.mono _)
   | (with_reducible exact lots_Run.mono _ _ _ _)
   | (with_reducible exact LeO.refl _)
   | (with_reducible exact LeO.none _)
   | (with_reducible refine LeO.ite ?_ ?_)
   | (with_reducible refine LeO.bind ?_ (fun _ => ?_))
   | exact ih0 _ _ _ _ _ _ _ _ _ _
   | exact ih1 _ _ _ _ _ _ _ _ _ _
   | exact ih2 _ _ _ _ _ _
   | exact ih3 _ _ _ _ _ _ _ _
   | exact comfitlaw02_awake.mono _
   | exact lots_Run.mono _ _ _ _
   | exact LeO.none _
   | refine LeO.ite ?_ ?_
   | refine LeO.bind ?_ (fun _ => ?_)
  ·intro y0 y1 y2 y3 y4 y5
   unfold comfitlaw02_LotsShort.j2
   repeat' first
   | (with_reducible exact ih0 _ _ _ _ _ _ _ _ _ _)
   | (with_reducible exact ih1 _ _ _ _ _ _ _ _ _ _)
   | (with_reducible exact ih2 _ _ _ _ _ _)
   | (with_reducible exact ih3 _ _ _ _ _ _ _ _)
   | (with_reducible exact comfitlaw02_awake.mono _)
   | (with_reducible exact lots_Run.mono _ _ _ _)
   | (with_reducible exact LeO.refl _)
   | (with_reducible exact LeO.none _)
   | (with_reducible refine LeO.ite ?_ ?_)
   | (with_reducible refine LeO.bind ?_ (fun _ => ?_))
   | exact ih0 _ _ _ _ _ _ _ _ _ _
   | exact ih1 _ _ _ _ _ _ _ _ _ _
   | exact ih2 _ _ _ _ _ _
   | exact ih3 _ _ _ _ _ _ _ _
   | exact comfitlaw02_awake.mono _
   | exact lots_Run.mono _ _ _ _
   | exact LeO.none _
   | refine LeO.ite ?_ ?_
   | refine LeO.bind ?_ (fun _ => ?_)
  ·intro y0 y1 y2 y3 y4 y5 y6 y7
   unfold comfitlaw02_LotsShort.l0
   repeat' first
   | (with_reducible exact ih0 _ _ _ _ _ _ _ _ _ _)
   | (with_reducible exact ih1 _ _ _ _ _ _ _ _ _ _)
   | (with_reducible exact ih2 _ _ _ _ _ _)
   | (with_reducible exact ih3 _ _ _ _ _ _ _ _)
   | (with_reducible exact comfitlaw02_awake.mono _)
   | (with_reducible exact lots_Run.mono _ _ _ _)
   | (with_reducible exact LeO.refl _)
   | (with_reducible exact LeO.none _)
   | (with_reducible refine LeO.ite ?_ ?_)
   | (with_reducible refine LeO.bind ?_ (fun _ => ?_))
   | exact ih0 _ _ _ _ _ _ _ _ _ _
   | exact ih1 _ _ _ _ _ _ _ _ _ _
   | exact ih2 _ _ _ _ _ _
   | exact ih3 _ _ _ _ _ _ _ _
   | exact comfitlaw02_awake.mono _
   | exact lots_Run.mono _ _ _ _
   | exact LeO.none _
   | refine LeO.ite ?_ ?_
   | refine LeO.bind ?_ (fun _ => ?_)
theorem comfitlaw02_LotsShort.mono : ∀ a0 a1 a2 k, LeO (comfitlaw02_LotsShort.f k a0 a1 a2) (comfitlaw02_LotsShort.f (k + 1) a0 a1 a2) := by
 intro a0 a1 a2 k
 obtain ⟨ih0, ih1, ih2, ih3⟩ := comfitlaw02_LotsShort.mono_l k
 unfold comfitlaw02_LotsShort.f
 repeat' first
   | (with_reducible exact ih0 _ _ _ _ _ _ _ _ _ _)
   | (with_reducible exact ih1 _ _ _ _ _ _ _ _ _ _)
   | (with_reducible exact ih2 _ _ _ _ _ _)
   | (with_reducible exact ih3 _ _ _ _ _ _ _ _)
   | (with_reducible exact comfitlaw02_awake.mono _)
   | (with_reducible exact lots_Run.mono _ _ _ _)
   | (with_reducible exact LeO.refl _)
   | (with_reducible exact LeO.none _)
   | (with_reducible refine LeO.ite ?_ ?_)
   | (with_reducible refine LeO.bind ?_ (fun _ => ?_))
   | exact ih0 _ _ _ _ _ _ _ _ _ _
   | exact ih1 _ _ _ _ _ _ _ _ _ _
   | exact ih2 _ _ _ _ _ _
   | exact ih3 _ _ _ _ _ _ _ _
   | exact comfitlaw02_awake.mono _
   | exact lots_Run.mono _ _ _ _
   | exact LeO.none _
   | refine LeO.ite ?_ ?_
   | refine LeO.bind ?_ (fun _ => ?_)
def comfitlaw02_LotsShort.T5 : Bool × List (List Nat × List Nat) := (true, [([], []), ([], []), ([], []), ([2], [2]), ([3], [3]), ([1, 4], [1, 4]), ([5], [5]), ([0, 6, 6], [0, 6]), ([7], [7]), ([8], [8]), ([8], [8]), ([8], [8]), ([9, 7, 0, 1, 2, 3, 4, 5, 6, 7, 8, 9], [9]), ([10, 12, 0, 1, 2, 3, 4, 5, 6, 7, 8, 9, 10, 12], [10]), ([11, 13, 0, 1, 2, 3, 4, 5, 6, 7, 8, 9, 10, 11, 12, 13], [11])])
def comfitlaw02_LotsShort.B5 : List Nat := [0, 0, 0, 4, 12, 30, 62, 127, 255, 511, 511, 511, 1023, 6143, 16383]
theorem comfitlaw02_LotsShort.tab5 : rtab .any (opsOf Try.f17 5) = comfitlaw02_LotsShort.T5 := by kernel_rfl
theorem comfitlaw02_LotsShort.bits5 : waitsOk comfitlaw02_LotsShort.T5.2 comfitlaw02_LotsShort.B5 = true := by kernel_rfl
def comfitlaw02_LotsShort.T6 : Bool × List (List Nat × List Nat) := (true, [([], []), ([], []), ([], []), ([2], [2]), ([3], [3]), ([1, 4], [1, 4]), ([5], [5]), ([0, 6, 6], [0, 6]), ([7], [7]), ([8], [8]), ([8], [8]), ([8], [8]), ([9, 7, 0, 1, 2, 3, 4, 5, 6, 7, 8, 9], [9]), ([10, 12, 0, 1, 2, 3, 4, 5, 6, 7, 8, 9, 10, 12], [10]), ([11, 13, 0, 1, 2, 3, 4, 5, 6, 7, 8, 9, 10, 11, 12, 13], [11])])
def comfitlaw02_LotsShort.B6 : List Nat := [0, 0, 0, 4, 12, 30, 62, 127, 255, 511, 511, 511, 1023, 6143, 16383]
theorem comfitlaw02_LotsShort.tab6 : rtab .any (opsOf Try.f17 6) = comfitlaw02_LotsShort.T6 := by kernel_rfl
theorem comfitlaw02_LotsShort.bits6 : waitsOk comfitlaw02_LotsShort.T6.2 comfitlaw02_LotsShort.B6 = true := by kernel_rfl
set_option maxHeartbeats 8000000 in
set_option maxRecDepth 100000 in
theorem comfitlaw02_LotsShort.calls (k : Nat) (a0 : Int) (a1 : Int) (A2 : Option Addr) (c2 : Nat) (l2 : List Bool) (r : Bool) (w : World) (hr2 : Kd.C Kd.bool w A2 l2.length l2) (hc2 : l2.length ≤ c2) (h : comfitlaw02_LotsShort.f k a0 a1 l2 = some r) :
  Calls Try.prog 17 #[.int .i64 a0, .int .i64 a1, .slice A2 l2.length c2] w fun e w' => e = .returned (.bool r) ∧ Below w.heap.size w w' := by
 have hu32 := Try.underlying32
 have HR2 := Aside0.mk hr2
 have HC2 := Aside0.mk hc2
 clear hr2 hc2
 have HB := Aside0.mk (Below.refl w.heap.size w)
 have H : ((lots_Single.f a0 a1).bind fun bt737 => ((lots_Short.f a0 a1).bind fun bt745 => (if bt737.2.2 = 0 then (if bt745.2.2 = 0 then ((comfitref02_Numbers.f a0 a1).bind fun t753 => (comfitlaw02_LotsShort.j0 k a0 a1 l2 bt737.2.2 bt745.2.2 (!t753) bt737.1 bt737.2.1 bt745.1 bt745.2.1)) else (comfitlaw02_LotsShort.j0 k a0 a1 l2 bt737.2.2 bt745.2.2 true bt737.1 bt737.2.1 bt745.1 bt745.2.1)) else (comfitlaw02_LotsShort.j0 k a0 a1 l2 bt737.2.2 bt745.2.2 true bt737.1 bt737.2.1 bt745.1 bt745.2.1)))) = some r := h
 clear h
 replace H := Option.bind_eq_some_iff.mp H
 obtain ⟨⟨t737, t740, t743⟩, A40, H⟩ := H
 replace H : ((lots_Short.f a0 a1).bind fun bt745 => (if t743 = 0 then (if bt745.2.2 = 0 then ((comfitref02_Numbers.f a0 a1).bind fun t753 => (comfitlaw02_LotsShort.j0 k a0 a1 l2 t743 bt745.2.2 (!t753) t737 t740 bt745.1 bt745.2.1)) else (comfitlaw02_LotsShort.j0 k a0 a1 l2 t743 bt745.2.2 true t737 t740 bt745.1 bt745.2.1)) else (comfitlaw02_LotsShort.j0 k a0 a1 l2 t743 bt745.2.2 true t737 t740 bt745.1 bt745.2.1))) = some r := H
 have A4 := Aside0.mk A40
 clear A40
 replace H := Option.bind_eq_some_iff.mp H
 obtain ⟨⟨t745, t748, t751⟩, A50, H⟩ := H
 replace H : (if t743 = 0 then (if t751 = 0 then ((comfitref02_Numbers.f a0 a1).bind fun t753 => (comfitlaw02_LotsShort.j0 k a0 a1 l2 t743 t751 (!t753) t737 t740 t745 t748)) else (comfitlaw02_LotsShort.j0 k a0 a1 l2 t743 t751 true t737 t740 t745 t748)) else (comfitlaw02_LotsShort.j0 k a0 a1 l2 t743 t751 true t737 t740 t745 t748)) = some r := H
 have A5 := Aside0.mk A50
 clear A50
 have HC6 := Aside0.mk H
 clear H
 go_enter Try.func17, Try.ntmps17
 go_upto_region 3 with (first | ((with_reducible refine gate_callee (f := 45) rfl ?_); refine goesL_ (some 21) rfl rfl Try.func45 (by kernel_rfl) rfl #[.int .i64 a0, .int .i64 a1] rfl al_ ?_; (with_reducible refine (lots_Single.calls a0 a1 t737 t740 t743 _ A4.out).mono ?_); rintro e w7 ⟨v738, v741, rfl, ho0, ho1, hb⟩; refine ⟨_, rfl, ?_⟩; have n0_ := Aside0.mk (Kd.R_lower ho0 (below_size (hb_ HB.out))); have n1_ := Aside0.mk (Kd.R_lower ho1 (below_size (hb_ HB.out))); have n2_ := Aside0.mk (below_step (hb_ HB.out) hb); clear HB; have HO739 := n0_; have HO742 := n1_; have HB := n2_; clear n0_ n1_ n2_; (try clear hb); (try clear hb2); (try clear hk); (try clear hi); (try clear ho0); (try clear ho1)) | ((with_reducible refine gate_dst (N := 7) rfl ?_); (try (refine gate_guard (by rfl) ?_; dsimp only)); refine box_event ?hg (N := 7) ?hd (cs := #[.slice none 0 0, .slice none 0 0]) (t := 32) ?hr ?_; (case hd => rfl); (case hg => rfl); (case hr => first | (go_simp; done) | (go_simp; rfl)); intro gb744 hg w8 hbox hb; have n0_ := Aside0.mk (Kd.R_below (kr_ (HO739.out)) hb); have n1_ := Aside0.mk (Kd.R_below (kr_ (HO742.out)) hb); have n2_ := Aside0.mk (below_step (hb_ HB.out) hb); have n3_ := Aside0.mk (hbox); have n4_ := Aside0.mk ((by rw [hg]; exact (below_size (hb_ HB.out)) : w.heap.size ≤ gb744)); have n5_ := Aside0.mk ((by rw [hg]; exact (below_size (hb_ HB.out)) : w.heap.size ≤ gb744)); clear HO739; clear HO742; clear HB; have HO739 := n0_; have HO742 := n1_; have HB := n2_; have BK744 := n3_; have GW744 := n4_; have GE744 := n5_; clear n0_ n1_ n2_ n3_ n4_ n5_; clear hb hbox hg; obtain ⟨Ao9, co9, eo9⟩ := Kd.R_slice HO739.out; subst eo9; have hcz10_0 : w8.cell? ⟨gb744, 0, none⟩ = some (.slice none 0 0) := (blk_cell BK744.out 0).trans rfl; have hcz10_1 : w8.cell? ⟨gb744, 1, none⟩ = some (.slice none 0 0) := (blk_cell BK744.out 1).trans rfl; have hfz10_0 := blk_frozen BK744.out 0; have hfz10_1 := blk_frozen BK744.out 1; obtain ⟨Ao11, co11, eo11⟩ := Kd.R_slice HO742.out; subst eo11) | ((with_reducible refine gate_callee (f := 46) rfl ?_); refine goesL_ (some 27) rfl rfl Try.func46 (by kernel_rfl) rfl #[.int .i64 a0, .int .i64 a1] rfl al_ ?_; (with_reducible refine (lots_Short.calls a0 a1 t745 t748 t751 _ A5.out).mono ?_); rintro e w12 ⟨v746, v749, rfl, ho0, ho1, hb⟩; refine ⟨_, rfl, ?_⟩; have n0_ := Aside0.mk (Kd.R_mono (Kd.R_told (Kd.R_told (Kd.R_old (by (with_reducible repeat (first | apply Kd.R_alloc | apply Kd.R_drewN | apply Kd.R_drew)); exact (Kd.R_mono (Kd.R_far (p := ⟨gb744, 1, none⟩) (Kd.R_far (p := ⟨gb744, 0, none⟩) (Kd.R_types HO739.out BK744.out (by decide)) (fun _ hk => hk.2) (.slice Ao9 t737.length co9)) (fun _ hk => hk.2) (.slice Ao11 t740.length co11)) (fun _ h_ => h_.1))) hb) (Kd.R_base ho0)) (Kd.R_base ho1)) (fun _ h_ => h_.1)); have n1_ := Aside0.mk (Kd.R_mono (Kd.R_told (Kd.R_told (Kd.R_old (by (with_reducible repeat (first | apply Kd.R_alloc | apply Kd.R_drewN | apply Kd.R_drew)); exact (Kd.R_mono (Kd.R_far (p := ⟨gb744, 1, none⟩) (Kd.R_far (p := ⟨gb744, 0, none⟩) (Kd.R_types HO742.out BK744.out (by decide)) (fun _ hk => hk.2) (.slice Ao9 t737.length co9)) (fun _ hk => hk.2) (.slice Ao11 t740.length co11)) (fun _ h_ => h_.1))) hb) (Kd.R_base ho0)) (Kd.R_base ho1)) (fun _ h_ => h_.1)); have n2_ := Aside0.mk (Kd.R_lower (Kd.R_new' (Kd.R_new' ho0 (Kd.R_lt (by (with_reducible repeat (first | apply Kd.R_alloc | apply Kd.R_drewN | apply Kd.R_drew)); exact (Kd.R_mono (Kd.R_far (p := ⟨gb744, 1, none⟩) (Kd.R_far (p := ⟨gb744, 0, none⟩) (Kd.R_types HO739.out BK744.out (by decide)) (fun _ hk => hk.2) (.slice Ao9 t737.length co9)) (fun _ hk => hk.2) (.slice Ao11 t740.length co11)) (fun _ h_ => h_.1))))) (Kd.R_lt (by (with_reducible repeat (first | apply Kd.R_alloc | apply Kd.R_drewN | apply Kd.R_drew)); exact (Kd.R_mono (Kd.R_far (p := ⟨gb744, 1, none⟩) (Kd.R_far (p := ⟨gb744, 0, none⟩) (Kd.R_types HO742.out BK744.out (by decide)) (fun _ hk => hk.2) (.slice Ao9 t737.length co9)) (fun _ hk => hk.2) (.slice Ao11 t740.length co11)) (fun _ h_ => h_.1))))) (below_size (hb_ HB.out))); have n3_ := Aside0.mk (Kd.R_lower (Kd.R_new' (Kd.R_new' ho1 (Kd.R_lt (by (with_reducible repeat (first | apply Kd.R_alloc | apply Kd.R_drewN | apply Kd.R_drew)); exact (Kd.R_mono (Kd.R_far (p := ⟨gb744, 1, none⟩) (Kd.R_far (p := ⟨gb744, 0, none⟩) (Kd.R_types HO739.out BK744.out (by decide)) (fun _ hk => hk.2) (.slice Ao9 t737.length co9)) (fun _ hk => hk.2) (.slice Ao11 t740.length co11)) (fun _ h_ => h_.1))))) (Kd.R_lt (by (with_reducible repeat (first | apply Kd.R_alloc | apply Kd.R_drewN | apply Kd.R_drew)); exact (Kd.R_mono (Kd.R_far (p := ⟨gb744, 1, none⟩) (Kd.R_far (p := ⟨gb744, 0, none⟩) (Kd.R_types HO742.out BK744.out (by decide)) (fun _ hk => hk.2) (.slice Ao9 t737.length co9)) (fun _ hk => hk.2) (.slice Ao11 t740.length co11)) (fun _ h_ => h_.1))))) (below_size (hb_ HB.out))); have n4_ := Aside0.mk (blk_below (g := gb744) (o := .cells #[.slice Ao9 t737.length co9, .slice Ao11 t740.length co11] 32 (0, 0)) (by (with_reducible repeat (first | refine blk_drewN ?_ _ | refine blk_drew ?_ | refine blk_alloc ?_ _)); refine blk_put (cs := #[.slice Ao9 t737.length co9, .slice none 0 0]) ?_ 1 _ rfl; (with_reducible repeat (first | refine blk_drewN ?_ _ | refine blk_drew ?_ | refine blk_alloc ?_ _)); refine blk_put (cs := #[.slice none 0 0, .slice none 0 0]) ?_ 0 _ rfl; (with_reducible repeat (first | refine blk_drewN ?_ _ | refine blk_drew ?_ | refine blk_alloc ?_ _)); exact BK744.out) hb); have n5_ := Aside0.mk (below_step (hb_ HB.out) hb); clear HO739; clear HO742; clear BK744; clear HB; have HO739 := n0_; have HO742 := n1_; have HO747 := n2_; have HO750 := n3_; have BK744 := n4_; have HB := n5_; clear n0_ n1_ n2_ n3_ n4_ n5_; (try clear hb); (try clear hb2); (try clear hk); (try clear hi); (try clear ho0); (try clear ho1)) | ((with_reducible refine gate_dst (N := 9) rfl ?_); (try (refine gate_guard (by rfl) ?_; dsimp only)); refine box_event ?hg (N := 9) ?hd (cs := #[.slice none 0 0, .slice none 0 0]) (t := 32) ?hr ?_; (case hd => rfl); (case hg => rfl); (case hr => first | (go_simp; done) | (go_simp; rfl)); intro gb752 hg w13 hbox hb; have n0_ := Aside0.mk (Kd.R_below (kr_ (HO739.out)) hb); have n1_ := Aside0.mk (Kd.R_below (kr_ (HO742.out)) hb); have n2_ := Aside0.mk (Kd.R_below (kr_ (HO747.out)) hb); have n3_ := Aside0.mk (Kd.R_below (kr_ (HO750.out)) hb); have n4_ := Aside0.mk (bkb_ BK744.out hb); have n5_ := Aside0.mk (below_step (hb_ HB.out) hb); have n6_ := Aside0.mk (hbox); have n7_ := Aside0.mk ((by rw [hg]; exact (below_size (hb_ HB.out)) : w.heap.size ≤ gb752)); have n8_ := Aside0.mk ((by rw [hg]; exact (below_size (hb_ HB.out)) : w.heap.size ≤ gb752)); have n9_ := Aside0.mk ((by rw [hg]; exact Nat.ne_of_lt (bkl_ BK744.out) : gb744 ≠ gb752)); have n10_ := Aside0.mk ((by rw [hg]; exact Nat.ne_of_gt (bkl_ BK744.out) : gb752 ≠ gb744)); clear HO739; clear HO742; clear HO747; clear HO750; clear BK744; clear HB; have HO739 := n0_; have HO742 := n1_; have HO747 := n2_; have HO750 := n3_; have BK744 := n4_; have HB := n5_; have BK752 := n6_; have GW752 := n7_; have GE752 := n8_; have NB744_752 := n9_; have NB752_744 := n10_; clear n0_ n1_ n2_ n3_ n4_ n5_ n6_ n7_ n8_ n9_ n10_; clear hb hbox hg; obtain ⟨Ao14, co14, eo14⟩ := Kd.R_slice HO747.out; subst eo14; have hnb15 := NB752_744.out; have hnc15 := NB744_752.out; have hcz16_0 : w13.cell? ⟨gb752, 0, none⟩ = some (.slice none 0 0) := (blk_cell BK752.out 0).trans rfl; have hcz16_1 : w13.cell? ⟨gb752, 1, none⟩ = some (.slice none 0 0) := (blk_cell BK752.out 1).trans rfl; have hfz16_0 := blk_frozen BK752.out 0; have hfz16_1 := blk_frozen BK752.out 1; obtain ⟨Ao17, co17, eo17⟩ := Kd.R_slice HO750.out; subst eo17))
 (try simp only [Act.put, List.setIfInBounds_toArray, List.set_cons_zero, List.set_cons_succ])
 go_cut [41] (fun v41 wc => ∃ (kq : Nat) (x41_5 : Bool), v41 = .bool x41_5 ∧ Aside0 (comfitlaw02_LotsShort.j0 kq a0 a1 l2 t743 t751 x41_5 t737 t740 t745 t748 = some r) ∧ Aside0 (kq ≤ k) ∧ Aside0 (Kd.R (Kd.int .i64) 3 wc w.heap.size (fun k_ => some k_ ≠ ((.slice Ao11 t740.length co11) : Value).ownBlock ∧ some k_ ≠ ((.slice Ao14 t745.length co14) : Value).ownBlock ∧ some k_ ≠ ((.slice Ao17 t748.length co17) : Value).ownBlock) (.slice Ao9 t737.length co9) t737) ∧ Aside0 (Kd.R (Kd.int .i64) 3 wc w.heap.size (fun k_ => some k_ ≠ ((.slice Ao9 t737.length co9) : Value).ownBlock ∧ some k_ ≠ ((.slice Ao14 t745.length co14) : Value).ownBlock ∧ some k_ ≠ ((.slice Ao17 t748.length co17) : Value).ownBlock) (.slice Ao11 t740.length co11) t740) ∧ Aside0 (Kd.R (Kd.int .i64) 3 wc w.heap.size (fun k_ => some k_ ≠ ((.slice Ao9 t737.length co9) : Value).ownBlock ∧ some k_ ≠ ((.slice Ao11 t740.length co11) : Value).ownBlock ∧ some k_ ≠ ((.slice Ao17 t748.length co17) : Value).ownBlock) (.slice Ao14 t745.length co14) t745) ∧ Aside0 (Kd.R (Kd.int .i64) 3 wc w.heap.size (fun k_ => some k_ ≠ ((.slice Ao9 t737.length co9) : Value).ownBlock ∧ some k_ ≠ ((.slice Ao11 t740.length co11) : Value).ownBlock ∧ some k_ ≠ ((.slice Ao14 t745.length co14) : Value).ownBlock) (.slice Ao17 t748.length co17) t748) ∧ Aside0 (wc.heap[gb744]? = some (.cells #[(.slice Ao9 t737.length co9), (.slice Ao11 t740.length co11)] 32 (0, 0))) ∧ Aside0 (wc.heap[gb752]? = some (.cells #[(.slice Ao14 t745.length co14), (.slice Ao17 t748.length co17)] 32 (0, 0))) ∧ Aside0 (Below w.heap.size w wc))
 case first =>
  have H := HC6.out
  clear HC6
  by_cases c18 : t743 = 0
  ·rw [if_pos c18] at H
   have c18b0 : (t743 == 0) = true := beq_iff_eq.mpr c18
   have c18b1 : (t743 != 0) = false := bne_eq_false_iff_eq.mpr c18
   clear c18
   (first | rw [c18b0] | (simp only [i64_w, i32_w]; rw [c18b0]) | skip)
   by_cases c19 : t751 = 0
   ·rw [if_pos c19] at H
    have c19b0 : (t751 == 0) = true := beq_iff_eq.mpr c19
    have c19b1 : (t751 != 0) = false := bne_eq_false_iff_eq.mpr c19
    clear c19
    replace H := Option.bind_eq_some_iff.mp H
    obtain ⟨t753, A200, H⟩ := H
    replace H : (comfitlaw02_LotsShort.j0 k a0 a1 l2 t743 t751 (!t753) t737 t740 t745 t748) = some r := H
    have A20 := Aside0.mk A200
    clear A200
    have H' := Aside0.mk H
    clear H
    go_wp2_with (first | (go_at_call 47; (with_reducible refine (comfitref02_Numbers.calls a0 a1 t753 _ A20.out).mono ?_); rintro e w' ⟨rfl, ⟨nd, rfl⟩⟩))
    go_meet
    case rel => exact ⟨_, (!t753), (by first | rfl | (simp; done) | (simp [*]; done)), H', ⟨by first | omega | exact Nat.le_refl _⟩, ⟨by (with_reducible repeat (first | apply Kd.R_alloc | apply Kd.R_drewN | apply Kd.R_drew)); exact Kd.R_mono (Kd.R_far (p := ⟨gb752, 1, none⟩) (Kd.R_far (p := ⟨gb752, 0, none⟩) (Kd.R_types HO739.out BK752.out (by decide)) (fun _ hk => hk.2) (.slice Ao14 t745.length co14)) (fun _ hk => hk.2) (.slice Ao17 t748.length co17)) (fun _ hk => ⟨hk.1.1.1, ⟨hk.1.1.2, hk.1.2⟩⟩)⟩, ⟨by (with_reducible repeat (first | apply Kd.R_alloc | apply Kd.R_drewN | apply Kd.R_drew)); exact Kd.R_mono (Kd.R_far (p := ⟨gb752, 1, none⟩) (Kd.R_far (p := ⟨gb752, 0, none⟩) (Kd.R_types HO742.out BK752.out (by decide)) (fun _ hk => hk.2) (.slice Ao14 t745.length co14)) (fun _ hk => hk.2) (.slice Ao17 t748.length co17)) (fun _ hk => ⟨hk.1.1.1, ⟨hk.1.1.2, hk.1.2⟩⟩)⟩, ⟨by (with_reducible repeat (first | apply Kd.R_alloc | apply Kd.R_drewN | apply Kd.R_drew)); exact Kd.R_mono (Kd.R_far (p := ⟨gb752, 1, none⟩) (Kd.R_far (p := ⟨gb752, 0, none⟩) (Kd.R_types HO747.out BK752.out (by decide)) (fun _ hk => hk.2) (.slice Ao14 t745.length co14)) (fun _ hk => hk.2) (.slice Ao17 t748.length co17)) (fun _ hk => ⟨hk.1.1.2, ⟨hk.1.2, hk.1.1.1⟩⟩)⟩, ⟨by (with_reducible repeat (first | apply Kd.R_alloc | apply Kd.R_drewN | apply Kd.R_drew)); exact Kd.R_mono (Kd.R_far (p := ⟨gb752, 1, none⟩) (Kd.R_far (p := ⟨gb752, 0, none⟩) (Kd.R_types HO750.out BK752.out (by decide)) (fun _ hk => hk.2) (.slice Ao14 t745.length co14)) (fun _ hk => hk.2) (.slice Ao17 t748.length co17)) (fun _ hk => ⟨hk.1.1.2, ⟨hk.1.2, hk.1.1.1⟩⟩)⟩, ⟨by (with_reducible repeat (first | refine blk_drewN ?_ _ | refine blk_drew ?_ | refine blk_alloc ?_ _)); refine blk_far ?_ NB744_752.out _; (with_reducible repeat (first | refine blk_drewN ?_ _ | refine blk_drew ?_ | refine blk_alloc ?_ _)); refine blk_far ?_ NB744_752.out _; (with_reducible repeat (first | refine blk_drewN ?_ _ | refine blk_drew ?_ | refine blk_alloc ?_ _)); exact BK744.out⟩, ⟨by (with_reducible repeat (first | refine blk_drewN ?_ _ | refine blk_drew ?_ | refine blk_alloc ?_ _)); refine blk_put (cs := #[.slice Ao14 t745.length co14, .slice none 0 0]) ?_ 1 _ rfl; (with_reducible repeat (first | refine blk_drewN ?_ _ | refine blk_drew ?_ | refine blk_alloc ?_ _)); refine blk_put (cs := #[.slice none 0 0, .slice none 0 0]) ?_ 0 _ rfl; (with_reducible repeat (first | refine blk_drewN ?_ _ | refine blk_drew ?_ | refine blk_alloc ?_ _)); exact BK752.out⟩, ⟨by repeat (first | (with_reducible first | exact HB.out | apply below_alloc | apply pw_below_drewN | apply below_drew1 | refine below_set ?_ GE744.out | refine below_set ?_ GE752.out) | exact HB.out)⟩⟩
   ·rw [if_neg c19] at H
    have c19b0 : (t751 == 0) = false := beq_eq_false_iff_ne.mpr c19
    have c19b1 : (t751 != 0) = true := bne_iff_ne.mpr c19
    have H' := Aside0.mk H
    clear H
    go_wp2
    go_meet
    case rel => exact ⟨_, (true), (by first | rfl | (simp; done) | (simp [*]; done)), H', ⟨by first | omega | exact Nat.le_refl _⟩, ⟨by (with_reducible repeat (first | apply Kd.R_alloc | apply Kd.R_drewN | apply Kd.R_drew)); exact Kd.R_mono (Kd.R_far (p := ⟨gb752, 1, none⟩) (Kd.R_far (p := ⟨gb752, 0, none⟩) (Kd.R_types HO739.out BK752.out (by decide)) (fun _ hk => hk.2) (.slice Ao14 t745.length co14)) (fun _ hk => hk.2) (.slice Ao17 t748.length co17)) (fun _ hk => ⟨hk.1.1.1, ⟨hk.1.1.2, hk.1.2⟩⟩)⟩, ⟨by (with_reducible repeat (first | apply Kd.R_alloc | apply Kd.R_drewN | apply Kd.R_drew)); exact Kd.R_mono (Kd.R_far (p := ⟨gb752, 1, none⟩) (Kd.R_far (p := ⟨gb752, 0, none⟩) (Kd.R_types HO742.out BK752.out (by decide)) (fun _ hk => hk.2) (.slice Ao14 t745.length co14)) (fun _ hk => hk.2) (.slice Ao17 t748.length co17)) (fun _ hk => ⟨hk.1.1.1, ⟨hk.1.1.2, hk.1.2⟩⟩)⟩, ⟨by (with_reducible repeat (first | apply Kd.R_alloc | apply Kd.R_drewN | apply Kd.R_drew)); exact Kd.R_mono (Kd.R_far (p := ⟨gb752, 1, none⟩) (Kd.R_far (p := ⟨gb752, 0, none⟩) (Kd.R_types HO747.out BK752.out (by decide)) (fun _ hk => hk.2) (.slice Ao14 t745.length co14)) (fun _ hk => hk.2) (.slice Ao17 t748.length co17)) (fun _ hk => ⟨hk.1.1.2, ⟨hk.1.2, hk.1.1.1⟩⟩)⟩, ⟨by (with_reducible repeat (first | apply Kd.R_alloc | apply Kd.R_drewN | apply Kd.R_drew)); exact Kd.R_mono (Kd.R_far (p := ⟨gb752, 1, none⟩) (Kd.R_far (p := ⟨gb752, 0, none⟩) (Kd.R_types HO750.out BK752.out (by decide)) (fun _ hk => hk.2) (.slice Ao14 t745.length co14)) (fun _ hk => hk.2) (.slice Ao17 t748.length co17)) (fun _ hk => ⟨hk.1.1.2, ⟨hk.1.2, hk.1.1.1⟩⟩)⟩, ⟨by (with_reducible repeat (first | refine blk_drewN ?_ _ | refine blk_drew ?_ | refine blk_alloc ?_ _)); refine blk_far ?_ NB744_752.out _; (with_reducible repeat (first | refine blk_drewN ?_ _ | refine blk_drew ?_ | refine blk_alloc ?_ _)); refine blk_far ?_ NB744_752.out _; (with_reducible repeat (first | refine blk_drewN ?_ _ | refine blk_drew ?_ | refine blk_alloc ?_ _)); exact BK744.out⟩, ⟨by (with_reducible repeat (first | refine blk_drewN ?_ _ | refine blk_drew ?_ | refine blk_alloc ?_ _)); refine blk_put (cs := #[.slice Ao14 t745.length co14, .slice none 0 0]) ?_ 1 _ rfl; (with_reducible repeat (first | refine blk_drewN ?_ _ | refine blk_drew ?_ | refine blk_alloc ?_ _)); refine blk_put (cs := #[.slice none 0 0, .slice none 0 0]) ?_ 0 _ rfl; (with_reducible repeat (first | refine blk_drewN ?_ _ | refine blk_drew ?_ | refine blk_alloc ?_ _)); exact BK752.out⟩, ⟨by repeat (first | (with_reducible first | exact HB.out | apply below_alloc | apply pw_below_drewN | apply below_drew1 | refine below_set ?_ GE744.out | refine below_set ?_ GE752.out) | exact HB.out)⟩⟩
  ·rw [if_neg c18] at H
   have c18b0 : (t743 == 0) = false := beq_eq_false_iff_ne.mpr c18
   have c18b1 : (t743 != 0) = true := bne_iff_ne.mpr c18
   (first | rw [c18b0] | (simp only [i64_w, i32_w]; rw [c18b0]) | skip)
   have H' := Aside0.mk H
   clear H
   go_wp2
   go_meet
   case rel => exact ⟨_, (true), (by first | rfl | (simp; done) | (simp [*]; done)), H', ⟨by first | omega | exact Nat.le_refl _⟩, ⟨by (with_reducible repeat (first | apply Kd.R_alloc | apply Kd.R_drewN | apply Kd.R_drew)); exact Kd.R_mono (Kd.R_far (p := ⟨gb752, 1, none⟩) (Kd.R_far (p := ⟨gb752, 0, none⟩) (Kd.R_types HO739.out BK752.out (by decide)) (fun _ hk => hk.2) (.slice Ao14 t745.length co14)) (fun _ hk => hk.2) (.slice Ao17 t748.length co17)) (fun _ hk => ⟨hk.1.1.1, ⟨hk.1.1.2, hk.1.2⟩⟩)⟩, ⟨by (with_reducible repeat (first | apply Kd.R_alloc | apply Kd.R_drewN | apply Kd.R_drew)); exact Kd.R_mono (Kd.R_far (p := ⟨gb752, 1, none⟩) (Kd.R_far (p := ⟨gb752, 0, none⟩) (Kd.R_types HO742.out BK752.out (by decide)) (fun _ hk => hk.2) (.slice Ao14 t745.length co14)) (fun _ hk => hk.2) (.slice Ao17 t748.length co17)) (fun _ hk => ⟨hk.1.1.1, ⟨hk.1.1.2, hk.1.2⟩⟩)⟩, ⟨by (with_reducible repeat (first | apply Kd.R_alloc | apply Kd.R_drewN | apply Kd.R_drew)); exact Kd.R_mono (Kd.R_far (p := ⟨gb752, 1, none⟩) (Kd.R_far (p := ⟨gb752, 0, none⟩) (Kd.R_types HO747.out BK752.out (by decide)) (fun _ hk => hk.2) (.slice Ao14 t745.length co14)) (fun _ hk => hk.2) (.slice Ao17 t748.length co17)) (fun _ hk => ⟨hk.1.1.2, ⟨hk.1.2, hk.1.1.1⟩⟩)⟩, ⟨by (with_reducible repeat (first | apply Kd.R_alloc | apply Kd.R_drewN | apply Kd.R_drew)); exact Kd.R_mono (Kd.R_far (p := ⟨gb752, 1, none⟩) (Kd.R_far (p := ⟨gb752, 0, none⟩) (Kd.R_types HO750.out BK752.out (by decide)) (fun _ hk => hk.2) (.slice Ao14 t745.length co14)) (fun _ hk => hk.2) (.slice Ao17 t748.length co17)) (fun _ hk => ⟨hk.1.1.2, ⟨hk.1.2, hk.1.1.1⟩⟩)⟩, ⟨by (with_reducible repeat (first | refine blk_drewN ?_ _ | refine blk_drew ?_ | refine blk_alloc ?_ _)); refine blk_far ?_ NB744_752.out _; (with_reducible repeat (first | refine blk_drewN ?_ _ | refine blk_drew ?_ | refine blk_alloc ?_ _)); refine blk_far ?_ NB744_752.out _; (with_reducible repeat (first | refine blk_drewN ?_ _ | refine blk_drew ?_ | refine blk_alloc ?_ _)); exact BK744.out⟩, ⟨by (with_reducible repeat (first | refine blk_drewN ?_ _ | refine blk_drew ?_ | refine blk_alloc ?_ _)); refine blk_put (cs := #[.slice Ao14 t745.length co14, .slice none 0 0]) ?_ 1 _ rfl; (with_reducible repeat (first | refine blk_drewN ?_ _ | refine blk_drew ?_ | refine blk_alloc ?_ _)); refine blk_put (cs := #[.slice none 0 0, .slice none 0 0]) ?_ 0 _ rfl; (with_reducible repeat (first | refine blk_drewN ?_ _ | refine blk_drew ?_ | refine blk_alloc ?_ _)); exact BK752.out⟩, ⟨by repeat (first | (with_reducible first | exact HB.out | apply below_alloc | apply pw_below_drewN | apply below_drew1 | refine below_set ?_ GE744.out | refine below_set ?_ GE752.out) | exact HB.out)⟩⟩
 case rest =>
  clear HC6
  try clear c1
  try clear c2
  try clear p2
  try clear c4
  try clear c15
  try clear c17
  try clear c18
  try clear c18b0
  try clear c18b1
  try clear c19
  try clear c19b0
  try clear c19b1
  try clear hcz10_0
  try clear hcz10_1
  try clear hcz16_0
  try clear hcz16_1
  try clear hfz10_0
  try clear hfz10_1
  try clear hfz16_0
  try clear hfz16_1
  obtain ⟨kq, x41_5, rfl, HA, HJ5, HO_745000, HO_745001, HO_753000, HO_753001, BK744, BK752, HB⟩ := hcut
  cases kq with
  | zero => exact absurd HA.out (by simp [comfitlaw02_LotsShort.j0])
  | succ kj5 =>
   have H := HA.out
   clear HA
   simp only [comfitlaw02_LotsShort.j0] at H
   by_cases c21 : x41_5 = true
   ·subst c21
    have H1 : (if t743 = 2 then (if t751 = t743 then ((comfitlaw02_awake.f kj5).bind fun t754 => (some t754)) else (some false)) else (some false)) = some r := by rw [if_pos rfl] at H; exact H
    clear H
    have H := H1
    clear H1
    by_cases c22 : t743 = 2
    ·rw [if_pos c22] at H
     have c22b0 : (t743 == 2) = true := beq_iff_eq.mpr c22
     have c22b1 : (t743 != 2) = false := bne_eq_false_iff_eq.mpr c22
     clear c22
     by_cases c23 : t751 = t743
     ·rw [if_pos c23] at H
      have c23b0 : (t751 == t743) = true := beq_iff_eq.mpr c23
      have c23b1 : (t751 != t743) = false := bne_eq_false_iff_eq.mpr c23
      clear c23
      replace H := Option.bind_eq_some_iff.mp H
      obtain ⟨t754, A240, H⟩ := H
      replace H : (some t754) = some r := H
      have A24 := Aside0.mk A240
      clear A240
      obtain rfl := Option.some.inj H
      go_wp2_with (first | (go_at_call 26; (with_reducible refine (comfitlaw02_awake.calls kj5  t754 _ A24.out).mono ?_); rintro e w25 ⟨rfl, hb⟩; have n0_ := Aside0.mk (Kd.R_below (kr_ (HO_745000.out)) hb); have n1_ := Aside0.mk (Kd.R_below (kr_ (HO_745001.out)) hb); have n2_ := Aside0.mk (Kd.R_below (kr_ (HO_753000.out)) hb); have n3_ := Aside0.mk (Kd.R_below (kr_ (HO_753001.out)) hb); have n4_ := Aside0.mk (bkb_ BK744.out hb); have n5_ := Aside0.mk (bkb_ BK752.out hb); have n6_ := Aside0.mk (below_step (hb_ HB.out) hb); clear HO_745000; clear HO_745001; clear HO_753000; clear HO_753001; clear BK744; clear BK752; clear HB; have HO_745000 := n0_; have HO_745001 := n1_; have HO_753000 := n2_; have HO_753001 := n3_; have BK744 := n4_; have BK752 := n5_; have HB := n6_; clear n0_ n1_ n2_ n3_ n4_ n5_ n6_; (try clear hb); (try clear hb2); (try clear hk); (try clear hi)))
      go_ret
      exact ⟨by first | rfl | (simp [errW_none, errW_some] <;> rfl) | (simp [*, errW_none, errW_some] <;> rfl), by repeat (first | (with_reducible first | exact HB.out | apply below_alloc | apply pw_below_drewN | apply below_drew1 | refine below_set ?_ GE744.out | refine below_set ?_ GE752.out) | exact HB.out)⟩
     ·rw [if_neg c23] at H
      have c23b0 : (t751 == t743) = false := beq_eq_false_iff_ne.mpr c23
      have c23b1 : (t751 != t743) = true := bne_iff_ne.mpr c23
      obtain rfl := Option.some.inj H
      go_wp2
      go_ret
      exact ⟨by first | rfl | (simp [errW_none, errW_some] <;> rfl) | (simp [*, errW_none, errW_some] <;> rfl), by repeat (first | (with_reducible first | exact HB.out | apply below_alloc | apply pw_below_drewN | apply below_drew1 | refine below_set ?_ GE744.out | refine below_set ?_ GE752.out) | exact HB.out)⟩
    ·rw [if_neg c22] at H
     have c22b0 : (t743 == 2) = false := beq_eq_false_iff_ne.mpr c22
     have c22b1 : (t743 != 2) = true := bne_iff_ne.mpr c22
     obtain rfl := Option.some.inj H
     go_wp2
     go_ret
     exact ⟨by first | rfl | (simp [errW_none, errW_some] <;> rfl) | (simp [*, errW_none, errW_some] <;> rfl), by repeat (first | (with_reducible first | exact HB.out | apply below_alloc | apply pw_below_drewN | apply below_drew1 | refine below_set ?_ GE744.out | refine below_set ?_ GE752.out) | exact HB.out)⟩
   ·replace c21 := Bool.eq_false_iff.mpr c21
    subst c21
    have H1 : (if 0 ≤ (mn (l2.length : Int) 15) then (if (mn (l2.length : Int) 15) ≤ (l2.length : Int) then ((slices_Clone_bool_bool.f (l2.take ((mn (l2.length : Int) 15) : Int).toNat)).bind fun t756 => ((lots_Run.f kj5 t737 t740 t756).bind fun bt759 => ((slices_Clone_bool_bool.f (l2.take ((mn (l2.length : Int) 15) : Int).toNat)).bind fun t763 => ((lots_Run.f kj5 t745 t748 t763).bind fun bt766 => (if bt759.2.2 = 0 then (comfitlaw02_LotsShort.j1 kj5 a0 a1 l2 bt759.2.2 bt766.2.2 bt759.1 bt759.2.1 bt766.1 bt766.2.1 (bt766.2.2 != 0)) else (comfitlaw02_LotsShort.j1 kj5 a0 a1 l2 bt759.2.2 bt766.2.2 bt759.1 bt759.2.1 bt766.1 bt766.2.1 true)))))) else (none)) else (none)) = some r := by rw [if_neg (show ¬ (false = true) by decide)] at H; exact H
    clear H
    have H := H1
    clear H1
    obtain ⟨ji26, hji26⟩ : ∃ j_ : Int, (mn (l2.length : Int) 15) = j_ := ⟨_, rfl⟩
    replace H : (if 0 ≤ (ji26) then (if (ji26) ≤ (l2.length : Int) then ((slices_Clone_bool_bool.f (l2.take ((ji26) : Int).toNat)).bind fun t756 => ((lots_Run.f kj5 t737 t740 t756).bind fun bt759 => ((slices_Clone_bool_bool.f (l2.take ((ji26) : Int).toNat)).bind fun t763 => ((lots_Run.f kj5 t745 t748 t763).bind fun bt766 => (if bt759.2.2 = 0 then (comfitlaw02_LotsShort.j1 kj5 a0 a1 l2 bt759.2.2 bt766.2.2 bt759.1 bt759.2.1 bt766.1 bt766.2.1 (bt766.2.2 != 0)) else (comfitlaw02_LotsShort.j1 kj5 a0 a1 l2 bt759.2.2 bt766.2.2 bt759.1 bt759.2.1 bt766.1 bt766.2.1 true)))))) else (none)) else (none)) = some r := by first | (rw [hji26] at H; exact H) | (simp only [hji26] at H ⊢; exact H)
    have hji26_ : (if 15 < (l2.length : Int) then 15 else (l2.length : Int)) = ji26 := hji26
    by_cases c27 : 0 ≤ (ji26)
    ·rw [if_pos c27] at H
     have c27b0 := eq_true c27
     have c27b1 : decide (0 ≤ (ji26)) = true := decide_eq_true c27
     clear c27
     by_cases c28 : (ji26) ≤ (l2.length : Int)
     ·rw [if_pos c28] at H
      have c28b0 := eq_true c28
      have c28b1 : decide ((ji26) ≤ (l2.length : Int)) = true := decide_eq_true c28
      clear c28
      replace H := Option.bind_eq_some_iff.mp H
      obtain ⟨t756, A290, H⟩ := H
      replace H : ((lots_Run.f kj5 t737 t740 t756).bind fun bt759 => ((slices_Clone_bool_bool.f (l2.take ((ji26) : Int).toNat)).bind fun t763 => ((lots_Run.f kj5 t745 t748 t763).bind fun bt766 => (if bt759.2.2 = 0 then (comfitlaw02_LotsShort.j1 kj5 a0 a1 l2 bt759.2.2 bt766.2.2 bt759.1 bt759.2.1 bt766.1 bt766.2.1 (bt766.2.2 != 0)) else (comfitlaw02_LotsShort.j1 kj5 a0 a1 l2 bt759.2.2 bt766.2.2 bt759.1 bt759.2.1 bt766.1 bt766.2.1 true))))) = some r := H
      have A29 := Aside0.mk A290
      clear A290
      replace H := Option.bind_eq_some_iff.mp H
      obtain ⟨⟨t759, t760, t761⟩, A300, H⟩ := H
      replace H : ((slices_Clone_bool_bool.f (l2.take ((ji26) : Int).toNat)).bind fun t763 => ((lots_Run.f kj5 t745 t748 t763).bind fun bt766 => (if t761 = 0 then (comfitlaw02_LotsShort.j1 kj5 a0 a1 l2 t761 bt766.2.2 t759 t760 bt766.1 bt766.2.1 (bt766.2.2 != 0)) else (comfitlaw02_LotsShort.j1 kj5 a0 a1 l2 t761 bt766.2.2 t759 t760 bt766.1 bt766.2.1 true)))) = some r := H
      have A30 := Aside0.mk A300
      clear A300
      have c31b0 := eq_true (of_decide_eq_true (by first | (with_reducible assumption) | assumption) : 0 ≤ (ji26))
      have c32b0 := eq_true (of_decide_eq_true (by first | (with_reducible assumption) | assumption) : (ji26) ≤ (l2.length : Int))
      replace H := Option.bind_eq_some_iff.mp H
      obtain ⟨t763, A330, H⟩ := H
      replace H : ((lots_Run.f kj5 t745 t748 t763).bind fun bt766 => (if t761 = 0 then (comfitlaw02_LotsShort.j1 kj5 a0 a1 l2 t761 bt766.2.2 t759 t760 bt766.1 bt766.2.1 (bt766.2.2 != 0)) else (comfitlaw02_LotsShort.j1 kj5 a0 a1 l2 t761 bt766.2.2 t759 t760 bt766.1 bt766.2.1 true))) = some r := H
      have A33 := Aside0.mk A330
      clear A330
      replace H := Option.bind_eq_some_iff.mp H
      obtain ⟨⟨t766, t767, t768⟩, A340, H⟩ := H
      replace H : (if t761 = 0 then (comfitlaw02_LotsShort.j1 kj5 a0 a1 l2 t761 t768 t759 t760 t766 t767 (t768 != 0)) else (comfitlaw02_LotsShort.j1 kj5 a0 a1 l2 t761 t768 t759 t760 t766 t767 true)) = some r := H
      have A34 := Aside0.mk A340
      clear A340
      have HC35 := Aside0.mk H
      clear H
      try go_wp2
      have n0_ := Aside0.mk (Kd.R_drew HO_745000.out)
      have n1_ := Aside0.mk (Kd.R_drew HO_745001.out)
      have n2_ := Aside0.mk (Kd.R_drew HO_753000.out)
      have n3_ := Aside0.mk (Kd.R_drew HO_753001.out)
      have n4_ := Aside0.mk (blk_drew BK744.out)
      have n5_ := Aside0.mk (blk_drew BK752.out)
      have n6_ := Aside0.mk (below_drew1 HB.out)
      clear HO_745000
      clear HO_745001
      clear HO_753000
      clear HO_753001
      clear BK744
      clear BK752
      clear HB
      have HO_745000 := n0_
      have HO_745001 := n1_
      have HO_753000 := n2_
      have HO_753001 := n3_
      have BK744 := n4_
      have BK752 := n5_
      have HB := n6_
      clear n0_ n1_ n2_ n3_ n4_ n5_ n6_
      obtain ⟨i037, hi037, _, hsz37, _⟩ := info_parts info4
      obtain ⟨hcut37, hA37, hC37⟩ := print_take_of (P := Try.prog) Value.bool false 45 4 .i64 Try.underlying45 hi037 hsz37 A2 c2 l2 (ji26) (of_decide_eq_true (by first | (with_reducible assumption) | assumption)) (of_decide_eq_true (by first | (with_reducible assumption) | assumption)) HC2.out
      have HR755 := Aside0.mk (Kd.C_of_reads (h1 := fun _ => rfl) (hA37 _ (Kd.reads_of_C HR2.out)))
      have HC755 := Aside0.mk hC37
      clear hA37 hC37 hi037 hsz37
      refine start_ (n := 15) (S := fun w' => w'.cell? ⟨gb744, 0, none⟩ = some (.slice Ao9 t737.length co9) ∧ w'.cell? ⟨gb744, 1, none⟩ = some (.slice Ao11 t740.length co11)) (ds := []) #[false, false, false, false, false, false, false, false, false, false, false, false, false, false, false] (by kernel_rfl) rfl rfl ⟨(blk_cell BK744.out 0).trans rfl, (blk_cell BK744.out 1).trans rfl⟩ (fun hHeld => ?_); refine with_tabW comfitlaw02_LotsShort.tab5 comfitlaw02_LotsShort.bits5 (fun HT_ HW_ => ?_)
      generalize wc.drew = w36 at HO_745000 HO_745001 HO_753000 HO_753001 BK744 BK752 HB HR755 hHeld ⊢
      refine pure_ (i := 1) (N := some 54) (v := ?_) (a' := ?_) #[false, true, false, false, false, false, false, false, false, false, false, false, false, false, false] rfl rfl (any_of HT_.out (by kernel_rfl)) (fun _ _ _ h => h) (Or.inl ⟨by rfl, ?_⟩) ?_ ?_
      rotate_left
      ·intro w'
       go_simp
       with_reducible rfl
      rotate_left
      ·simp only [Act.put, List.setIfInBounds_toArray, List.set_cons_zero, List.set_cons_succ, i64_w, i32_w]
       rfl
      refine pure_ (i := 2) (N := some 55) (v := ?_) (a' := ?_) #[false, true, true, false, false, false, false, false, false, false, false, false, false, false, false] rfl rfl (any_of HT_.out (by kernel_rfl)) (fun _ _ _ h => h) (Or.inl ⟨by rfl, ?_⟩) ?_ ?_
      rotate_left
      ·intro w'
       go_simp
       with_reducible rfl
      rotate_left
      ·simp only [Act.put, List.setIfInBounds_toArray, List.set_cons_zero, List.set_cons_succ, i64_w, i32_w]
       rfl
      refine pure_ (i := 3) (N := some 56) (v := ?_) (a' := ?_) #[false, true, true, true, false, false, false, false, false, false, false, false, false, false, false] rfl rfl (any_of HT_.out (by kernel_rfl)) (fun _ _ _ h => h) (Or.inl ⟨by rfl, ?_⟩) ?_ ?_
      rotate_left
      ·intro w'
       go_simp
       with_reducible rfl
      rotate_left
      ·simp only [Act.put, List.setIfInBounds_toArray, List.set_cons_zero, List.set_cons_succ, i64_w, i32_w]
       rfl
      refine pure_ (i := 4) (N := some 57) (v := ?_) (a' := ?_) #[false, true, true, true, true, false, false, false, false, false, false, false, false, false, false] rfl rfl (any_of HT_.out (by kernel_rfl)) (fun _ _ _ h => h) (Or.inl ⟨by rfl, ?_⟩) ?_ ?_
      rotate_left
      ·intro w'
       go_simp
       with_reducible rfl
      rotate_left
      ·simp only [Act.put, List.setIfInBounds_toArray, List.set_cons_zero, List.set_cons_succ, i64_w, i32_w]
       rfl
      refine pure_ (i := 5) (N := some 58) (v := ?_) (a' := ?_) #[false, true, true, true, true, true, false, false, false, false, false, false, false, false, false] rfl rfl (any_of HT_.out (by kernel_rfl)) (fun _ _ _ h => h) (Or.inl ⟨by rfl, ?_⟩) ?_ ?_
      rotate_left
      ·intro w'
       go_simp
       with_reducible rfl
      rotate_left
      ·simp only [Act.put, List.setIfInBounds_toArray, List.set_cons_zero, List.set_cons_succ, i64_w, i32_w]
       rfl
      refine take_ (i := 0) (N := some 53) (v := ?_) (a' := ?_) #[true, true, true, true, true, true, false, false, false, false, false, false, false, false, false] rfl rfl (take_ofW HT_.out HW_.out (by kernel_rfl)) (fun _ _ _ h => h) (Or.inl ⟨by rfl, ?_⟩) hHeld ?_ ?_
      rotate_left
      ·rintro w' ⟨s0, s1⟩
       go_simp
       with_reducible rfl
      rotate_left
      ·simp only [Act.put, List.setIfInBounds_toArray, List.set_cons_zero, List.set_cons_succ, i64_w, i32_w]
       rfl
      refine one_ (i := 6) (N := some 59) #[true, true, true, true, true, true, true, false, false, false, false, false, false, false, false] rfl rfl (one_of HT_.out (by kernel_rfl)) (by decide) (fun K hK => ?_)
      refine goes_ Try.func34 (by kernel_rfl) rfl #[.slice A2 (l2.take ((ji26) : Int).toNat).length c2] (by rfl) rfl rfl (by (try simp only [List.map_toArray, List.map_cons, List.map_nil]); first | done | (rw [show (l2.take ((ji26) : Int).toNat).length = (ji26).toNat from (by rw [List.length_take]; have h_ : ((ji26) : Int) ≤ (l2.length : Int) := of_decide_eq_true (by first | (with_reducible assumption) | assumption); omega)] <;> rfl) | (simp only [hji26]; rfl) | rfl | (simp only [List.length_drop, List.length_take]; rfl)) ?_
      with_reducible refine (slices_Clone_bool_bool.calls _ _ (l2.take ((ji26) : Int).toNat) t756 _ ?side1 ?side2 A29.out).mono ?_
      (case side1 => exact kc_ (Kd.C_below HR755.out HB.out))
      (case side2 => exact HC755.out)
      rintro e w38 ⟨v757, rfl, ho0, hb⟩
      refine ⟨_, rfl, ?_⟩
      have n0_ := Aside0.mk (Kd.R_below (kr_ (HO_745000.out)) hb)
      have n1_ := Aside0.mk (Kd.R_below (kr_ (HO_745001.out)) hb)
      have n2_ := Aside0.mk (Kd.R_below (kr_ (HO_753000.out)) hb)
      have n3_ := Aside0.mk (Kd.R_below (kr_ (HO_753001.out)) hb)
      have n4_ := Aside0.mk (Kd.R_lower ho0 (below_size (hb_ HB.out)))
      have n5_ := Aside0.mk (bkb_ BK744.out hb)
      have n6_ := Aside0.mk (bkb_ BK752.out hb)
      have n7_ := Aside0.mk (below_step (hb_ HB.out) hb)
      clear HO_745000
      clear HO_745001
      clear HO_753000
      clear HO_753001
      clear BK744
      clear BK752
      clear HB
      have HO_745000 := n0_
      have HO_745001 := n1_
      have HO_753000 := n2_
      have HO_753001 := n3_
      have HO758 := n4_
      have BK744 := n5_
      have BK752 := n6_
      have HB := n7_
      clear n0_ n1_ n2_ n3_ n4_ n5_ n6_ n7_
      (try clear hb)
      (try clear hb2)
      (try clear hk)
      (try clear hi)
      (try clear ho0)
      obtain ⟨Ao39, co39, eo39⟩ := Kd.R_slice HO758.out
      (first | subst eo39 | (injection eo39 with f1_ f2_ f3_; have f4_ := f1_.symm; have f5_ := f3_.symm; clear f1_ f2_ f3_; subst f4_; subst f5_))
      refine hK.out _ _ ⟨(blk_cell BK744.out 0).trans rfl, (blk_cell BK744.out 1).trans rfl⟩ (fun hHeld => ?_)
      clear hK K
      refine norm_ (a' := ?_) ?_ ?_
      rotate_left
      ·show Act.put _ (some 59) _ = _
       simp only [Act.put, List.setIfInBounds_toArray, List.set_cons_zero, List.set_cons_succ, i64_w, i32_w]
       rfl
      refine one_ (i := 7) (N := some 60) #[true, true, true, true, true, true, true, true, false, false, false, false, false, false, false] rfl rfl (one_of HT_.out (by kernel_rfl)) (by decide) (fun K hK => ?_)
      refine goes_ Try.func33 (by kernel_rfl) rfl #[.agg #[.slice Ao9 t737.length co9, .slice Ao11 t740.length co11], .slice Ao39 t756.length co39] (by rfl) rfl rfl al_ ?_
      with_reducible refine (lots_Run.calls kj5 _ _ t737 _ _ t740 _ _ t756 t759 t760 t761 _ ?side1 ?side2 ?side3 ?side4 ?side5 ?side6 A30.out).mono ?_
      (case side1 => exact kc_ (Kd.R_reads' HO_745000.out).2.2)
      (case side2 => exact (Kd.R_reads' HO_745000.out).2.1)
      (case side3 => exact kc_ (Kd.R_reads' HO_745001.out).2.2)
      (case side4 => exact (Kd.R_reads' HO_745001.out).2.1)
      (case side5 => exact kc_ (Kd.R_reads' HO758.out).2.2)
      (case side6 => exact (Kd.R_reads' HO758.out).2.1)
      rintro e w40 ⟨rfl, hb⟩
      refine ⟨_, rfl, ?_⟩
      have n0_ := Aside0.mk (Kd.R_below (kr_ (HO_745000.out)) hb)
      have n1_ := Aside0.mk (Kd.R_below (kr_ (HO_745001.out)) hb)
      have n2_ := Aside0.mk (Kd.R_below (kr_ (HO_753000.out)) hb)
      have n3_ := Aside0.mk (Kd.R_below (kr_ (HO_753001.out)) hb)
      have n4_ := Aside0.mk (Kd.R_below (kr_ (HO758.out)) hb)
      have n5_ := Aside0.mk (bkb_ BK744.out hb)
      have n6_ := Aside0.mk (bkb_ BK752.out hb)
      have n7_ := Aside0.mk (below_step (hb_ HB.out) hb)
      clear HO_745000
      clear HO_745001
      clear HO_753000
      clear HO_753001
      clear HO758
      clear BK744
      clear BK752
      clear HB
      have HO_745000 := n0_
      have HO_745001 := n1_
      have HO_753000 := n2_
      have HO_753001 := n3_
      have HO758 := n4_
      have BK744 := n5_
      have BK752 := n6_
      have HB := n7_
      clear n0_ n1_ n2_ n3_ n4_ n5_ n6_ n7_
      (try clear hb)
      (try clear hb2)
      (try clear hk)
      (try clear hi)
      refine hK.out _ _ ⟨(blk_cell BK744.out 0).trans rfl, (blk_cell BK744.out 1).trans rfl⟩ (fun hHeld => ?_)
      clear hK K
      refine norm_ (a' := ?_) ?_ ?_
      rotate_left
      ·show Act.put _ (some 60) _ = _
       simp only [Act.put, List.setIfInBounds_toArray, List.set_cons_zero, List.set_cons_succ, i64_w, i32_w]
       rfl
      refine pure_ (i := 8) (N := some 52) (v := ?_) (a' := ?_) #[true, true, true, true, true, true, true, true, true, false, false, false, false, false, false] rfl rfl (any_of HT_.out (by kernel_rfl)) (fun _ _ _ h => h) (Or.inl ⟨by rfl, ?_⟩) ?_ ?_
      rotate_left
      ·intro w'
       go_simp
       with_reducible rfl
      rotate_left
      ·simp only [Act.put, List.setIfInBounds_toArray, List.set_cons_zero, List.set_cons_succ, i64_w, i32_w]
       rfl
      refine pure_ (i := 9) (N := some 61) (v := ?_) (a' := ?_) #[true, true, true, true, true, true, true, true, true, true, false, false, false, false, false] rfl rfl (any_of HT_.out (by kernel_rfl)) (fun _ _ _ h => h) (Or.inl ⟨by rfl, ?_⟩) ?_ ?_
      rotate_left
      ·intro w'
       go_simp
       with_reducible rfl
      rotate_left
      ·simp only [Act.put, List.setIfInBounds_toArray, List.set_cons_zero, List.set_cons_succ, i64_w, i32_w]
       rfl
      refine pure_ (i := 10) (N := some 62) (v := ?_) (a' := ?_) #[true, true, true, true, true, true, true, true, true, true, true, false, false, false, false] rfl rfl (any_of HT_.out (by kernel_rfl)) (fun _ _ _ h => h) (Or.inl ⟨by rfl, ?_⟩) ?_ ?_
      rotate_left
      ·intro w'
       go_simp
       with_reducible rfl
      rotate_left
      ·simp only [Act.put, List.setIfInBounds_toArray, List.set_cons_zero, List.set_cons_succ, i64_w, i32_w]
       rfl
      refine pure_ (i := 11) (N := some 63) (v := ?_) (a' := ?_) #[true, true, true, true, true, true, true, true, true, true, true, true, false, false, false] rfl rfl (any_of HT_.out (by kernel_rfl)) (fun _ _ _ h => h) (Or.inl ⟨by rfl, ?_⟩) ?_ ?_
      rotate_left
      ·intro w'
       go_simp
       with_reducible rfl
      rotate_left
      ·simp only [Act.put, List.setIfInBounds_toArray, List.set_cons_zero, List.set_cons_succ, i64_w, i32_w]
       rfl
      refine pure_ (i := 12) (N := some 11) (v := ?_) (a' := ?_) #[true, true, true, true, true, true, true, true, true, true, true, true, true, false, false] rfl rfl (any_of HT_.out (by kernel_rfl)) (fun _ _ _ h => h) (Or.inl ⟨by rfl, ?_⟩) ?_ ?_
      rotate_left
      ·intro w'
       go_simp
       with_reducible rfl
      rotate_left
      ·simp only [Act.put, List.setIfInBounds_toArray, List.set_cons_zero, List.set_cons_succ, i64_w, i32_w]
       rfl
      refine pure_ (i := 13) (N := some 12) (v := ?_) (a' := ?_) #[true, true, true, true, true, true, true, true, true, true, true, true, true, true, false] rfl rfl (any_of HT_.out (by kernel_rfl)) (fun _ _ _ h => h) (Or.inl ⟨by rfl, ?_⟩) ?_ ?_
      rotate_left
      ·intro w'
       go_simp
       with_reducible rfl
      rotate_left
      ·simp only [Act.put, List.setIfInBounds_toArray, List.set_cons_zero, List.set_cons_succ, i64_w, i32_w]
       rfl
      refine pure_ (i := 14) (N := some 8) (v := ?_) (a' := ?_) #[true, true, true, true, true, true, true, true, true, true, true, true, true, true, true] rfl rfl (any_of HT_.out (by kernel_rfl)) (fun _ _ _ h => h) (Or.inl ⟨by rfl, ?_⟩) ?_ ?_
      rotate_left
      ·intro w'
       go_simp
       with_reducible rfl
      rotate_left
      ·simp only [Act.put, List.setIfInBounds_toArray, List.set_cons_zero, List.set_cons_succ, i64_w, i32_w]
       rfl
      refine done_ (done_of HT_.out (by kernel_rfl)) ?_
      try go_wp2
      have n0_ := Aside0.mk (Kd.R_drew HO_745000.out)
      have n1_ := Aside0.mk (Kd.R_drew HO_745001.out)
      have n2_ := Aside0.mk (Kd.R_drew HO_753000.out)
      have n3_ := Aside0.mk (Kd.R_drew HO_753001.out)
      have n4_ := Aside0.mk (Kd.R_drew HO758.out)
      have n5_ := Aside0.mk (blk_drew BK744.out)
      have n6_ := Aside0.mk (blk_drew BK752.out)
      have n7_ := Aside0.mk (below_drew1 HB.out)
      clear HO_745000
      clear HO_745001
      clear HO_753000
      clear HO_753001
      clear HO758
      clear BK744
      clear BK752
      clear HB
      have HO_745000 := n0_
      have HO_745001 := n1_
      have HO_753000 := n2_
      have HO_753001 := n3_
      have HO758 := n4_
      have BK744 := n5_
      have BK752 := n6_
      have HB := n7_
      clear n0_ n1_ n2_ n3_ n4_ n5_ n6_ n7_
      obtain ⟨i042, hi042, _, hsz42, _⟩ := info_parts info4
      obtain ⟨hcut42, hA42, hC42⟩ := print_take_of (P := Try.prog) Value.bool false 45 4 .i64 Try.underlying45 hi042 hsz42 A2 c2 l2 (ji26) (of_decide_eq_true (by first | (with_reducible assumption) | assumption)) (of_decide_eq_true (by first | (with_reducible assumption) | assumption)) HC2.out
      have HR762 := Aside0.mk (Kd.C_of_reads (h1 := fun _ => rfl) (hA42 _ (Kd.reads_of_C HR2.out)))
      have HC762 := Aside0.mk hC42
      clear hA42 hC42 hi042 hsz42
      refine start_ (n := 15) (S := fun w' => w'.cell? ⟨gb752, 0, none⟩ = some (.slice Ao14 t745.length co14) ∧ w'.cell? ⟨gb752, 1, none⟩ = some (.slice Ao17 t748.length co17)) (ds := []) #[false, false, false, false, false, false, false, false, false, false, false, false, false, false, false] (by kernel_rfl) rfl rfl ⟨(blk_cell BK752.out 0).trans rfl, (blk_cell BK752.out 1).trans rfl⟩ (fun hHeld => ?_); refine with_tabW comfitlaw02_LotsShort.tab6 comfitlaw02_LotsShort.bits6 (fun HT_ HW_ => ?_)
      generalize w40.drew = w41 at HO_745000 HO_745001 HO_753000 HO_753001 HO758 BK744 BK752 HB HR762 hHeld ⊢
      refine pure_ (i := 1) (N := some 66) (v := ?_) (a' := ?_) #[false, true, false, false, false, false, false, false, false, false, false, false, false, false, false] rfl rfl (any_of HT_.out (by kernel_rfl)) (fun _ _ _ h => h) (Or.inl ⟨by rfl, ?_⟩) ?_ ?_
      rotate_left
      ·intro w'
       go_simp
       with_reducible rfl
      rotate_left
      ·simp only [Act.put, List.setIfInBounds_toArray, List.set_cons_zero, List.set_cons_succ, i64_w, i32_w]
       rfl
      refine pure_ (i := 2) (N := some 67) (v := ?_) (a' := ?_) #[false, true, true, false, false, false, false, false, false, false, false, false, false, false, false] rfl rfl (any_of HT_.out (by kernel_rfl)) (fun _ _ _ h => h) (Or.inl ⟨by rfl, ?_⟩) ?_ ?_
      rotate_left
      ·intro w'
       go_simp
       with_reducible rfl
      rotate_left
      ·simp only [Act.put, List.setIfInBounds_toArray, List.set_cons_zero, List.set_cons_succ, i64_w, i32_w]
       rfl
      refine pure_ (i := 3) (N := some 68) (v := ?_) (a' := ?_) #[false, true, true, true, false, false, false, false, false, false, false, false, false, false, false] rfl rfl (any_of HT_.out (by kernel_rfl)) (fun _ _ _ h => h) (Or.inl ⟨by rfl, ?_⟩) ?_ ?_
      rotate_left
      ·intro w'
       go_simp
       with_reducible rfl
      rotate_left
      ·simp only [Act.put, List.setIfInBounds_toArray, List.set_cons_zero, List.set_cons_succ, i64_w, i32_w]
       rfl
      refine pure_ (i := 4) (N := some 69) (v := ?_) (a' := ?_) #[false, true, true, true, true, false, false, false, false, false, false, false, false, false, false] rfl rfl (any_of HT_.out (by kernel_rfl)) (fun _ _ _ h => h) (Or.inl ⟨by rfl, ?_⟩) ?_ ?_
      rotate_left
      ·intro w'
       go_simp
       with_reducible rfl
      rotate_left
      ·simp only [Act.put, List.setIfInBounds_toArray, List.set_cons_zero, List.set_cons_succ, i64_w, i32_w]
       rfl
      refine pure_ (i := 5) (N := some 70) (v := ?_) (a' := ?_) #[false, true, true, true, true, true, false, false, false, false, false, false, false, false, false] rfl rfl (any_of HT_.out (by kernel_rfl)) (fun _ _ _ h => h) (Or.inl ⟨by rfl, ?_⟩) ?_ ?_
      rotate_left
      ·intro w'
       go_simp
       with_reducible rfl
      rotate_left
      ·simp only [Act.put, List.setIfInBounds_toArray, List.set_cons_zero, List.set_cons_succ, i64_w, i32_w]
       rfl
      refine take_ (i := 0) (N := some 65) (v := ?_) (a' := ?_) #[true, true, true, true, true, true, false, false, false, false, false, false, false, false, false] rfl rfl (take_ofW HT_.out HW_.out (by kernel_rfl)) (fun _ _ _ h => h) (Or.inl ⟨by rfl, ?_⟩) hHeld ?_ ?_
      rotate_left
      ·rintro w' ⟨s0, s1⟩
       go_simp
       with_reducible rfl
      rotate_left
      ·simp only [Act.put, List.setIfInBounds_toArray, List.set_cons_zero, List.set_cons_succ, i64_w, i32_w]
       rfl
      refine one_ (i := 6) (N := some 71) #[true, true, true, true, true, true, true, false, false, false, false, false, false, false, false] rfl rfl (one_of HT_.out (by kernel_rfl)) (by decide) (fun K hK => ?_)
      refine goes_ Try.func34 (by kernel_rfl) rfl #[.slice A2 (l2.take ((ji26) : Int).toNat).length c2] (by rfl) rfl rfl (by (try simp only [List.map_toArray, List.map_cons, List.map_nil]); first | done | (rw [show (l2.take ((ji26) : Int).toNat).length = (ji26).toNat from (by rw [List.length_take]; have h_ : ((ji26) : Int) ≤ (l2.length : Int) := of_decide_eq_true (by first | (with_reducible assumption) | assumption); omega)] <;> rfl) | (simp only [hji26]; rfl) | rfl | (simp only [List.length_drop, List.length_take]; rfl)) ?_
      with_reducible refine (slices_Clone_bool_bool.calls _ _ (l2.take ((ji26) : Int).toNat) t763 _ ?side1 ?side2 A33.out).mono ?_
      (case side1 => exact kc_ (Kd.C_below HR762.out HB.out))
      (case side2 => exact HC762.out)
      rintro e w43 ⟨v764, rfl, ho0, hb⟩
      refine ⟨_, rfl, ?_⟩
      have n0_ := Aside0.mk (Kd.R_below (kr_ (HO_745000.out)) hb)
      have n1_ := Aside0.mk (Kd.R_below (kr_ (HO_745001.out)) hb)
      have n2_ := Aside0.mk (Kd.R_below (kr_ (HO_753000.out)) hb)
      have n3_ := Aside0.mk (Kd.R_below (kr_ (HO_753001.out)) hb)
      have n4_ := Aside0.mk (Kd.R_elder' (kr_ (HO758.out)) (Kd.R_base ho0) hb)
      have n5_ := Aside0.mk (Kd.R_lower (Kd.R_new' ho0 (Kd.R_lt (kr_ (HO758.out)))) (below_size (hb_ HB.out)))
      have n6_ := Aside0.mk (bkb_ BK744.out hb)
      have n7_ := Aside0.mk (bkb_ BK752.out hb)
      have n8_ := Aside0.mk (below_step (hb_ HB.out) hb)
      clear HO_745000
      clear HO_745001
      clear HO_753000
      clear HO_753001
      clear HO758
      clear BK744
      clear BK752
      clear HB
      have HO_745000 := n0_
      have HO_745001 := n1_
      have HO_753000 := n2_
      have HO_753001 := n3_
      have HO758 := n4_
      have HO765 := n5_
      have BK744 := n6_
      have BK752 := n7_
      have HB := n8_
      clear n0_ n1_ n2_ n3_ n4_ n5_ n6_ n7_ n8_
      (try clear hb)
      (try clear hb2)
      (try clear hk)
      (try clear hi)
      (try clear ho0)
      obtain ⟨Ao44, co44, eo44⟩ := Kd.R_slice HO765.out
      (first | subst eo44 | (injection eo44 with f1_ f2_ f3_; have f4_ := f1_.symm; have f5_ := f3_.symm; clear f1_ f2_ f3_; subst f4_; subst f5_))
      refine hK.out _ _ ⟨(blk_cell BK752.out 0).trans rfl, (blk_cell BK752.out 1).trans rfl⟩ (fun hHeld => ?_)
      clear hK K
      refine norm_ (a' := ?_) ?_ ?_
      rotate_left
      ·show Act.put _ (some 71) _ = _
       simp only [Act.put, List.setIfInBounds_toArray, List.set_cons_zero, List.set_cons_succ, i64_w, i32_w]
       rfl
      refine one_ (i := 7) (N := some 72) #[true, true, true, true, true, true, true, true, false, false, false, false, false, false, false] rfl rfl (one_of HT_.out (by kernel_rfl)) (by decide) (fun K hK => ?_)
      refine goes_ Try.func33 (by kernel_rfl) rfl #[.agg #[.slice Ao14 t745.length co14, .slice Ao17 t748.length co17], .slice Ao44 t763.length co44] (by rfl) rfl rfl al_ ?_
      with_reducible refine (lots_Run.calls kj5 _ _ t745 _ _ t748 _ _ t763 t766 t767 t768 _ ?side1 ?side2 ?side3 ?side4 ?side5 ?side6 A34.out).mono ?_
      (case side1 => exact kc_ (Kd.R_reads' HO_753000.out).2.2)
      (case side2 => exact (Kd.R_reads' HO_753000.out).2.1)
      (case side3 => exact kc_ (Kd.R_reads' HO_753001.out).2.2)
      (case side4 => exact (Kd.R_reads' HO_753001.out).2.1)
      (case side5 => exact kc_ (Kd.R_reads' HO765.out).2.2)
      (case side6 => exact (Kd.R_reads' HO765.out).2.1)
      rintro e w45 ⟨rfl, hb⟩
      refine ⟨_, rfl, ?_⟩
      have n0_ := Aside0.mk (Kd.R_below (kr_ (HO_745000.out)) hb)
      have n1_ := Aside0.mk (Kd.R_below (kr_ (HO_745001.out)) hb)
      have n2_ := Aside0.mk (Kd.R_below (kr_ (HO_753000.out)) hb)
      have n3_ := Aside0.mk (Kd.R_below (kr_ (HO_753001.out)) hb)
      have n4_ := Aside0.mk (Kd.R_below (kr_ (HO758.out)) hb)
      have n5_ := Aside0.mk (Kd.R_below (kr_ (HO765.out)) hb)
      have n6_ := Aside0.mk (bkb_ BK744.out hb)
      have n7_ := Aside0.mk (bkb_ BK752.out hb)
      have n8_ := Aside0.mk (below_step (hb_ HB.out) hb)
      clear HO_745000
      clear HO_745001
      clear HO_753000
      clear HO_753001
      clear HO758
      clear HO765
      clear BK744
      clear BK752
      clear HB
      have HO_745000 := n0_
      have HO_745001 := n1_
      have HO_753000 := n2_
      have HO_753001 := n3_
      have HO758 := n4_
      have HO765 := n5_
      have BK744 := n6_
      have BK752 := n7_
      have HB := n8_
      clear n0_ n1_ n2_ n3_ n4_ n5_ n6_ n7_ n8_
      (try clear hb)
      (try clear hb2)
      (try clear hk)
      (try clear hi)
      refine hK.out _ _ ⟨(blk_cell BK752.out 0).trans rfl, (blk_cell BK752.out 1).trans rfl⟩ (fun hHeld => ?_)
      clear hK K
      refine norm_ (a' := ?_) ?_ ?_
      rotate_left
      ·show Act.put _ (some 72) _ = _
       simp only [Act.put, List.setIfInBounds_toArray, List.set_cons_zero, List.set_cons_succ, i64_w, i32_w]
       rfl
      refine pure_ (i := 8) (N := some 64) (v := ?_) (a' := ?_) #[true, true, true, true, true, true, true, true, true, false, false, false, false, false, false] rfl rfl (any_of HT_.out (by kernel_rfl)) (fun _ _ _ h => h) (Or.inl ⟨by rfl, ?_⟩) ?_ ?_
      rotate_left
      ·intro w'
       go_simp
       with_reducible rfl
      rotate_left
      ·simp only [Act.put, List.setIfInBounds_toArray, List.set_cons_zero, List.set_cons_succ, i64_w, i32_w]
       rfl
      refine pure_ (i := 9) (N := some 73) (v := ?_) (a' := ?_) #[true, true, true, true, true, true, true, true, true, true, false, false, false, false, false] rfl rfl (any_of HT_.out (by kernel_rfl)) (fun _ _ _ h => h) (Or.inl ⟨by rfl, ?_⟩) ?_ ?_
      rotate_left
      ·intro w'
       go_simp
       with_reducible rfl
      rotate_left
      ·simp only [Act.put, List.setIfInBounds_toArray, List.set_cons_zero, List.set_cons_succ, i64_w, i32_w]
       rfl
      refine pure_ (i := 10) (N := some 74) (v := ?_) (a' := ?_) #[true, true, true, true, true, true, true, true, true, true, true, false, false, false, false] rfl rfl (any_of HT_.out (by kernel_rfl)) (fun _ _ _ h => h) (Or.inl ⟨by rfl, ?_⟩) ?_ ?_
      rotate_left
      ·intro w'
       go_simp
       with_reducible rfl
      rotate_left
      ·simp only [Act.put, List.setIfInBounds_toArray, List.set_cons_zero, List.set_cons_succ, i64_w, i32_w]
       rfl
      refine pure_ (i := 11) (N := some 75) (v := ?_) (a' := ?_) #[true, true, true, true, true, true, true, true, true, true, true, true, false, false, false] rfl rfl (any_of HT_.out (by kernel_rfl)) (fun _ _ _ h => h) (Or.inl ⟨by rfl, ?_⟩) ?_ ?_
      rotate_left
      ·intro w'
       go_simp
       with_reducible rfl
      rotate_left
      ·simp only [Act.put, List.setIfInBounds_toArray, List.set_cons_zero, List.set_cons_succ, i64_w, i32_w]
       rfl
      refine pure_ (i := 12) (N := some 13) (v := ?_) (a' := ?_) #[true, true, true, true, true, true, true, true, true, true, true, true, true, false, false] rfl rfl (any_of HT_.out (by kernel_rfl)) (fun _ _ _ h => h) (Or.inl ⟨by rfl, ?_⟩) ?_ ?_
      rotate_left
      ·intro w'
       go_simp
       with_reducible rfl
      rotate_left
      ·simp only [Act.put, List.setIfInBounds_toArray, List.set_cons_zero, List.set_cons_succ, i64_w, i32_w]
       rfl
      refine pure_ (i := 13) (N := some 14) (v := ?_) (a' := ?_) #[true, true, true, true, true, true, true, true, true, true, true, true, true, true, false] rfl rfl (any_of HT_.out (by kernel_rfl)) (fun _ _ _ h => h) (Or.inl ⟨by rfl, ?_⟩) ?_ ?_
      rotate_left
      ·intro w'
       go_simp
       with_reducible rfl
      rotate_left
      ·simp only [Act.put, List.setIfInBounds_toArray, List.set_cons_zero, List.set_cons_succ, i64_w, i32_w]
       rfl
      refine pure_ (i := 14) (N := some 10) (v := ?_) (a' := ?_) #[true, true, true, true, true, true, true, true, true, true, true, true, true, true, true] rfl rfl (any_of HT_.out (by kernel_rfl)) (fun _ _ _ h => h) (Or.inl ⟨by rfl, ?_⟩) ?_ ?_
      rotate_left
      ·intro w'
       go_simp
       with_reducible rfl
      rotate_left
      ·simp only [Act.put, List.setIfInBounds_toArray, List.set_cons_zero, List.set_cons_succ, i64_w, i32_w]
       rfl
      refine done_ (done_of HT_.out (by kernel_rfl)) ?_
      go_upto_region 7 with (fail)
      go_cut [81] (fun v81 wc => ∃ (kq : Nat) (x81_34 : Bool), v81 = .bool x81_34 ∧ Aside0 (comfitlaw02_LotsShort.j1 kq a0 a1 l2 t761 t768 t759 t760 t766 t767 x81_34 = some r) ∧ Aside0 (kq ≤ kj5) ∧ Aside0 (Kd.R (Kd.int .i64) 3 wc w.heap.size (fun k_ => some k_ ≠ ((.slice Ao11 t740.length co11) : Value).ownBlock ∧ some k_ ≠ ((.slice Ao14 t745.length co14) : Value).ownBlock ∧ some k_ ≠ ((.slice Ao17 t748.length co17) : Value).ownBlock) (.slice Ao9 t737.length co9) t737) ∧ Aside0 (Kd.R (Kd.int .i64) 3 wc w.heap.size (fun k_ => some k_ ≠ ((.slice Ao9 t737.length co9) : Value).ownBlock ∧ some k_ ≠ ((.slice Ao14 t745.length co14) : Value).ownBlock ∧ some k_ ≠ ((.slice Ao17 t748.length co17) : Value).ownBlock) (.slice Ao11 t740.length co11) t740) ∧ Aside0 (Kd.R (Kd.int .i64) 3 wc w.heap.size (fun k_ => some k_ ≠ ((.slice Ao9 t737.length co9) : Value).ownBlock ∧ some k_ ≠ ((.slice Ao11 t740.length co11) : Value).ownBlock ∧ some k_ ≠ ((.slice Ao17 t748.length co17) : Value).ownBlock) (.slice Ao14 t745.length co14) t745) ∧ Aside0 (Kd.R (Kd.int .i64) 3 wc w.heap.size (fun k_ => some k_ ≠ ((.slice Ao9 t737.length co9) : Value).ownBlock ∧ some k_ ≠ ((.slice Ao11 t740.length co11) : Value).ownBlock ∧ some k_ ≠ ((.slice Ao14 t745.length co14) : Value).ownBlock) (.slice Ao17 t748.length co17) t748) ∧ Aside0 (wc.heap[gb744]? = some (.cells #[(.slice Ao9 t737.length co9), (.slice Ao11 t740.length co11)] 32 (0, 0))) ∧ Aside0 (wc.heap[gb752]? = some (.cells #[(.slice Ao14 t745.length co14), (.slice Ao17 t748.length co17)] 32 (0, 0))) ∧ Aside0 (Below w.heap.size w wc))
      case first =>
       have H := HC35.out
       clear HC35
       by_cases c46 : t761 = 0
       ·rw [if_pos c46] at H
        have c46b0 : (t761 == 0) = true := beq_iff_eq.mpr c46
        have c46b1 : (t761 != 0) = false := bne_eq_false_iff_eq.mpr c46
        clear c46
        (first | rw [c46b0] | (simp only [i64_w, i32_w]; rw [c46b0]) | skip)
        have H' := Aside0.mk H
        clear H
        go_wp2
        go_meet
        case rel => exact ⟨_, ((t768 != 0)), (by first | rfl | (simp; done) | (simp [*]; done)), H', ⟨by have := HJ5.out; first | omega | exact Nat.le_refl _⟩, ⟨by (with_reducible repeat (first | apply Kd.R_alloc | apply Kd.R_drewN | apply Kd.R_drew)); exact HO_745000.out⟩, ⟨by (with_reducible repeat (first | apply Kd.R_alloc | apply Kd.R_drewN | apply Kd.R_drew)); exact HO_745001.out⟩, ⟨by (with_reducible repeat (first | apply Kd.R_alloc | apply Kd.R_drewN | apply Kd.R_drew)); exact HO_753000.out⟩, ⟨by (with_reducible repeat (first | apply Kd.R_alloc | apply Kd.R_drewN | apply Kd.R_drew)); exact HO_753001.out⟩, ⟨by (with_reducible repeat (first | refine blk_drewN ?_ _ | refine blk_drew ?_ | refine blk_alloc ?_ _)); exact BK744.out⟩, ⟨by (with_reducible repeat (first | refine blk_drewN ?_ _ | refine blk_drew ?_ | refine blk_alloc ?_ _)); exact BK752.out⟩, ⟨by repeat (first | (with_reducible first | exact HB.out | apply below_alloc | apply pw_below_drewN | apply below_drew1 | refine below_set ?_ GE744.out | refine below_set ?_ GE752.out) | exact HB.out)⟩⟩
       ·rw [if_neg c46] at H
        have c46b0 : (t761 == 0) = false := beq_eq_false_iff_ne.mpr c46
        have c46b1 : (t761 != 0) = true := bne_iff_ne.mpr c46
        (first | rw [c46b0] | (simp only [i64_w, i32_w]; rw [c46b0]) | skip)
        have H' := Aside0.mk H
        clear H
        go_wp2
        go_meet
        case rel => exact ⟨_, (true), (by first | rfl | (simp; done) | (simp [*]; done)), H', ⟨by have := HJ5.out; first | omega | exact Nat.le_refl _⟩, ⟨by (with_reducible repeat (first | apply Kd.R_alloc | apply Kd.R_drewN | apply Kd.R_drew)); exact HO_745000.out⟩, ⟨by (with_reducible repeat (first | apply Kd.R_alloc | apply Kd.R_drewN | apply Kd.R_drew)); exact HO_745001.out⟩, ⟨by (with_reducible repeat (first | apply Kd.R_alloc | apply Kd.R_drewN | apply Kd.R_drew)); exact HO_753000.out⟩, ⟨by (with_reducible repeat (first | apply Kd.R_alloc | apply Kd.R_drewN | apply Kd.R_drew)); exact HO_753001.out⟩, ⟨by (with_reducible repeat (first | refine blk_drewN ?_ _ | refine blk_drew ?_ | refine blk_alloc ?_ _)); exact BK744.out⟩, ⟨by (with_reducible repeat (first | refine blk_drewN ?_ _ | refine blk_drew ?_ | refine blk_alloc ?_ _)); exact BK752.out⟩, ⟨by repeat (first | (with_reducible first | exact HB.out | apply below_alloc | apply pw_below_drewN | apply below_drew1 | refine below_set ?_ GE744.out | refine below_set ?_ GE752.out) | exact HB.out)⟩⟩
      case rest =>
       clear HC35
       try clear c1
       try clear c2
       try clear p2
       try clear c3
       try clear c4
       try clear c15
       try clear c17
       try clear c18
       try clear c18b0
       try clear c18b1
       try clear c19
       try clear c19b0
       try clear c19b1
       try clear c21
       try clear c22
       try clear c22b0
       try clear c22b1
       try clear c23
       try clear c23b0
       try clear c23b1
       try clear c27
       try clear c27b0
       try clear c27b1
       try clear c28
       try clear c28b0
       try clear c28b1
       try clear c31
       try clear c31b0
       try clear c32
       try clear c32b0
       try clear c33
       try clear c34
       try clear c46
       try clear c46b0
       try clear c46b1
       try clear hcz10_0
       try clear hcz10_1
       try clear hcz16_0
       try clear hcz16_1
       try clear hfz10_0
       try clear hfz10_1
       try clear hfz16_0
       try clear hfz16_1
       try clear p2
       obtain ⟨kq, x81_34, rfl, HA, HJ34, HO_745000, HO_745001, HO_753000, HO_753001, BK744, BK752, HB⟩ := hcut
       cases kq with
       | zero => exact absurd HA.out (by simp [comfitlaw02_LotsShort.j1])
       | succ kj34 =>
        have H := HA.out
        clear HA
        simp only [comfitlaw02_LotsShort.j1] at H
        by_cases c47 : x81_34 = true
        ·subst c47
         have H1 : (if t761 = 2 then (if t768 = t761 then (if (l2.length : Int) = a0 then (some false) else ((comfitlaw02_awake.f kj34).bind fun t769 => (some t769))) else (some false)) else (some false)) = some r := by rw [if_pos rfl] at H; exact H
         clear H
         have H := H1
         clear H1
         by_cases c48 : t761 = 2
         ·rw [if_pos c48] at H
          have c48b0 : (t761 == 2) = true := beq_iff_eq.mpr c48
          have c48b1 : (t761 != 2) = false := bne_eq_false_iff_eq.mpr c48
          clear c48
          by_cases c49 : t768 = t761
          ·rw [if_pos c49] at H
           have c49b0 : (t768 == t761) = true := beq_iff_eq.mpr c49
           have c49b1 : (t768 != t761) = false := bne_eq_false_iff_eq.mpr c49
           clear c49
           by_cases c50 : (l2.length : Int) = a0
           ·rw [if_pos c50] at H
            have c50b0 : ((l2.length : Int) == a0) = true := beq_iff_eq.mpr c50
            have c50b1 : ((l2.length : Int) != a0) = false := bne_eq_false_iff_eq.mpr c50
            clear c50
            obtain rfl := Option.some.inj H
            go_wp2
            go_ret
            exact ⟨by first | rfl | (simp [errW_none, errW_some] <;> rfl) | (simp only [← hji26]; first | rfl | (simp [errW_none, errW_some] <;> rfl)) | (simp [*, errW_none, errW_some] <;> rfl), by repeat (first | (with_reducible first | exact HB.out | apply below_alloc | apply pw_below_drewN | apply below_drew1 | refine below_set ?_ GE744.out | refine below_set ?_ GE752.out) | exact HB.out)⟩
           ·rw [if_neg c50] at H
            have c50b0 : ((l2.length : Int) == a0) = false := beq_eq_false_iff_ne.mpr c50
            have c50b1 : ((l2.length : Int) != a0) = true := bne_iff_ne.mpr c50
            replace H := Option.bind_eq_some_iff.mp H
            obtain ⟨t769, A510, H⟩ := H
            replace H : (some t769) = some r := H
            have A51 := Aside0.mk A510
            clear A510
            obtain rfl := Option.some.inj H
            go_wp2_with (first | (go_at_call 26; (with_reducible refine (comfitlaw02_awake.calls kj34  t769 _ A51.out).mono ?_); rintro e w52 ⟨rfl, hb⟩; have n0_ := Aside0.mk (Kd.R_below (kr_ (HO_745000.out)) hb); have n1_ := Aside0.mk (Kd.R_below (kr_ (HO_745001.out)) hb); have n2_ := Aside0.mk (Kd.R_below (kr_ (HO_753000.out)) hb); have n3_ := Aside0.mk (Kd.R_below (kr_ (HO_753001.out)) hb); have n4_ := Aside0.mk (bkb_ BK744.out hb); have n5_ := Aside0.mk (bkb_ BK752.out hb); have n6_ := Aside0.mk (below_step (hb_ HB.out) hb); clear HO_745000; clear HO_745001; clear HO_753000; clear HO_753001; clear BK744; clear BK752; clear HB; have HO_745000 := n0_; have HO_745001 := n1_; have HO_753000 := n2_; have HO_753001 := n3_; have BK744 := n4_; have BK752 := n5_; have HB := n6_; clear n0_ n1_ n2_ n3_ n4_ n5_ n6_; (try clear hb); (try clear hb2); (try clear hk); (try clear hi)))
            go_ret
            exact ⟨by first | rfl | (simp [errW_none, errW_some] <;> rfl) | (simp only [← hji26]; first | rfl | (simp [errW_none, errW_some] <;> rfl)) | (simp [*, errW_none, errW_some] <;> rfl), by repeat (first | (with_reducible first | exact HB.out | apply below_alloc | apply pw_below_drewN | apply below_drew1 | refine below_set ?_ GE744.out | refine below_set ?_ GE752.out) | exact HB.out)⟩
          ·rw [if_neg c49] at H
           have c49b0 : (t768 == t761) = false := beq_eq_false_iff_ne.mpr c49
           have c49b1 : (t768 != t761) = true := bne_iff_ne.mpr c49
           obtain rfl := Option.some.inj H
           go_wp2
           go_ret
           exact ⟨by first | rfl | (simp [errW_none, errW_some] <;> rfl) | (simp only [← hji26]; first | rfl | (simp [errW_none, errW_some] <;> rfl)) | (simp [*, errW_none, errW_some] <;> rfl), by repeat (first | (with_reducible first | exact HB.out | apply below_alloc | apply pw_below_drewN | apply below_drew1 | refine below_set ?_ GE744.out | refine below_set ?_ GE752.out) | exact HB.out)⟩
         ·rw [if_neg c48] at H
          have c48b0 : (t761 == 2) = false := beq_eq_false_iff_ne.mpr c48
          have c48b1 : (t761 != 2) = true := bne_iff_ne.mpr c48
          obtain rfl := Option.some.inj H
          go_wp2
          go_ret
          exact ⟨by first | rfl | (simp [errW_none, errW_some] <;> rfl) | (simp only [← hji26]; first | rfl | (simp [errW_none, errW_some] <;> rfl)) | (simp [*, errW_none, errW_some] <;> rfl), by repeat (first | (with_reducible first | exact HB.out | apply below_alloc | apply pw_below_drewN | apply below_drew1 | refine below_set ?_ GE744.out | refine below_set ?_ GE752.out) | exact HB.out)⟩
        ·replace c47 := Bool.eq_false_iff.mpr c47
         subst c47
         have H1 : (if t759 = a0 then (if t766 < 1 then (comfitlaw02_LotsShort.j2 kj34 a0 a1 l2 t766 t767 true) else (if t766 > a0 then (comfitlaw02_LotsShort.j2 kj34 a0 a1 l2 t766 t767 true) else (if (t760 != t767) = true then (comfitlaw02_LotsShort.j2 kj34 a0 a1 l2 t766 t767 true) else (comfitlaw02_LotsShort.j2 kj34 a0 a1 l2 t766 t767 ((l2.length : Int) != a0))))) else (comfitlaw02_LotsShort.j2 kj34 a0 a1 l2 t766 t767 true)) = some r := by rw [if_neg (show ¬ (false = true) by decide)] at H; exact H
         clear H
         have H := H1
         clear H1
         have HC53 := Aside0.mk H
         clear H
         go_upto_region 9 with (fail)
         go_cut [120] (fun v120 wc => ∃ (kq : Nat) (x120_52 : Bool), v120 = .bool x120_52 ∧ Aside0 (comfitlaw02_LotsShort.j2 kq a0 a1 l2 t766 t767 x120_52 = some r) ∧ Aside0 (kq ≤ kj34) ∧ Aside0 (Kd.R (Kd.int .i64) 3 wc w.heap.size (fun k_ => some k_ ≠ ((.slice Ao11 t740.length co11) : Value).ownBlock ∧ some k_ ≠ ((.slice Ao14 t745.length co14) : Value).ownBlock ∧ some k_ ≠ ((.slice Ao17 t748.length co17) : Value).ownBlock) (.slice Ao9 t737.length co9) t737) ∧ Aside0 (Kd.R (Kd.int .i64) 3 wc w.heap.size (fun k_ => some k_ ≠ ((.slice Ao9 t737.length co9) : Value).ownBlock ∧ some k_ ≠ ((.slice Ao14 t745.length co14) : Value).ownBlock ∧ some k_ ≠ ((.slice Ao17 t748.length co17) : Value).ownBlock) (.slice Ao11 t740.length co11) t740) ∧ Aside0 (Kd.R (Kd.int .i64) 3 wc w.heap.size (fun k_ => some k_ ≠ ((.slice Ao9 t737.length co9) : Value).ownBlock ∧ some k_ ≠ ((.slice Ao11 t740.length co11) : Value).ownBlock ∧ some k_ ≠ ((.slice Ao17 t748.length co17) : Value).ownBlock) (.slice Ao14 t745.length co14) t745) ∧ Aside0 (Kd.R (Kd.int .i64) 3 wc w.heap.size (fun k_ => some k_ ≠ ((.slice Ao9 t737.length co9) : Value).ownBlock ∧ some k_ ≠ ((.slice Ao11 t740.length co11) : Value).ownBlock ∧ some k_ ≠ ((.slice Ao14 t745.length co14) : Value).ownBlock) (.slice Ao17 t748.length co17) t748) ∧ Aside0 (wc.heap[gb744]? = some (.cells #[(.slice Ao9 t737.length co9), (.slice Ao11 t740.length co11)] 32 (0, 0))) ∧ Aside0 (wc.heap[gb752]? = some (.cells #[(.slice Ao14 t745.length co14), (.slice Ao17 t748.length co17)] 32 (0, 0))) ∧ Aside0 (Below w.heap.size w wc))
         case first =>
          have H := HC53.out
          clear HC53
          by_cases c54 : t759 = a0
          ·rw [if_pos c54] at H
           have c54b0 : (t759 == a0) = true := beq_iff_eq.mpr c54
           have c54b1 : (t759 != a0) = false := bne_eq_false_iff_eq.mpr c54
           clear c54
           (first | rw [c54b0] | (simp only [i64_w, i32_w]; rw [c54b0]) | skip)
           by_cases c55 : t766 < 1
           ·rw [if_pos c55] at H
            have c55b0 : decide (t766 < 1) = true := decide_eq_true c55
            clear c55
            have H' := Aside0.mk H
            clear H
            go_wp2
            go_meet
            case rel => exact ⟨_, (true), (by first | rfl | (simp; done) | (simp [*]; done)), H', ⟨by have := HJ5.out; have := HJ34.out; first | omega | exact Nat.le_refl _⟩, ⟨by (with_reducible repeat (first | apply Kd.R_alloc | apply Kd.R_drewN | apply Kd.R_drew)); exact HO_745000.out⟩, ⟨by (with_reducible repeat (first | apply Kd.R_alloc | apply Kd.R_drewN | apply Kd.R_drew)); exact HO_745001.out⟩, ⟨by (with_reducible repeat (first | apply Kd.R_alloc | apply Kd.R_drewN | apply Kd.R_drew)); exact HO_753000.out⟩, ⟨by (with_reducible repeat (first | apply Kd.R_alloc | apply Kd.R_drewN | apply Kd.R_drew)); exact HO_753001.out⟩, ⟨by (with_reducible repeat (first | refine blk_drewN ?_ _ | refine blk_drew ?_ | refine blk_alloc ?_ _)); exact BK744.out⟩, ⟨by (with_reducible repeat (first | refine blk_drewN ?_ _ | refine blk_drew ?_ | refine blk_alloc ?_ _)); exact BK752.out⟩, ⟨by repeat (first | (with_reducible first | exact HB.out | apply below_alloc | apply pw_below_drewN | apply below_drew1 | refine below_set ?_ GE744.out | refine below_set ?_ GE752.out) | exact HB.out)⟩⟩
           ·rw [if_neg c55] at H
            have c55b0 : decide (t766 < 1) = false := decide_eq_false c55
            clear c55
            by_cases c56 : t766 > a0
            ·rw [if_pos c56] at H
             have c56b0 : decide (a0 < t766) = true := decide_eq_true c56
             clear c56
             have H' := Aside0.mk H
             clear H
             go_wp2
             go_meet
             case rel => exact ⟨_, (true), (by first | rfl | (simp; done) | (simp [*]; done)), H', ⟨by have := HJ5.out; have := HJ34.out; first | omega | exact Nat.le_refl _⟩, ⟨by (with_reducible repeat (first | apply Kd.R_alloc | apply Kd.R_drewN | apply Kd.R_drew)); exact HO_745000.out⟩, ⟨by (with_reducible repeat (first | apply Kd.R_alloc | apply Kd.R_drewN | apply Kd.R_drew)); exact HO_745001.out⟩, ⟨by (with_reducible repeat (first | apply Kd.R_alloc | apply Kd.R_drewN | apply Kd.R_drew)); exact HO_753000.out⟩, ⟨by (with_reducible repeat (first | apply Kd.R_alloc | apply Kd.R_drewN | apply Kd.R_drew)); exact HO_753001.out⟩, ⟨by (with_reducible repeat (first | refine blk_drewN ?_ _ | refine blk_drew ?_ | refine blk_alloc ?_ _)); exact BK744.out⟩, ⟨by (with_reducible repeat (first | refine blk_drewN ?_ _ | refine blk_drew ?_ | refine blk_alloc ?_ _)); exact BK752.out⟩, ⟨by repeat (first | (with_reducible first | exact HB.out | apply below_alloc | apply pw_below_drewN | apply below_drew1 | refine below_set ?_ GE744.out | refine below_set ?_ GE752.out) | exact HB.out)⟩⟩
            ·rw [if_neg c56] at H
             have c56b0 : decide (a0 < t766) = false := decide_eq_false c56
             clear c56
             by_cases c57 : (t760 != t767) = true
             ·rw [if_pos c57] at H
              have c57b0 : (t760 != t767) = true := c57
              (try (have c57b1 : decide (t760 = t767) = false := by simpa using c57))
              (try (have c57b2 : (t760 == t767) = false := by simpa using c57))
              (try (have c57b3 : ¬ (t760 = t767) := by simpa using c57))
              clear c57
              have H' := Aside0.mk H
              clear H
              go_wp2
              go_meet
              case rel => exact ⟨_, (true), (by first | rfl | (simp; done) | (simp [*]; done)), H', ⟨by have := HJ5.out; have := HJ34.out; first | omega | exact Nat.le_refl _⟩, ⟨by (with_reducible repeat (first | apply Kd.R_alloc | apply Kd.R_drewN | apply Kd.R_drew)); exact HO_745000.out⟩, ⟨by (with_reducible repeat (first | apply Kd.R_alloc | apply Kd.R_drewN | apply Kd.R_drew)); exact HO_745001.out⟩, ⟨by (with_reducible repeat (first | apply Kd.R_alloc | apply Kd.R_drewN | apply Kd.R_drew)); exact HO_753000.out⟩, ⟨by (with_reducible repeat (first | apply Kd.R_alloc | apply Kd.R_drewN | apply Kd.R_drew)); exact HO_753001.out⟩, ⟨by (with_reducible repeat (first | refine blk_drewN ?_ _ | refine blk_drew ?_ | refine blk_alloc ?_ _)); exact BK744.out⟩, ⟨by (with_reducible repeat (first | refine blk_drewN ?_ _ | refine blk_drew ?_ | refine blk_alloc ?_ _)); exact BK752.out⟩, ⟨by repeat (first | (with_reducible first | exact HB.out | apply below_alloc | apply pw_below_drewN | apply below_drew1 | refine below_set ?_ GE744.out | refine below_set ?_ GE752.out) | exact HB.out)⟩⟩
             ·rw [if_neg c57] at H
              have c57b0 : (t760 != t767) = false := by simpa using c57
              (try (have c57b1 : decide (t760 = t767) = true := by simpa using c57))
              (try (have c57b2 : (t760 == t767) = true := by simpa using c57))
              clear c57
              have H' := Aside0.mk H
              clear H
              go_wp2
              go_meet
              case rel => exact ⟨_, (((l2.length : Int) != a0)), (by first | rfl | (simp; done) | (simp [*]; done)), H', ⟨by have := HJ5.out; have := HJ34.out; first | omega | exact Nat.le_refl _⟩, ⟨by (with_reducible repeat (first | apply Kd.R_alloc | apply Kd.R_drewN | apply Kd.R_drew)); exact HO_745000.out⟩, ⟨by (with_reducible repeat (first | apply Kd.R_alloc | apply Kd.R_drewN | apply Kd.R_drew)); exact HO_745001.out⟩, ⟨by (with_reducible repeat (first | apply Kd.R_alloc | apply Kd.R_drewN | apply Kd.R_drew)); exact HO_753000.out⟩, ⟨by (with_reducible repeat (first | apply Kd.R_alloc | apply Kd.R_drewN | apply Kd.R_drew)); exact HO_753001.out⟩, ⟨by (with_reducible repeat (first | refine blk_drewN ?_ _ | refine blk_drew ?_ | refine blk_alloc ?_ _)); exact BK744.out⟩, ⟨by (with_reducible repeat (first | refine blk_drewN ?_ _ | refine blk_drew ?_ | refine blk_alloc ?_ _)); exact BK752.out⟩, ⟨by repeat (first | (with_reducible first | exact HB.out | apply below_alloc | apply pw_below_drewN | apply below_drew1 | refine below_set ?_ GE744.out | refine below_set ?_ GE752.out) | exact HB.out)⟩⟩
          ·rw [if_neg c54] at H
           have c54b0 : (t759 == a0) = false := beq_eq_false_iff_ne.mpr c54
           have c54b1 : (t759 != a0) = true := bne_iff_ne.mpr c54
           (first | rw [c54b0] | (simp only [i64_w, i32_w]; rw [c54b0]) | skip)
           have H' := Aside0.mk H
           clear H
           go_wp2
           go_meet
           case rel => exact ⟨_, (true), (by first | rfl | (simp; done) | (simp [*]; done)), H', ⟨by have := HJ5.out; have := HJ34.out; first | omega | exact Nat.le_refl _⟩, ⟨by (with_reducible repeat (first | apply Kd.R_alloc | apply Kd.R_drewN | apply Kd.R_drew)); exact HO_745000.out⟩, ⟨by (with_reducible repeat (first | apply Kd.R_alloc | apply Kd.R_drewN | apply Kd.R_drew)); exact HO_745001.out⟩, ⟨by (with_reducible repeat (first | apply Kd.R_alloc | apply Kd.R_drewN | apply Kd.R_drew)); exact HO_753000.out⟩, ⟨by (with_reducible repeat (first | apply Kd.R_alloc | apply Kd.R_drewN | apply Kd.R_drew)); exact HO_753001.out⟩, ⟨by (with_reducible repeat (first | refine blk_drewN ?_ _ | refine blk_drew ?_ | refine blk_alloc ?_ _)); exact BK744.out⟩, ⟨by (with_reducible repeat (first | refine blk_drewN ?_ _ | refine blk_drew ?_ | refine blk_alloc ?_ _)); exact BK752.out⟩, ⟨by repeat (first | (with_reducible first | exact HB.out | apply below_alloc | apply pw_below_drewN | apply below_drew1 | refine below_set ?_ GE744.out | refine below_set ?_ GE752.out) | exact HB.out)⟩⟩
         case rest =>
          clear HC53
          try clear c1
          try clear c2
          try clear p2
          try clear c3
          try clear c4
          try clear c5
          try clear c15
          try clear c17
          try clear c18
          try clear c18b0
          try clear c18b1
          try clear c19
          try clear c19b0
          try clear c19b1
          try clear c21
          try clear c22
          try clear c22b0
          try clear c22b1
          try clear c23
          try clear c23b0
          try clear c23b1
          try clear c27
          try clear c27b0
          try clear c27b1
          try clear c28
          try clear c28b0
          try clear c28b1
          try clear c31
          try clear c31b0
          try clear c32
          try clear c32b0
          try clear c33
          try clear c34
          try clear c46
          try clear c46b0
          try clear c46b1
          try clear c47
          try clear c48
          try clear c48b0
          try clear c48b1
          try clear c49
          try clear c49b0
          try clear c49b1
          try clear c50
          try clear c50b0
          try clear c50b1
          try clear c54
          try clear c54b0
          try clear c54b1
          try clear c55
          try clear c55b0
          try clear c56
          try clear c56b0
          try clear c57
          try clear c57b0
          try clear c57b1
          try clear c57b2
          try clear hcz10_0
          try clear hcz10_1
          try clear hcz16_0
          try clear hcz16_1
          try clear hfz10_0
          try clear hfz10_1
          try clear hfz16_0
          try clear hfz16_1
          try clear p2
          obtain ⟨kq, x120_52, rfl, HA, HJ52, HO_745000, HO_745001, HO_753000, HO_753001, BK744, BK752, HB⟩ := hcut
          cases kq with
          | zero => exact absurd HA.out (by simp [comfitlaw02_LotsShort.j2])
          | succ kj52 =>
           have H := HA.out
           clear HA
           simp only [comfitlaw02_LotsShort.j2] at H
           by_cases c58 : x120_52 = true
           ·subst c58
            have H1 : (some false) = some r := by rw [if_pos rfl] at H; exact H
            clear H
            have H := H1
            clear H1
            obtain rfl := Option.some.inj H
            go_wp2
            go_ret
            exact ⟨by first | rfl | (simp [errW_none, errW_some] <;> rfl) | (simp only [← hji26]; first | rfl | (simp [errW_none, errW_some] <;> rfl)) | (simp [*, errW_none, errW_some] <;> rfl), by repeat (first | (with_reducible first | exact HB.out | apply below_alloc | apply pw_below_drewN | apply below_drew1 | refine below_set ?_ GE744.out | refine below_set ?_ GE752.out) | exact HB.out)⟩
           ·replace c58 := Bool.eq_false_iff.mpr c58
            subst c58
            have H1 : (if 0 ≤ t766 then (if t766 ≤ (l2.length : Int) then (comfitlaw02_LotsShort.l0 kj52 a0 a1 t766 t767 0 (l2.take (t766 : Int).toNat) ((l2.take (t766 : Int).toNat).length : Int) 0) else (none)) else (none)) = some r := by rw [if_neg (show ¬ (false = true) by decide)] at H; exact H
            clear H
            have H := H1
            clear H1
            by_cases c59 : 0 ≤ t766
            ·rw [if_pos c59] at H
             have c59b0 := eq_true c59
             have c59b1 : decide (0 ≤ t766) = true := decide_eq_true c59
             clear c59
             by_cases c60 : t766 ≤ (l2.length : Int)
             ·rw [if_pos c60] at H
              have HLE_ := Aside0.mk c60
              have c60b0 := eq_true c60
              have c60b1 : decide (t766 ≤ (l2.length : Int)) = true := decide_eq_true c60
              clear c60
              have H' := Aside0.mk H
              clear H
              obtain ⟨i061, hi061, _, hsz61, _⟩ := info_parts info4
              obtain ⟨hcut61, hA61, hC61⟩ := print_take_of (P := Try.prog) Value.bool false 45 4 .i64 Try.underlying45 hi061 hsz61 A2 c2 l2 t766 (of_decide_eq_true (by first | (with_reducible assumption) | assumption)) (of_decide_eq_true (by first | (with_reducible assumption) | assumption)) HC2.out
              have HR770 := Aside0.mk (Kd.C_of_reads (h1 := fun _ => rfl) (hA61 _ (Kd.reads_of_C HR2.out)))
              have HC770 := Aside0.mk hC61
              clear hA61 hC61 hi061 hsz61
              go_wp2
              go_loopg [15, 125] kj52 (fun kq v15 v125 w' => ∃ (x15_4 : Int) (x125_4 : Int), v15 = .int .i64 x15_4 ∧ v125 = .int .i64 x125_4 ∧ Aside0 (comfitlaw02_LotsShort.l0 kq a0 a1 t766 t767 x15_4 (l2.take (t766 : Int).toNat) ((l2.take (t766 : Int).toNat).length : Int) x125_4 = some r) ∧ Aside0 (kq ≤ kj52) ∧ Aside0 (Kd.R (Kd.int .i64) 3 w' w.heap.size (fun k_ => some k_ ≠ ((.slice Ao11 t740.length co11) : Value).ownBlock ∧ some k_ ≠ ((.slice Ao14 t745.length co14) : Value).ownBlock ∧ some k_ ≠ ((.slice Ao17 t748.length co17) : Value).ownBlock) (.slice Ao9 t737.length co9) t737) ∧ Aside0 (Kd.R (Kd.int .i64) 3 w' w.heap.size (fun k_ => some k_ ≠ ((.slice Ao9 t737.length co9) : Value).ownBlock ∧ some k_ ≠ ((.slice Ao14 t745.length co14) : Value).ownBlock ∧ some k_ ≠ ((.slice Ao17 t748.length co17) : Value).ownBlock) (.slice Ao11 t740.length co11) t740) ∧ Aside0 (Kd.R (Kd.int .i64) 3 w' w.heap.size (fun k_ => some k_ ≠ ((.slice Ao9 t737.length co9) : Value).ownBlock ∧ some k_ ≠ ((.slice Ao11 t740.length co11) : Value).ownBlock ∧ some k_ ≠ ((.slice Ao17 t748.length co17) : Value).ownBlock) (.slice Ao14 t745.length co14) t745) ∧ Aside0 (Kd.R (Kd.int .i64) 3 w' w.heap.size (fun k_ => some k_ ≠ ((.slice Ao9 t737.length co9) : Value).ownBlock ∧ some k_ ≠ ((.slice Ao11 t740.length co11) : Value).ownBlock ∧ some k_ ≠ ((.slice Ao14 t745.length co14) : Value).ownBlock) (.slice Ao17 t748.length co17) t748) ∧ Aside0 (w'.heap[gb744]? = some (.cells #[(.slice Ao9 t737.length co9), (.slice Ao11 t740.length co11)] 32 (0, 0))) ∧ Aside0 (w'.heap[gb752]? = some (.cells #[(.slice Ao14 t745.length co14), (.slice Ao17 t748.length co17)] 32 (0, 0))) ∧ Aside0 (Below w.heap.size w w'))
              case atStart => exact ⟨(0), (0), (by first | rfl | (simp; done) | (simp [*]; done)), (by first | rfl | (simp; done) | (simp [*]; done)), H', ⟨Nat.le_refl _⟩, ⟨by (with_reducible repeat (first | apply Kd.R_alloc | apply Kd.R_drewN | apply Kd.R_drew)); exact HO_745000.out⟩, ⟨by (with_reducible repeat (first | apply Kd.R_alloc | apply Kd.R_drewN | apply Kd.R_drew)); exact HO_745001.out⟩, ⟨by (with_reducible repeat (first | apply Kd.R_alloc | apply Kd.R_drewN | apply Kd.R_drew)); exact HO_753000.out⟩, ⟨by (with_reducible repeat (first | apply Kd.R_alloc | apply Kd.R_drewN | apply Kd.R_drew)); exact HO_753001.out⟩, ⟨by (with_reducible repeat (first | refine blk_drewN ?_ _ | refine blk_drew ?_ | refine blk_alloc ?_ _)); exact BK744.out⟩, ⟨by (with_reducible repeat (first | refine blk_drewN ?_ _ | refine blk_drew ?_ | refine blk_alloc ?_ _)); exact BK752.out⟩, ⟨by repeat (first | (with_reducible first | exact HB.out | apply below_alloc | apply pw_below_drewN | apply below_drew1 | refine below_set ?_ GE744.out | refine below_set ?_ GE752.out) | exact HB.out)⟩⟩
              case round =>
               clear H'
               try clear c1
               try clear c2
               try clear p2
               try clear c3
               try clear c4
               try clear c5
               try clear c6
               try clear c15
               try clear c17
               try clear c18
               try clear c18b0
               try clear c18b1
               try clear c19
               try clear c19b0
               try clear c19b1
               try clear c21
               try clear c22
               try clear c22b0
               try clear c22b1
               try clear c23
               try clear c23b0
               try clear c23b1
               try clear c27
               try clear c27b0
               try clear c27b1
               try clear c28
               try clear c28b0
               try clear c28b1
               try clear c31
               try clear c31b0
               try clear c32
               try clear c32b0
               try clear c33
               try clear c34
               try clear c46
               try clear c46b0
               try clear c46b1
               try clear c47
               try clear c48
               try clear c48b0
               try clear c48b1
               try clear c49
               try clear c49b0
               try clear c49b1
               try clear c50
               try clear c50b0
               try clear c50b1
               try clear c54
               try clear c54b0
               try clear c54b1
               try clear c55
               try clear c55b0
               try clear c56
               try clear c56b0
               try clear c57
               try clear c57b0
               try clear c57b1
               try clear c57b2
               try clear c58
               try clear c59
               try clear c59b0
               try clear c59b1
               try clear c60
               try clear c60b0
               try clear c60b1
               try clear hcz10_0
               try clear hcz10_1
               try clear hcz16_0
               try clear hcz16_1
               try clear hfz10_0
               try clear hfz10_1
               try clear hfz16_0
               try clear hfz16_1
               try clear p2
               obtain ⟨x15_4, x125_4, rfl, rfl, HA, HK4, HO_745000, HO_745001, HO_753000, HO_753001, BK744, BK752, HB⟩ := hrel
               cases gk with
               | zero => exact absurd HA.out (by simp [comfitlaw02_LotsShort.l0])
               | succ k4 =>
                have H := HA.out
                clear HA
                simp only [comfitlaw02_LotsShort.l0] at H
                by_cases c62 : x125_4 < ((l2.take (t766 : Int).toNat).length : Int)
                ·rw [if_pos c62] at H
                 have c62b0 : decide (x125_4 < ((l2.take (t766 : Int).toNat).length : Int)) = true := decide_eq_true c62
                 have c62b9 : decide (x125_4 < max t766 0) = true := by first | (have h_ := of_decide_eq_true c62b0; rw [List.length_take] at h_; apply decide_eq_true; omega) | (have h_ := of_decide_eq_false c62b0; have q_ : t766 ≤ (l2.length : Int) := HLE_.out; rw [List.length_take] at h_; apply decide_eq_false; omega)
                 have c62b8 : (x125_4 < max t766 0) = True := eq_true (of_decide_eq_true c62b9)
                 clear c62
                 by_cases c63 : 0 ≤ x125_4
                 ·rw [if_pos c63] at H
                  have c63b0 : decide (0 ≤ x125_4) = true := decide_eq_true c63
                  clear c63
                  by_cases c64 : x125_4 < ((l2.take (t766 : Int).toNat).length : Int)
                  ·rw [if_pos c64] at H
                   have c64b0 : decide (x125_4 < ((l2.take (t766 : Int).toNat).length : Int)) = true := decide_eq_true c64
                   have c64b9 : decide (x125_4 < max t766 0) = true := by first | (have h_ := of_decide_eq_true c64b0; rw [List.length_take] at h_; apply decide_eq_true; omega) | (have h_ := of_decide_eq_false c64b0; have q_ : t766 ≤ (l2.length : Int) := HLE_.out; rw [List.length_take] at h_; apply decide_eq_false; omega)
                   have c64b8 : (x125_4 < max t766 0) = True := eq_true (of_decide_eq_true c64b9)
                   clear c64
                   obtain ⟨bq65, hbq65⟩ : ∃ b_ : Bool, b_ = (rdOf false (l2.take (t766 : Int).toNat) x125_4) := ⟨_, rfl⟩
                   replace H : (if bq65 = true then (comfitlaw02_LotsShort.l0 k4 a0 a1 t766 t767 (wrap64 (x15_4 + 1)) (l2.take (t766 : Int).toNat) ((l2.take (t766 : Int).toNat).length : Int) (wrap64 (x125_4 + 1))) else (comfitlaw02_LotsShort.l0 k4 a0 a1 t766 t767 x15_4 (l2.take (t766 : Int).toNat) ((l2.take (t766 : Int).toNat).length : Int) (wrap64 (x125_4 + 1)))) = some r := by rw [← hbq65] at H; exact H
                   have Nbq65 := Aside0.mk hbq65
                   clear hbq65
                   by_cases c66 : bq65 = true
                   ·subst c66
                    have H1 : (comfitlaw02_LotsShort.l0 k4 a0 a1 t766 t767 (wrap64 (x15_4 + 1)) (l2.take (t766 : Int).toNat) ((l2.take (t766 : Int).toNat).length : Int) (wrap64 (x125_4 + 1))) = some r := by rw [if_pos rfl] at H; exact H
                    clear H
                    have H := H1
                    clear H1
                    have H' := Aside0.mk H
                    clear H
                    have p773 : 0 ≤ (x125_4 : Int) := of_decide_eq_true (by first | (with_reducible assumption) | assumption)
                    have q773 : x125_4 < ((l2.take (t766 : Int).toNat).length : Int) := of_decide_eq_true (by first | (with_reducible assumption) | assumption)
                    obtain ⟨ad773, e773, hx773_0⟩ := Kd.at_bool HR770.out x125_4 p773 q773
                    (try rw [← Nbq65.out] at hx773_0)
                    cases e773
                    replace hx773_0 := (HB.out.cell (World.block_lt_of_cell? w _ hx773_0)).trans hx773_0
                    replace p773 := eq_true p773
                    replace q773 := eq_true q773
                    go_wp2
                    go_roundg k4
                    case measure => have := HJ5.out; have := HJ34.out; have := HJ52.out; have := HK4.out; omega
                    case rel => exact ⟨(wrap64 (x15_4 + 1)), (wrap64 (x125_4 + 1)), (by first | rfl | (simp; done) | (simp [*]; done)), (by first | rfl | (simp; done) | (simp [*]; done)), H', ⟨by have := HJ5.out; have := HJ34.out; have := HJ52.out; have := HK4.out; omega⟩, ⟨by (with_reducible repeat (first | apply Kd.R_alloc | apply Kd.R_drewN | apply Kd.R_drew)); exact HO_745000.out⟩, ⟨by (with_reducible repeat (first | apply Kd.R_alloc | apply Kd.R_drewN | apply Kd.R_drew)); exact HO_745001.out⟩, ⟨by (with_reducible repeat (first | apply Kd.R_alloc | apply Kd.R_drewN | apply Kd.R_drew)); exact HO_753000.out⟩, ⟨by (with_reducible repeat (first | apply Kd.R_alloc | apply Kd.R_drewN | apply Kd.R_drew)); exact HO_753001.out⟩, ⟨by (with_reducible repeat (first | refine blk_drewN ?_ _ | refine blk_drew ?_ | refine blk_alloc ?_ _)); exact BK744.out⟩, ⟨by (with_reducible repeat (first | refine blk_drewN ?_ _ | refine blk_drew ?_ | refine blk_alloc ?_ _)); exact BK752.out⟩, ⟨by repeat (first | (with_reducible first | exact HB.out | apply below_alloc | apply pw_below_drewN | apply below_drew1 | refine below_set ?_ GE744.out | refine below_set ?_ GE752.out) | exact HB.out)⟩⟩
                   ·replace c66 := Bool.eq_false_iff.mpr c66
                    subst c66
                    have H1 : (comfitlaw02_LotsShort.l0 k4 a0 a1 t766 t767 x15_4 (l2.take (t766 : Int).toNat) ((l2.take (t766 : Int).toNat).length : Int) (wrap64 (x125_4 + 1))) = some r := by rw [if_neg (show ¬ (false = true) by decide)] at H; exact H
                    clear H
                    have H := H1
                    clear H1
                    have H' := Aside0.mk H
                    clear H
                    have p773 : 0 ≤ (x125_4 : Int) := of_decide_eq_true (by first | (with_reducible assumption) | assumption)
                    have q773 : x125_4 < ((l2.take (t766 : Int).toNat).length : Int) := of_decide_eq_true (by first | (with_reducible assumption) | assumption)
                    obtain ⟨ad773, e773, hx773_0⟩ := Kd.at_bool HR770.out x125_4 p773 q773
                    (try rw [← Nbq65.out] at hx773_0)
                    cases e773
                    replace hx773_0 := (HB.out.cell (World.block_lt_of_cell? w _ hx773_0)).trans hx773_0
                    replace p773 := eq_true p773
                    replace q773 := eq_true q773
                    go_wp2
                    go_roundg k4
                    case measure => have := HJ5.out; have := HJ34.out; have := HJ52.out; have := HK4.out; omega
                    case rel => exact ⟨(x15_4), (wrap64 (x125_4 + 1)), (by first | rfl | (simp; done) | (simp [*]; done)), (by first | rfl | (simp; done) | (simp [*]; done)), H', ⟨by have := HJ5.out; have := HJ34.out; have := HJ52.out; have := HK4.out; omega⟩, ⟨by (with_reducible repeat (first | apply Kd.R_alloc | apply Kd.R_drewN | apply Kd.R_drew)); exact HO_745000.out⟩, ⟨by (with_reducible repeat (first | apply Kd.R_alloc | apply Kd.R_drewN | apply Kd.R_drew)); exact HO_745001.out⟩, ⟨by (with_reducible repeat (first | apply Kd.R_alloc | apply Kd.R_drewN | apply Kd.R_drew)); exact HO_753000.out⟩, ⟨by (with_reducible repeat (first | apply Kd.R_alloc | apply Kd.R_drewN | apply Kd.R_drew)); exact HO_753001.out⟩, ⟨by (with_reducible repeat (first | refine blk_drewN ?_ _ | refine blk_drew ?_ | refine blk_alloc ?_ _)); exact BK744.out⟩, ⟨by (with_reducible repeat (first | refine blk_drewN ?_ _ | refine blk_drew ?_ | refine blk_alloc ?_ _)); exact BK752.out⟩, ⟨by repeat (first | (with_reducible first | exact HB.out | apply below_alloc | apply pw_below_drewN | apply below_drew1 | refine below_set ?_ GE744.out | refine below_set ?_ GE752.out) | exact HB.out)⟩⟩
                  ·rw [if_neg c64] at H
                   exact absurd H (by simp)
                 ·rw [if_neg c63] at H
                  exact absurd H (by simp)
                ·rw [if_neg c62] at H
                 have c62b0 : decide (x125_4 < ((l2.take (t766 : Int).toNat).length : Int)) = false := decide_eq_false c62
                 have c62b9 : decide (x125_4 < max t766 0) = false := by first | (have h_ := of_decide_eq_true c62b0; rw [List.length_take] at h_; apply decide_eq_true; omega) | (have h_ := of_decide_eq_false c62b0; have q_ : t766 ≤ (l2.length : Int) := HLE_.out; rw [List.length_take] at h_; apply decide_eq_false; omega)
                 clear c62
                 by_cases c67 : t767 = true
                 ·subst c67
                  have H1 : (if (wrap64 ((wrap64 (x15_4 + a0)) - t766)) ≤ a1 then ((comfitlaw02_awake.f k4).bind fun t771 => (some t771)) else (some false)) = some r := by rw [if_pos rfl] at H; exact H
                  clear H
                  have H := H1
                  clear H1
                  by_cases c68 : (wrap64 ((wrap64 (x15_4 + a0)) - t766)) ≤ a1
                  ·rw [if_pos c68] at H
                   have c68b0 : decide ((wrap64 ((wrap64 (x15_4 + a0)) - t766)) ≤ a1) = true := decide_eq_true c68
                   clear c68
                   replace H := Option.bind_eq_some_iff.mp H
                   obtain ⟨t771, A690, H⟩ := H
                   replace H : (some t771) = some r := H
                   have A69 := Aside0.mk A690
                   clear A690
                   obtain rfl := Option.some.inj H
                   go_wp2_with (first | (go_at_call 26; (with_reducible refine (comfitlaw02_awake.calls k4  t771 _ A69.out).mono ?_); rintro e w70 ⟨rfl, hb⟩; have n0_ := Aside0.mk (Kd.R_below (kr_ (HO_745000.out)) hb); have n1_ := Aside0.mk (Kd.R_below (kr_ (HO_745001.out)) hb); have n2_ := Aside0.mk (Kd.R_below (kr_ (HO_753000.out)) hb); have n3_ := Aside0.mk (Kd.R_below (kr_ (HO_753001.out)) hb); have n4_ := Aside0.mk (bkb_ BK744.out hb); have n5_ := Aside0.mk (bkb_ BK752.out hb); have n6_ := Aside0.mk (below_step (hb_ HB.out) hb); clear HO_745000; clear HO_745001; clear HO_753000; clear HO_753001; clear BK744; clear BK752; clear HB; have HO_745000 := n0_; have HO_745001 := n1_; have HO_753000 := n2_; have HO_753001 := n3_; have BK744 := n4_; have BK752 := n5_; have HB := n6_; clear n0_ n1_ n2_ n3_ n4_ n5_ n6_; (try clear hb); (try clear hb2); (try clear hk); (try clear hi)))
                   go_ret
                   exact ⟨by first | rfl | (simp [errW_none, errW_some] <;> rfl) | (simp only [← hji26]; first | rfl | (simp [errW_none, errW_some] <;> rfl)) | (simp [*, errW_none, errW_some] <;> rfl), by repeat (first | (with_reducible first | exact HB.out | apply below_alloc | apply pw_below_drewN | apply below_drew1 | refine below_set ?_ GE744.out | refine below_set ?_ GE752.out) | exact HB.out)⟩
                  ·rw [if_neg c68] at H
                   have c68b0 : decide ((wrap64 ((wrap64 (x15_4 + a0)) - t766)) ≤ a1) = false := decide_eq_false c68
                   clear c68
                   obtain rfl := Option.some.inj H
                   go_wp2
                   go_ret
                   exact ⟨by first | rfl | (simp [errW_none, errW_some] <;> rfl) | (simp only [← hji26]; first | rfl | (simp [errW_none, errW_some] <;> rfl)) | (simp [*, errW_none, errW_some] <;> rfl), by repeat (first | (with_reducible first | exact HB.out | apply below_alloc | apply pw_below_drewN | apply below_drew1 | refine below_set ?_ GE744.out | refine below_set ?_ GE752.out) | exact HB.out)⟩
                 ·replace c67 := Bool.eq_false_iff.mpr c67
                  subst c67
                  have H1 : (if x15_4 > a1 then ((comfitlaw02_awake.f k4).bind fun t772 => (some t772)) else (some false)) = some r := by rw [if_neg (show ¬ (false = true) by decide)] at H; exact H
                  clear H
                  have H := H1
                  clear H1
                  by_cases c71 : x15_4 > a1
                  ·rw [if_pos c71] at H
                   have c71b0 : decide (a1 < x15_4) = true := decide_eq_true c71
                   clear c71
                   replace H := Option.bind_eq_some_iff.mp H
                   obtain ⟨t772, A720, H⟩ := H
                   replace H : (some t772) = some r := H
                   have A72 := Aside0.mk A720
                   clear A720
                   obtain rfl := Option.some.inj H
                   go_wp2_with (first | (go_at_call 26; (with_reducible refine (comfitlaw02_awake.calls k4  t772 _ A72.out).mono ?_); rintro e w73 ⟨rfl, hb⟩; have n0_ := Aside0.mk (Kd.R_below (kr_ (HO_745000.out)) hb); have n1_ := Aside0.mk (Kd.R_below (kr_ (HO_745001.out)) hb); have n2_ := Aside0.mk (Kd.R_below (kr_ (HO_753000.out)) hb); have n3_ := Aside0.mk (Kd.R_below (kr_ (HO_753001.out)) hb); have n4_ := Aside0.mk (bkb_ BK744.out hb); have n5_ := Aside0.mk (bkb_ BK752.out hb); have n6_ := Aside0.mk (below_step (hb_ HB.out) hb); clear HO_745000; clear HO_745001; clear HO_753000; clear HO_753001; clear BK744; clear BK752; clear HB; have HO_745000 := n0_; have HO_745001 := n1_; have HO_753000 := n2_; have HO_753001 := n3_; have BK744 := n4_; have BK752 := n5_; have HB := n6_; clear n0_ n1_ n2_ n3_ n4_ n5_ n6_; (try clear hb); (try clear hb2); (try clear hk); (try clear hi)))
                   go_ret
                   exact ⟨by first | rfl | (simp [errW_none, errW_some] <;> rfl) | (simp only [← hji26]; first | rfl | (simp [errW_none, errW_some] <;> rfl)) | (simp [*, errW_none, errW_some] <;> rfl), by repeat (first | (with_reducible first | exact HB.out | apply below_alloc | apply pw_below_drewN | apply below_drew1 | refine below_set ?_ GE744.out | refine below_set ?_ GE752.out) | exact HB.out)⟩
                  ·rw [if_neg c71] at H
                   have c71b0 : decide (a1 < x15_4) = false := decide_eq_false c71
                   clear c71
                   obtain rfl := Option.some.inj H
                   go_wp2
                   go_ret
                   exact ⟨by first | rfl | (simp [errW_none, errW_some] <;> rfl) | (simp only [← hji26]; first | rfl | (simp [errW_none, errW_some] <;> rfl)) | (simp [*, errW_none, errW_some] <;> rfl), by repeat (first | (with_reducible first | exact HB.out | apply below_alloc | apply pw_below_drewN | apply below_drew1 | refine below_set ?_ GE744.out | refine below_set ?_ GE752.out) | exact HB.out)⟩
             ·rw [if_neg c60] at H
              exact absurd H (by simp)
            ·rw [if_neg c59] at H
             exact absurd H (by simp)
     ·rw [if_neg c28] at H
      exact absurd H (by simp)
    ·rw [if_neg c27] at H
     exact absurd H (by simp)

end Go.Proofs.Ytdppnmfljfdhaaa.X
