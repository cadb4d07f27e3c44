/- Written by a program of this session (wip/tools/xprint.py, which calls the kit's print): Go functions as Lean functions, and for each the proof that the machine's call does what it says; no conditions but those that each theorem names. -/
import Derived.Test.YtjmbjnobbeflfaaDoorQX0
import Derived.Test.YtjmbjnobbeflfaaDoorQXRC
namespace Go.Proofs.YtjmbjnobbeflfaaDoor.X
open Go.RowKit Go.Proofs.YtjmbjnobbeflfaaDoorW.PrintWords Go.Proofs.YtjmbjnobbeflfaaDoorW.PrintLast Go.Proofs.YtjmbjnobbeflfaaDoorW.PrintMore
attribute [local go_sem] max2_int min2_int max_two min_two max_three min_three max_four min_four   -- for this text's walks alone
set_option linter.unusedVariables false
set_option linter.unusedSimpArgs false

/-! ### comfitref06_Again: function 11 -/
mutual
def comfitref06_Again.l0 : Nat → Int → ByteArray → List ByteArray → Int → ByteArray → ByteArray → ByteArray → ByteArray → Option (Int × Int × Int)
 | 0, _, _, _, _, _, _, _, _ => none
 | k + 1, x0, x2, x9, x10, x243000, x243001, x243002, x243003 => if x10 ≤ 1000 then ((comfitref06_Cut.f x0 x243000 x243001 x243002 x243003 x2).bind fun bt246 => (if bt246.2 = 0 then (comfitref06_Again.l1 k x0 bt246.1 x9 x10 x9 (x9.length : Int) 0 x243000 x243001 x243002 x243003) else (some (0, 0, bt246.2)))) else ((comfitref06_Cut.f x0 x243000 x243001 x243002 x243003 x2).bind fun bt252 => (if bt252.2 = 4 then (some (0, 0, bt252.2)) else (some (0, 0, 5))))
def comfitref06_Again.l1 : Nat → Int → ByteArray → List ByteArray → Int → List ByteArray → Int → Int → ByteArray → ByteArray → ByteArray → ByteArray → Option (Int × Int × Int)
 | 0, _, _, _, _, _, _, _, _, _, _, _ => none
 | k + 1, x0, x2, x9, x10, x34, x35, x36, x243000, x243001, x243002, x243003 => if x36 < x35 then (if 0 ≤ x36 then (if x36 < (x34.length : Int) then (if (rdOf ByteArray.empty x34 x36).toList = x2.toList then (some (x36, wrap64 (x10 - x36), 0)) else (comfitref06_Again.l1 k x0 x2 x9 x10 x34 x35 (wrap64 (x36 + 1)) x243000 x243001 x243002 x243003)) else (none)) else (none)) else (if x9.length < 8796093022208 then (comfitref06_Again.l0 k x0 x2 (x9 ++ [x2]) (wrap64 (x10 + 1)) x243000 x243001 x243002 x243003) else (none))
end
def comfitref06_Again.f (k : Nat) (a0 : Int) (a1_0 : ByteArray) (a1_1 : ByteArray) (a1_2 : ByteArray) (a1_3 : ByteArray) (a2 : ByteArray) : Option (Int × Int × Int) := comfitref06_Again.l0 k a0 a2 (([a2] : List ByteArray)) 1 a1_0 a1_1 a1_2 a1_3
set_option maxHeartbeats 8000000 in
set_option maxRecDepth 100000 in
theorem comfitref06_Again.calls (k : Nat) (a0 : Int) (a1_0 : ByteArray) (a1_1 : ByteArray) (a1_2 : ByteArray) (a1_3 : ByteArray) (a2 : ByteArray) (r1 : Int) (r2 : Int) (r3 : Int) (w : World) (h : comfitref06_Again.f k a0 a1_0 a1_1 a1_2 a1_3 a2 = some (r1, r2, r3)) :
  Calls Tryd.prog 11 #[.int .i64 a0, .agg #[.string a1_0, .string a1_1, .string a1_2, .string a1_3], .string a2] w fun e w' => e = .returned (.tuple #[.int .i64 r1, .int .i64 r2, .int .i64 r3]) ∧ Below w.heap.size w w' := by
 have hu22 := Tryd.underlying22
 have HB := Aside0.mk (Below.refl w.heap.size w)
 have H : (comfitref06_Again.l0 k a0 a2 (([a2] : List ByteArray)) 1 a1_0 a1_1 a1_2 a1_3) = some (r1, r2, r3) := h
 clear h
 obtain ⟨y243, hy243⟩ : ∃ y_ : List ByteArray, y_ = (([a2] : List ByteArray)) := ⟨_, rfl⟩
 replace H : (comfitref06_Again.l0 k a0 a2 y243 1 a1_0 a1_1 a1_2 a1_3) = some (r1, r2, r3) := by first | (rw [hy243]; with_reducible exact H) | (have H2_ := (Option.bind_some _ _).symm.trans H; rw [hy243]; with_reducible exact H2_) | (have H2_ := (Option.bind_some _ _).symm.trans H; with_reducible exact H2_) | with_reducible exact H | (rw [hy243]; exact H) | exact H
 have Ny243 := Aside0.mk hy243
 clear hy243
 have H' := Aside0.mk H
 clear H
 go_enter Tryd.func11, Tryd.ntmps11
 go_wp2_with (first | ((with_reducible refine gate_dst (N := 4) rfl ?_); refine box_event ?hg (N := 4) ?hd (cs := #[.string a1_0, .string a1_1, .string a1_2, .string a1_3]) (t := 22) ?hr ?_; (case hd => rfl); (case hg => rfl); (case hr => first | (go_simp; done) | (go_simp; rfl)); intro gb242 hg w4 hbox hb; have n0_ := Aside0.mk (below_step (hb_ HB.out) hb); have n1_ := Aside0.mk (hbox); have n2_ := Aside0.mk ((by rw [hg]; exact (below_size (hb_ HB.out)) : w.heap.size ≤ gb242)); have n3_ := Aside0.mk ((by rw [hg]; exact (below_size (hb_ HB.out)) : w.heap.size ≤ gb242)); clear HB; have HB := n0_; have BK242 := n1_; have GW242 := n2_; have GE242 := n3_; clear n0_ n1_ n2_ n3_; clear hb hbox hg) | ((with_reducible refine gate_dst (N := 18) rfl ?_); refine Kd.R_lit Kd.string _ 9 ?hg (N := 18) ?hd (xs := ([a2] : List ByteArray)) (inner := [.string a2]) (ok := fun _ => True) (okp := fun _ => True) ?hr ?hp (fun _ hk => hk) trivial (Below.refl _ _) (Nat.le_refl _) (by simp) ?_; (case hd => rfl); (case hg => rfl); (case hr => first | (go_simp; done) | (go_simp; rfl)); (case hp => exact (Reps.one (show Kd.M Kd.string _ _ _ a2 [.string a2] from rfl) (Reps.none _ _))); intro v244 w5 ho6 hb hg_ hnew_; clear hg_ hnew_; (first | rw [← Ny243.out] at ho6 | (simp only [Int.reduceToNat] at ho6; rw [← Ny243.out] at ho6)); have n0_ := Aside0.mk (Kd.R_lower ho6 (below_size (hb_ HB.out))); have n1_ := Aside0.mk (bkb_ BK242.out hb); have n2_ := Aside0.mk (below_step (hb_ HB.out) hb); clear BK242; clear HB; have HO245 := n0_; have BK242 := n1_; have HB := n2_; clear n0_ n1_ n2_; clear hb ho6))
 go_loopg [2, 9, 10] k (fun kq v2 v9 v10 w' => ∃ (x2_1 : ByteArray) (x9_1 : List ByteArray) (x10_1 : Int), v2 = .string x2_1 ∧ v10 = .int .i64 x10_1 ∧ Aside0 (comfitref06_Again.l0 kq a0 x2_1 x9_1 x10_1 a1_0 a1_1 a1_2 a1_3 = some (r1, r2, r3)) ∧ Aside0 (kq ≤ k) ∧ Aside0 (Kd.R Kd.string 9 w' w.heap.size (fun _ => True) v9 x9_1) ∧ Aside0 (w'.heap[gb242]? = some (.cells #[.string a1_0, .string a1_1, .string a1_2, .string a1_3] 22 (0, 0))) ∧ Aside0 (Below w.heap.size w w'))
 case atStart => exact ⟨(a2), (y243), (1), (by first | rfl | (simp; done) | (simp [*]; done)), (by first | rfl | (simp; done) | (simp [*]; done)), H', ⟨Nat.le_refl _⟩, ⟨by (with_reducible repeat (first | apply Kd.R_alloc | apply Kd.R_drewN | apply Kd.R_drew)); exact HO245.out⟩, ⟨by (with_reducible repeat (first | refine blk_drewN ?_ _ | refine blk_drew ?_ | refine blk_alloc ?_ _)); exact BK242.out⟩, ⟨by repeat (first | (with_reducible first | exact HB.out | apply below_alloc | apply pw_below_drewN | apply below_drew1 | refine below_set ?_ GE242.out) | exact HB.out)⟩⟩
 case round =>
  clear H'
  try clear c1
  try clear p2
  obtain ⟨x2_1, x9_1, x10_1, rfl, rfl, HA, HK1, HO_9, BK242, HB⟩ := hrel
  cases gk with
  | zero => exact absurd HA.out (by simp [comfitref06_Again.l0])
  | succ k1 =>
   have H := HA.out
   clear HA
   simp only [comfitref06_Again.l0] at H
   by_cases c7 : x10_1 ≤ 1000
   ·rw [if_pos c7] at H
    have c7b0 : decide (x10_1 ≤ 1000) = true := decide_eq_true c7
    clear c7
    replace H := Option.bind_eq_some_iff.mp H
    obtain ⟨⟨t246, t247⟩, A80, H⟩ := H
    replace H : (if t247 = 0 then (comfitref06_Again.l1 k1 a0 t246 x9_1 x10_1 x9_1 (x9_1.length : Int) 0 a1_0 a1_1 a1_2 a1_3) else (some (0, 0, t247))) = some (r1, r2, r3) := H
    have A8 := Aside0.mk A80
    clear A80
    by_cases c9 : t247 = 0
    ·rw [if_pos c9] at H
     have c9b0 : (t247 == 0) = true := beq_iff_eq.mpr c9
     have c9b1 : (t247 != 0) = false := bne_eq_false_iff_eq.mpr c9
     clear c9
     have H' := Aside0.mk H
     clear H
     have hcz10_0 : wr.cell? ⟨gb242, 0, none⟩ = some (.string a1_0) := (blk_cell BK242.out 0).trans rfl
     have hcz10_1 : wr.cell? ⟨gb242, 1, none⟩ = some (.string a1_1) := (blk_cell BK242.out 1).trans rfl
     have hcz10_2 : wr.cell? ⟨gb242, 2, none⟩ = some (.string a1_2) := (blk_cell BK242.out 2).trans rfl
     have hcz10_3 : wr.cell? ⟨gb242, 3, none⟩ = some (.string a1_3) := (blk_cell BK242.out 3).trans rfl
     have hfz10_0 := blk_frozen BK242.out 0
     have hfz10_1 := blk_frozen BK242.out 1
     have hfz10_2 := blk_frozen BK242.out 2
     have hfz10_3 := blk_frozen BK242.out 3
     go_wp2_with (first | ((with_reducible refine gate_callee (f := 14) rfl ?_); refine goesL_ (some 27) rfl rfl Tryd.func14 (by kernel_rfl) rfl #[.int .i64 a0, .agg #[.string a1_0, .string a1_1, .string a1_2, .string a1_3], .string x2_1] rfl al_ ?_; (with_reducible refine (comfitref06_Cut.calls a0 a1_0 a1_1 a1_2 a1_3 x2_1 t246 t247 _ A8.out).mono ?_); rintro e w11 ⟨rfl, hb⟩; refine ⟨_, rfl, ?_⟩; have n0_ := Aside0.mk (Kd.R_below (kr_ (HO_9.out)) hb); have n1_ := Aside0.mk (bkb_ BK242.out hb); have n2_ := Aside0.mk (below_step (hb_ HB.out) hb); clear HO_9; clear BK242; clear HB; have HO_9 := n0_; have BK242 := n1_; have HB := n2_; clear n0_ n1_ n2_; (try clear hb); (try clear hb2); (try clear hk); (try clear hi); obtain ⟨Ao12, co12, eo12⟩ := Kd.R_slice HO_9.out; subst eo12))
     go_loopg [36] k1 (fun kq v36 w' => ∃ (x36_2 : Int), v36 = .int .i64 x36_2 ∧ Aside0 (comfitref06_Again.l1 kq a0 t246 x9_1 x10_1 x9_1 (x9_1.length : Int) x36_2 a1_0 a1_1 a1_2 a1_3 = some (r1, r2, r3)) ∧ Aside0 (kq ≤ k1) ∧ Aside0 (Kd.R Kd.string 9 w' w.heap.size (fun _ => True) (.slice Ao12 x9_1.length co12) x9_1) ∧ Aside0 (Kd.R Kd.string 9 w' w.heap.size (fun _ => True) (.slice Ao12 x9_1.length co12) x9_1) ∧ Aside0 (w'.heap[gb242]? = some (.cells #[.string a1_0, .string a1_1, .string a1_2, .string a1_3] 22 (0, 0))) ∧ Aside0 (Below w.heap.size w w'))
     case atStart => exact ⟨(0), (by first | rfl | (simp; done) | (simp [*]; done)), H', ⟨Nat.le_refl _⟩, ⟨by (with_reducible repeat (first | apply Kd.R_alloc | apply Kd.R_drewN | apply Kd.R_drew)); exact HO_9.out⟩, ⟨by (with_reducible repeat (first | apply Kd.R_alloc | apply Kd.R_drewN | apply Kd.R_drew)); exact HO_9.out⟩, ⟨by (with_reducible repeat (first | refine blk_drewN ?_ _ | refine blk_drew ?_ | refine blk_alloc ?_ _)); exact BK242.out⟩, ⟨by repeat (first | (with_reducible first | exact HB.out | apply below_alloc | apply pw_below_drewN | apply below_drew1 | refine below_set ?_ GE242.out) | exact HB.out)⟩⟩
     case round =>
      clear H'
      try clear c1
      try clear p2
      try clear c7
      try clear c7b0
      try clear c9
      try clear c9b0
      try clear c9b1
      try clear c11
      try clear hcz10_0
      try clear hcz10_1
      try clear hcz10_2
      try clear hcz10_3
      try clear hfz10_0
      try clear hfz10_1
      try clear hfz10_2
      try clear hfz10_3
      try clear p2
      obtain ⟨x36_2, rfl, HA, HK2, HO_9, HO_34, BK242, HB⟩ := hrel
      cases gk with
      | zero => exact absurd HA.out (by simp [comfitref06_Again.l1])
      | succ k2 =>
       have H := HA.out
       clear HA
       simp only [comfitref06_Again.l1] at H
       by_cases c13 : x36_2 < (x9_1.length : Int)
       ·rw [if_pos c13] at H
        have c13b0 : decide (x36_2 < (x9_1.length : Int)) = true := decide_eq_true c13
        clear c13
        by_cases c14 : 0 ≤ x36_2
        ·rw [if_pos c14] at H
         have c14b0 : decide (0 ≤ x36_2) = true := decide_eq_true c14
         clear c14
         by_cases c15 : x36_2 < (x9_1.length : Int)
         ·rw [if_pos c15] at H
          have c15b0 : decide (x36_2 < (x9_1.length : Int)) = true := decide_eq_true c15
          clear c15
          by_cases c16 : (rdOf ByteArray.empty x9_1 x36_2).toList = t246.toList
          ·rw [if_pos c16] at H
           have c16b0 : ((rdOf ByteArray.empty x9_1 x36_2).toList == t246.toList) = true := beq_iff_eq.mpr c16
           have c16b1 : ((rdOf ByteArray.empty x9_1 x36_2).toList != t246.toList) = false := bne_eq_false_iff_eq.mpr c16
           clear c16
           simp only [Option.some.injEq, Prod.mk.injEq] at H
           obtain ⟨rfl, rfl, rfl⟩ := H
           have p251 : 0 ≤ (x36_2 : Int) := of_decide_eq_true (by first | (with_reducible assumption) | assumption)
           have q251 : x36_2 < (x9_1.length : Int) := of_decide_eq_true (by first | (with_reducible assumption) | assumption)
           obtain ⟨ad251, e251, hx251_0⟩ := Kd.at_string (Kd.R_reads' HO_34.out).2.2 x36_2 p251 q251
           cases e251
           replace p251 := eq_true p251
           replace q251 := eq_true q251
           go_wp2
           go_ret3
           exact ⟨by first | rfl | (simp [errW_none, errW_some] <;> rfl) | (simp [*, errW_none, errW_some] <;> rfl), by repeat (first | (with_reducible first | exact HB.out | apply below_alloc | apply pw_below_drewN | apply below_drew1 | refine below_set ?_ GE242.out) | exact HB.out)⟩
          ·rw [if_neg c16] at H
           have c16b0 : ((rdOf ByteArray.empty x9_1 x36_2).toList == t246.toList) = false := beq_eq_false_iff_ne.mpr c16
           have c16b1 : ((rdOf ByteArray.empty x9_1 x36_2).toList != t246.toList) = true := bne_iff_ne.mpr c16
           have H' := Aside0.mk H
           clear H
           have p251 : 0 ≤ (x36_2 : Int) := of_decide_eq_true (by first | (with_reducible assumption) | assumption)
           have q251 : x36_2 < (x9_1.length : Int) := of_decide_eq_true (by first | (with_reducible assumption) | assumption)
           obtain ⟨ad251, e251, hx251_0⟩ := Kd.at_string (Kd.R_reads' HO_34.out).2.2 x36_2 p251 q251
           cases e251
           replace p251 := eq_true p251
           replace q251 := eq_true q251
           go_wp2
           go_roundg k2
           case measure => have := HK1.out; have := HK2.out; omega
           case rel => exact ⟨(wrap64 (x36_2 + 1)), (by first | rfl | (simp; done) | (simp [*]; done)), H', ⟨by have := HK1.out; have := HK2.out; omega⟩, ⟨by (with_reducible repeat (first | apply Kd.R_alloc | apply Kd.R_drewN | apply Kd.R_drew)); exact HO_9.out⟩, ⟨by (with_reducible repeat (first | apply Kd.R_alloc | apply Kd.R_drewN | apply Kd.R_drew)); exact HO_34.out⟩, ⟨by (with_reducible repeat (first | refine blk_drewN ?_ _ | refine blk_drew ?_ | refine blk_alloc ?_ _)); exact BK242.out⟩, ⟨by repeat (first | (with_reducible first | exact HB.out | apply below_alloc | apply pw_below_drewN | apply below_drew1 | refine below_set ?_ GE242.out) | exact HB.out)⟩⟩
         ·rw [if_neg c15] at H
          exact absurd H (by simp)
        ·rw [if_neg c14] at H
         exact absurd H (by simp)
       ·rw [if_neg c13] at H
        have c13b0 : decide (x36_2 < (x9_1.length : Int)) = false := decide_eq_false c13
        clear c13
        by_cases c17 : x9_1.length < 8796093022208
        ·rw [if_pos c17] at H
         have LMc17 := Aside0.mk c17
         clear c17
         obtain ⟨y248, hy248⟩ : ∃ y_ : List ByteArray, y_ = (x9_1 ++ [t246]) := ⟨_, rfl⟩
         replace H : (comfitref06_Again.l0 k2 a0 t246 y248 (wrap64 (x10_1 + 1)) a1_0 a1_1 a1_2 a1_3) = some (r1, r2, r3) := by first | (rw [hy248]; with_reducible exact H) | (have H2_ := (Option.bind_some _ _).symm.trans H; rw [hy248]; with_reducible exact H2_) | (have H2_ := (Option.bind_some _ _).symm.trans H; with_reducible exact H2_) | with_reducible exact H | (rw [hy248]; exact H) | exact H
         have Ny248 := Aside0.mk hy248
         clear hy248
         have H' := Aside0.mk H
         clear H
         go_wp2_with (first | ((with_reducible refine gate_builtin (b := .append) (xs := #[.tmp 49, .tmp 51]) rfl ?_); at_builtin; refine Kd.R_append Kd.string (w0 := w) w.heap.size rfl (.tmp 49) (.tmp 51) 50 9 (.string ⟨#[]⟩) 16 rfl Tryd.underlying50 info9 rfl (by decide) (by omega) (.slice Ao12 x9_1.length co12) x9_1 t246 [.string t246] (fun _ => True) (fun _ => False) rfl rfl ?aP (fun _ hk => hk.elim) ?aF ?aO ?aB ?aS ?aL ?_; (case aP => exact rfl); (case aB => exact (hb_ HB.out)); (case aF => exact (fun _ _ => trivial)); (case aO => exact (kr_ (HO_9.out))); (case aS => exact (below_size (hb_ HB.out))); (case aL => have := LMc17.out; omega); intro v249 w18 ho hb hg hat; rw [← Ny248.out] at ho; have n0_ := Aside0.mk (blk_grown (g := gb242) (o := .cells #[.string a1_0, .string a1_1, .string a1_2, .string a1_3] 22 (0, 0)) (bk_ BK242.out) hg (Kd.R_ne HO_9.out BK242.out (by decide))); have n1_ := Aside0.mk (hb); have n2_ := Aside0.mk (ho); clear BK242; clear HB; clear HO_9; have BK242 := n0_; have HB := n1_; have HO250 := n2_; clear n0_ n1_ n2_; clear ho hb hg hat))
         go_roundg k2
         case measure => have := HK1.out; have := HK2.out; omega
         case rel => exact ⟨(t246), (y248), (wrap64 (x10_1 + 1)), (by first | rfl | (simp; done) | (simp [*]; done)), (by first | rfl | (simp; done) | (simp [*]; done)), H', ⟨by have := HK1.out; have := HK2.out; omega⟩, ⟨by (with_reducible repeat (first | apply Kd.R_alloc | apply Kd.R_drewN | apply Kd.R_drew)); exact HO250.out⟩, ⟨by (with_reducible repeat (first | refine blk_drewN ?_ _ | refine blk_drew ?_ | refine blk_alloc ?_ _)); exact BK242.out⟩, ⟨by repeat (first | (with_reducible first | exact HB.out | apply below_alloc | apply pw_below_drewN | apply below_drew1 | refine below_set ?_ GE242.out) | exact HB.out)⟩⟩
        ·rw [if_neg c17] at H
         exact absurd H (by simp)
    ·rw [if_neg c9] at H
     have c9b0 : (t247 == 0) = false := beq_eq_false_iff_ne.mpr c9
     have c9b1 : (t247 != 0) = true := bne_iff_ne.mpr c9
     simp only [Option.some.injEq, Prod.mk.injEq] at H
     obtain ⟨rfl, rfl, rfl⟩ := H
     have hcz19_0 : wr.cell? ⟨gb242, 0, none⟩ = some (.string a1_0) := (blk_cell BK242.out 0).trans rfl
     have hcz19_1 : wr.cell? ⟨gb242, 1, none⟩ = some (.string a1_1) := (blk_cell BK242.out 1).trans rfl
     have hcz19_2 : wr.cell? ⟨gb242, 2, none⟩ = some (.string a1_2) := (blk_cell BK242.out 2).trans rfl
     have hcz19_3 : wr.cell? ⟨gb242, 3, none⟩ = some (.string a1_3) := (blk_cell BK242.out 3).trans rfl
     have hfz19_0 := blk_frozen BK242.out 0
     have hfz19_1 := blk_frozen BK242.out 1
     have hfz19_2 := blk_frozen BK242.out 2
     have hfz19_3 := blk_frozen BK242.out 3
     go_wp2_with (first | ((with_reducible refine gate_callee (f := 14) rfl ?_); refine goesL_ (some 27) rfl rfl Tryd.func14 (by kernel_rfl) rfl #[.int .i64 a0, .agg #[.string a1_0, .string a1_1, .string a1_2, .string a1_3], .string x2_1] rfl al_ ?_; (with_reducible refine (comfitref06_Cut.calls a0 a1_0 a1_1 a1_2 a1_3 x2_1 t246 t247 _ A8.out).mono ?_); rintro e w20 ⟨rfl, hb⟩; refine ⟨_, rfl, ?_⟩; have n0_ := Aside0.mk (Kd.R_below (kr_ (HO_9.out)) hb); have n1_ := Aside0.mk (bkb_ BK242.out hb); have n2_ := Aside0.mk (below_step (hb_ HB.out) hb); clear HO_9; clear BK242; clear HB; have HO_9 := n0_; have BK242 := n1_; have HB := n2_; clear n0_ n1_ n2_; (try clear hb); (try clear hb2); (try clear hk); (try clear hi)))
     go_ret3
     exact ⟨by first | rfl | (simp [errW_none, errW_some] <;> rfl) | (simp [*, errW_none, errW_some] <;> rfl), by repeat (first | (with_reducible first | exact HB.out | apply below_alloc | apply pw_below_drewN | apply below_drew1 | refine below_set ?_ GE242.out) | exact HB.out)⟩
   ·rw [if_neg c7] at H
    have c7b0 : decide (x10_1 ≤ 1000) = false := decide_eq_false c7
    clear c7
    replace H := Option.bind_eq_some_iff.mp H
    obtain ⟨⟨t252, t253⟩, A210, H⟩ := H
    replace H : (if t253 = 4 then (some (0, 0, t253)) else (some (0, 0, 5))) = some (r1, r2, r3) := H
    have A21 := Aside0.mk A210
    clear A210
    by_cases c22 : t253 = 4
    ·rw [if_pos c22] at H
     have c22b0 : (t253 == 4) = true := beq_iff_eq.mpr c22
     have c22b1 : (t253 != 4) = false := bne_eq_false_iff_eq.mpr c22
     clear c22
     simp only [Option.some.injEq, Prod.mk.injEq] at H
     obtain ⟨rfl, rfl, rfl⟩ := H
     have hcz23_0 : wr.cell? ⟨gb242, 0, none⟩ = some (.string a1_0) := (blk_cell BK242.out 0).trans rfl
     have hcz23_1 : wr.cell? ⟨gb242, 1, none⟩ = some (.string a1_1) := (blk_cell BK242.out 1).trans rfl
     have hcz23_2 : wr.cell? ⟨gb242, 2, none⟩ = some (.string a1_2) := (blk_cell BK242.out 2).trans rfl
     have hcz23_3 : wr.cell? ⟨gb242, 3, none⟩ = some (.string a1_3) := (blk_cell BK242.out 3).trans rfl
     have hfz23_0 := blk_frozen BK242.out 0
     have hfz23_1 := blk_frozen BK242.out 1
     have hfz23_2 := blk_frozen BK242.out 2
     have hfz23_3 := blk_frozen BK242.out 3
     go_wp2_with (first | ((with_reducible refine gate_callee (f := 14) rfl ?_); refine goesL_ (some 57) rfl rfl Tryd.func14 (by kernel_rfl) rfl #[.int .i64 a0, .agg #[.string a1_0, .string a1_1, .string a1_2, .string a1_3], .string x2_1] rfl al_ ?_; (with_reducible refine (comfitref06_Cut.calls a0 a1_0 a1_1 a1_2 a1_3 x2_1 t252 t253 _ A21.out).mono ?_); rintro e w24 ⟨rfl, hb⟩; refine ⟨_, rfl, ?_⟩; have n0_ := Aside0.mk (Kd.R_below (kr_ (HO_9.out)) hb); have n1_ := Aside0.mk (bkb_ BK242.out hb); have n2_ := Aside0.mk (below_step (hb_ HB.out) hb); clear HO_9; clear BK242; clear HB; have HO_9 := n0_; have BK242 := n1_; have HB := n2_; clear n0_ n1_ n2_; (try clear hb); (try clear hb2); (try clear hk); (try clear hi)))
     go_ret3
     exact ⟨by first | rfl | (simp [errW_none, errW_some] <;> rfl) | (simp [*, errW_none, errW_some] <;> rfl), by repeat (first | (with_reducible first | exact HB.out | apply below_alloc | apply pw_below_drewN | apply below_drew1 | refine below_set ?_ GE242.out) | exact HB.out)⟩
    ·rw [if_neg c22] at H
     have c22b0 : (t253 == 4) = false := beq_eq_false_iff_ne.mpr c22
     have c22b1 : (t253 != 4) = true := bne_iff_ne.mpr c22
     simp only [Option.some.injEq, Prod.mk.injEq] at H
     obtain ⟨rfl, rfl, rfl⟩ := H
     have hcz25_0 : wr.cell? ⟨gb242, 0, none⟩ = some (.string a1_0) := (blk_cell BK242.out 0).trans rfl
     have hcz25_1 : wr.cell? ⟨gb242, 1, none⟩ = some (.string a1_1) := (blk_cell BK242.out 1).trans rfl
     have hcz25_2 : wr.cell? ⟨gb242, 2, none⟩ = some (.string a1_2) := (blk_cell BK242.out 2).trans rfl
     have hcz25_3 : wr.cell? ⟨gb242, 3, none⟩ = some (.string a1_3) := (blk_cell BK242.out 3).trans rfl
     have hfz25_0 := blk_frozen BK242.out 0
     have hfz25_1 := blk_frozen BK242.out 1
     have hfz25_2 := blk_frozen BK242.out 2
     have hfz25_3 := blk_frozen BK242.out 3
     go_wp2_with (first | ((with_reducible refine gate_callee (f := 14) rfl ?_); refine goesL_ (some 57) rfl rfl Tryd.func14 (by kernel_rfl) rfl #[.int .i64 a0, .agg #[.string a1_0, .string a1_1, .string a1_2, .string a1_3], .string x2_1] rfl al_ ?_; (with_reducible refine (comfitref06_Cut.calls a0 a1_0 a1_1 a1_2 a1_3 x2_1 t252 t253 _ A21.out).mono ?_); rintro e w26 ⟨rfl, hb⟩; refine ⟨_, rfl, ?_⟩; have n0_ := Aside0.mk (Kd.R_below (kr_ (HO_9.out)) hb); have n1_ := Aside0.mk (bkb_ BK242.out hb); have n2_ := Aside0.mk (below_step (hb_ HB.out) hb); clear HO_9; clear BK242; clear HB; have HO_9 := n0_; have BK242 := n1_; have HB := n2_; clear n0_ n1_ n2_; (try clear hb); (try clear hb2); (try clear hk); (try clear hi)))
     go_ret3
     exact ⟨by first | rfl | (simp [errW_none, errW_some] <;> rfl) | (simp [*, errW_none, errW_some] <;> rfl), by repeat (first | (with_reducible first | exact HB.out | apply below_alloc | apply pw_below_drewN | apply below_drew1 | refine below_set ?_ GE242.out) | exact HB.out)⟩

end Go.Proofs.YtjmbjnobbeflfaaDoor.X
