/- Written by a program of this session (wip/tools/xprint.py, which calls the kit's print): Go functions as Lean functions, and for each the proof that the machine's call does what it says; no conditions but those that each theorem names. -/
import Derived.Test.YtjmbjnobbeflfaaQX0
namespace Go.Proofs.Ytjmbjnobbeflfaa.X
open Go.RowKit Go.Proofs.YtjmbjnobbeflfaaW.PrintWords Go.Proofs.YtjmbjnobbeflfaaW.PrintLast Go.Proofs.YtjmbjnobbeflfaaW.PrintMore
attribute [local go_sem] max2_int min2_int max_two min_two max_three min_three max_four min_four   -- for this text's walks alone
set_option linter.unusedVariables false
set_option linter.unusedSimpArgs false

/-! ### comfitref06_Fewer: function 26 -/
mutual
def comfitref06_Fewer.l0 : Nat → List (S39) → List Bool → Int → Int → Option ((List (S39)))
 | 0, _, _, _, _ => none
 | k + 1, x0, x3, x19, x20 => if x20 < x19 then (comfitref06_Fewer.l1 k x0 x3 x19 x20 x0 (x0.length : Int) 0) else (if 0 ≤ (x0.length : Int) then (if ((x0.length : Int) : Int).toNat ≤ 35184372088832 then (comfitref06_Fewer.l2 k x0 x3 (List.replicate ((x0.length : Int) : Int).toNat 0) 0 x3 (x3.length : Int) 0) else (none)) else (none))
def comfitref06_Fewer.l1 : Nat → List (S39) → List Bool → Int → Int → List (S39) → Int → Int → Option ((List (S39)))
 | 0, _, _, _, _, _, _, _ => none
 | k + 1, x0, x3, x19, x20, x22, x23, x24 => if x24 < x23 then (if 0 ≤ x24 then (if x24 < (x22.length : Int) then (if x24 < (x3.length : Int) then (if rdOf false x3 x24 = true then (comfitref06_Fewer.j2 k x0 x3 x24 x19 x20 x22 x23 x24 (decide (((rd_T39 x22 x24).f0) > 0)) ((rd_T39 x22 x24).f0) ((rd_T39 x22 x24).f1) ((rd_T39 x22 x24).f2) ((rd_T39 x22 x24).f3)) else (comfitref06_Fewer.j2 k x0 x3 x24 x19 x20 x22 x23 x24 false ((rd_T39 x22 x24).f0) ((rd_T39 x22 x24).f1) ((rd_T39 x22 x24).f2) ((rd_T39 x22 x24).f3))) else (none)) else (none)) else (none)) else (comfitref06_Fewer.l0 k x0 x3 x19 (wrap64 (x20 + 1)))
def comfitref06_Fewer.j2 : Nat → List (S39) → List Bool → Int → Int → Int → List (S39) → Int → Int → Bool → Int → Int → Int → Int → Option ((List (S39)))
 | 0, _, _, _, _, _, _, _, _, _, _, _, _, _ => none
 | k + 1, x0, x3, x4, x19, x20, x22, x23, x24, x37, x119000, x119001, x119002, x119003 => if x37 = true then (if 0 ≤ x119002 then (if x119002 < (x3.length : Int) then (comfitref06_Fewer.j3 k x0 (x3.set (x119002 : Int).toNat true) x4 x19 x20 x22 x23 x24 x119000 x119001 x119002 x119003) else (none)) else (none)) else (comfitref06_Fewer.j3 k x0 x3 x4 x19 x20 x22 x23 x24 x119000 x119001 x119002 x119003)
def comfitref06_Fewer.j3 : Nat → List (S39) → List Bool → Int → Int → Int → List (S39) → Int → Int → Int → Int → Int → Int → Option ((List (S39)))
 | 0, _, _, _, _, _, _, _, _, _, _, _, _ => none
 | k + 1, x0, x3, x4, x19, x20, x22, x23, x24, x119000, x119001, x119002, x119003 => if 0 ≤ x4 then (if x4 < (x3.length : Int) then (if rdOf false x3 x4 = true then (if x119000 = 2 then (if 0 ≤ x119003 then (if x119003 < (x3.length : Int) then (comfitref06_Fewer.l1 k x0 (x3.set (x119003 : Int).toNat true) x19 x20 x22 x23 (wrap64 (x24 + 1))) else (none)) else (none)) else (comfitref06_Fewer.l1 k x0 x3 x19 x20 x22 x23 (wrap64 (x24 + 1)))) else (comfitref06_Fewer.l1 k x0 x3 x19 x20 x22 x23 (wrap64 (x24 + 1)))) else (none)) else (none)
def comfitref06_Fewer.l2 : Nat → List (S39) → List Bool → List Int → Int → List Bool → Int → Int → Option ((List (S39)))
 | 0, _, _, _, _, _, _, _ => none
 | k + 1, x0, x3, x6, x7, x60, x61, x62 => if x62 < x61 then (if 0 ≤ x62 then (if x62 < (x60.length : Int) then (if rdOf false x60 x62 = true then (if x62 < (x6.length : Int) then (comfitref06_Fewer.l2 k x0 x3 (x6.set (x62 : Int).toNat x7) (wrap64 (x7 + 1)) x60 x61 (wrap64 (x62 + 1))) else (none)) else (comfitref06_Fewer.l2 k x0 x3 x6 x7 x60 x61 (wrap64 (x62 + 1)))) else (none)) else (none)) else (comfitref06_Fewer.l3 k x3 x6 ([] : List (S39)) x0 (x0.length : Int) 0)
def comfitref06_Fewer.l3 : Nat → List Bool → List Int → List (S39) → List (S39) → Int → Int → Option ((List (S39)))
 | 0, _, _, _, _, _, _ => none
 | k + 1, x3, x6, x10, x75, x76, x77 => if x77 < x76 then (if 0 ≤ x77 then (if x77 < (x75.length : Int) then (if x77 < (x3.length : Int) then (if rdOf false x3 x77 = true then (if ((rd_T39 x75 x77).f0) > 0 then (if 0 ≤ ((rd_T39 x75 x77).f2) then (if ((rd_T39 x75 x77).f2) < (x6.length : Int) then (comfitref06_Fewer.j6 k x3 x6 x10 x75 x76 x77 ((rd_T39 x75 x77).f0) ((rd_T39 x75 x77).f1) (rd x6 ((rd_T39 x75 x77).f2)) ((rd_T39 x75 x77).f3)) else (none)) else (none)) else (comfitref06_Fewer.j6 k x3 x6 x10 x75 x76 x77 ((rd_T39 x75 x77).f0) ((rd_T39 x75 x77).f1) ((rd_T39 x75 x77).f2) ((rd_T39 x75 x77).f3))) else (comfitref06_Fewer.l3 k x3 x6 x10 x75 x76 (wrap64 (x77 + 1)))) else (none)) else (none)) else (none)) else (some x10)
def comfitref06_Fewer.j6 : Nat → List Bool → List Int → List (S39) → List (S39) → Int → Int → Int → Int → Int → Int → Option ((List (S39)))
 | 0, _, _, _, _, _, _, _, _, _, _ => none
 | k + 1, x3, x6, x10, x75, x76, x77, x130000, x130001, x130002, x130003 => if x130000 = 2 then (if 0 ≤ x130003 then (if x130003 < (x6.length : Int) then (if x10.length < 4398046511104 then (comfitref06_Fewer.l3 k x3 x6 (x10 ++ [(⟨x130000, x130001, x130002, rd x6 x130003⟩ : S39)]) x75 x76 (wrap64 (x77 + 1))) else (none)) else (none)) else (none)) else (if x10.length < 4398046511104 then (comfitref06_Fewer.l3 k x3 x6 (x10 ++ [(⟨x130000, x130001, x130002, x130003⟩ : S39)]) x75 x76 (wrap64 (x77 + 1))) else (none))
end
def comfitref06_Fewer.f (k : Nat) (l0 : List (S39)) : Option ((List (S39))) := if 0 ≤ (l0.length : Int) then (if ((l0.length : Int) : Int).toNat ≤ 281474976710656 then ((some (List.replicate ((l0.length : Int) : Int).toNat false : List Bool)).bind fun y113 => (if 0 < (y113.length : Int) then (comfitref06_Fewer.l0 k l0 (y113.set (0 : Int).toNat true) (l0.length : Int) 0) else (none))) else (none)) else (none)
set_option maxHeartbeats 8000000 in
set_option maxRecDepth 100000 in
theorem comfitref06_Fewer.calls (k : Nat) (A0 : Option Addr) (c0 : Nat) (l0 : List (S39)) (r : List (S39)) (w : World) (hr0 : Kd.C k39 w A0 l0.length l0) (hc0 : l0.length ≤ c0) (h : comfitref06_Fewer.f k l0 = some r) :
  Calls Try.prog 26 #[.slice A0 l0.length c0] w fun e w' => ∃ v0_ : Value, e = .returned (v0_) ∧ Kd.R k39 39 w' w.heap.size (fun _ => True) v0_ r ∧ Below w.heap.size w w' := by
 have hu39 := Try.underlying39
 have HR0 := Aside0.mk hr0
 have HC0 := Aside0.mk hc0
 clear hr0 hc0
 have HB := Aside0.mk (Below.refl w.heap.size w)
 have H : (if 0 ≤ (l0.length : Int) then (if ((l0.length : Int) : Int).toNat ≤ 281474976710656 then ((some (List.replicate ((l0.length : Int) : Int).toNat false : List Bool)).bind fun y113 => (if 0 < (y113.length : Int) then (comfitref06_Fewer.l0 k l0 (y113.set (0 : Int).toNat true) (l0.length : Int) 0) else (none))) else (none)) else (none)) = some r := h
 clear h
 by_cases c2 : 0 ≤ (l0.length : Int)
 ·rw [if_pos c2] at H
  have c2b0 := eq_true c2
  have c2b1 : decide (0 ≤ (l0.length : Int)) = true := decide_eq_true c2
  clear c2
  by_cases c3 : ((l0.length : Int) : Int).toNat ≤ 281474976710656
  ·rw [if_pos c3] at H
   have c3b0 := eq_true c3
   have c3b1 : decide (((l0.length : Int) : Int).toNat ≤ 281474976710656) = true := decide_eq_true c3
   clear c3
   obtain ⟨y113, hy113⟩ : ∃ y_ : List Bool, y_ = (List.replicate ((l0.length : Int) : Int).toNat false) := ⟨_, rfl⟩
   replace H : (if 0 < (y113.length : Int) then (comfitref06_Fewer.l0 k l0 (y113.set (0 : Int).toNat true) (l0.length : Int) 0) else (none)) = some r := by first | (rw [hy113]; with_reducible exact H) | (have H2_ := (Option.bind_some _ _).symm.trans H; rw [hy113]; with_reducible exact H2_) | (have H2_ := (Option.bind_some _ _).symm.trans H; with_reducible exact H2_) | with_reducible exact H | (rw [hy113]; exact H) | exact H
   have Ny113 := Aside0.mk hy113
   clear hy113
   by_cases c4 : 0 < (y113.length : Int)
   ·rw [if_pos c4] at H
    have c4b0 : decide (0 < (y113.length : Int)) = true := decide_eq_true c4
    have c4b1 : decide (0 < y113.length) = true := decide_eq_true (by omega)
    clear c4
    obtain ⟨y116, hy116⟩ : ∃ y_ : List Bool, y_ = (y113.set (0 : Int).toNat true) := ⟨_, rfl⟩
    replace H : (comfitref06_Fewer.l0 k l0 y116 (l0.length : Int) 0) = some r := by first | (rw [hy116]; with_reducible exact H) | (have H2_ := (Option.bind_some _ _).symm.trans H; rw [hy116]; with_reducible exact H2_) | (have H2_ := (Option.bind_some _ _).symm.trans H; with_reducible exact H2_) | with_reducible exact H | (rw [hy116]; exact H) | exact H
    have Ny116 := Aside0.mk hy116
    clear hy116
    have H' := Aside0.mk H
    clear H
    go_enter Try.func26, Try.ntmps26
    go_wp2_with (first | ((with_reducible refine gate_dst (N := 15) rfl ?_); refine Kd.R_make Kd.bool _ 4 rfl (N := 15) rfl 76 _ _ rfl (l0.length : Int) rfl rfl Try.underlying76 (.bool false) 1 info4 rfl (by decide) (by omega) false (ok := fun _ => True) (okp := fun _ => True) rfl (fun _ hk => hk) trivial (of_decide_eq_true (by first | (with_reducible assumption) | assumption)) (Nat.le_trans (Nat.mul_le_mul_right _ (of_decide_eq_true (by first | (with_reducible assumption) | assumption) : (l0.length : Int).toNat ≤ 281474976710656)) (by omega)) (Below.refl _ _) (Nat.le_refl _) ?_; intro v114 w6 ho7 hb hg_ hnew_; clear hg_ hnew_; (first | rw [← Ny113.out] at ho7 | (simp only [Int.reduceToNat] at ho7; rw [← Ny113.out] at ho7)); have n0_ := Aside0.mk (Kd.R_lower ho7 (below_size (hb_ HB.out))); have n1_ := Aside0.mk (below_step (hb_ HB.out) hb); clear HB; have HO115 := n0_; have HB := n1_; clear n0_ n1_; clear hb ho7; have p5 : 0 ≤ (0 : Int) := (by omega); have q5 : (0 : Int) < ((y113.length : Int) : Int) := of_decide_eq_true (by first | (with_reducible assumption) | assumption); have qi5 : (0 < y113.length) = True := eq_true (by omega); obtain ⟨go5, co5, eo5, gb5, gl5, cl5, HG5⟩ := Kd.R_form HO115.out (by omega); (first | cases eo5 | (injection eo5 with ea_ en_ ec_; (first | subst ea_ | (injection ea_ with ea_; subst ea_)); subst ec_; clear en_)); have GB5 := Aside0.mk gb5; have GG5 := Aside0.mk HG5; clear gb5 gl5 HG5; obtain ⟨hx5_0, hf5_0⟩ := Kd.R_celln false HO115.out (0 : Int) p5 q5; (try rw [show ((0 : Int)).toNat = 0 from rfl] at hx5_0); (try simp only [Nat.reduceMul, Nat.zero_mul, Nat.zero_add, Nat.reduceAdd] at hx5_0); (try rw [show ((0 : Int)).toNat = 0 from rfl] at hf5_0); (try simp only [Nat.reduceMul, Nat.zero_mul, Nat.zero_add, Nat.reduceAdd] at hf5_0); replace p5 := eq_true p5; replace q5 := eq_true q5; obtain ⟨hy8_, hz8_⟩ := Kd.R_celln false HO115.out (0 : Int) (by omega) (of_decide_eq_true (by first | (with_reducible assumption) | assumption)); (try simp only [Int.reduceToNat, Int.toNat_zero, Int.toNat_ofNat, Nat.reduceMul, Nat.zero_mul, Nat.zero_add] at hy8_ hz8_); (try rw [show ((0 : Int)).toNat = 0 from rfl] at hy8_); (try rw [show ((0 : Int)).toNat = 0 from rfl] at hz8_); have HP8 := Kd.R_putg HO115.out (0 : Int) true) | ((with_reducible refine gate_store (t := 4) (p := 17) rfl ?_); refine store_event (t := 4) (p := 17) (v := ?vo_w9) (w1 := (w6.setCell ⟨go5, (0 : Int).toNat, none⟩ (.bool true))) ?hg ?ho ?hn ?hr ?_; (case ho => rfl); (case hg => rfl); (case hn => rfl); (case hr => first | (go_simp; done) | (go_simp; rfl)); intro w9 hw; have hg : w6.grownBy w9 (some go5) := (by rw [hw]; exact HP8.2); have hp_ : Kd.R Kd.bool 4 w9 w.heap.size (fun _ => True) (.slice (some ⟨go5, 0, none⟩) y113.length co5) y116 := (by rw [hw, Ny116.out]; exact HP8.1); clear HP8; have n0_ := Aside0.mk (hp_); have n1_ := Aside0.mk ((by rw [hw]; exact below_set (HB.out) GB5.out : Below w.heap.size w w9)); clear HO115; clear HB; have HO115 := n0_; have HB := n1_; clear n0_ n1_; clear hg hw hp_))
    go_loopg [20] k (fun kq v20 w' => ∃ (x3_1 : List Bool) (x20_1 : Int), v20 = .int .i64 x20_1 ∧ Aside0 (comfitref06_Fewer.l0 kq l0 x3_1 (l0.length : Int) x20_1 = some r) ∧ Aside0 (kq ≤ k) ∧ Aside0 (Kd.R Kd.bool 4 w' w.heap.size (fun _ => True) (.slice (some ⟨go5, 0, none⟩) y113.length co5) x3_1) ∧ Aside0 (Below w.heap.size w w'))
    case atStart => exact ⟨(y116), (0), (by first | rfl | (simp; done) | (simp [*]; done)), H', ⟨Nat.le_refl _⟩, ⟨by (with_reducible repeat (first | apply Kd.R_alloc | apply Kd.R_drewN | apply Kd.R_drew)); exact HO115.out⟩, ⟨by repeat (first | (with_reducible first | exact HB.out | apply below_alloc | apply pw_below_drewN | apply below_drew1) | exact HB.out)⟩⟩
    case round =>
     clear H'
     try clear c2
     try clear c2b0
     try clear c2b1
     try clear p2
     try clear c3
     try clear c3b0
     try clear c3b1
     try clear c4
     try clear c4b0
     try clear c4b1
     try clear p5
     try clear q5
     try clear hx5
     try clear qi5
     try clear hf5
     try clear hx5_0
     try clear p5
     try clear q5
     obtain ⟨x3_1, x20_1, rfl, HA, HK1, HO_3, HB⟩ := hrel
     have hl3_1 := (Kd.R_reads' HO_3.out).1
     rw [hl3_1] at HO_3
     (try simp only [hl3_1])
     cases gk with
     | zero => exact absurd HA.out (by simp [comfitref06_Fewer.l0])
     | succ k1 =>
      have H := HA.out
      clear HA
      simp only [comfitref06_Fewer.l0] at H
      by_cases c10 : x20_1 < (l0.length : Int)
      ·rw [if_pos c10] at H
       have c10b0 : decide (x20_1 < (l0.length : Int)) = true := decide_eq_true c10
       clear c10
       have H' := Aside0.mk H
       clear H
       go_wp2
       go_loopg [24] k1 (fun kq v24 w' => ∃ (x3_2 : List Bool) (x24_2 : Int), v24 = .int .i64 x24_2 ∧ Aside0 (comfitref06_Fewer.l1 kq l0 x3_2 (l0.length : Int) x20_1 l0 (l0.length : Int) x24_2 = some r) ∧ Aside0 (kq ≤ k1) ∧ Aside0 (Kd.R Kd.bool 4 w' w.heap.size (fun _ => True) (.slice (some ⟨go5, 0, none⟩) x3_1.length co5) x3_2) ∧ Aside0 (Below w.heap.size w w'))
       case atStart => exact ⟨(x3_1), (0), (by first | rfl | (simp; done) | (simp [*]; done)), H', ⟨Nat.le_refl _⟩, ⟨by (try simp only [hl3_1]); (with_reducible repeat (first | apply Kd.R_alloc | apply Kd.R_drewN | apply Kd.R_drew)); exact HO_3.out⟩, ⟨by repeat (first | (with_reducible first | exact HB.out | apply below_alloc | apply pw_below_drewN | apply below_drew1) | exact HB.out)⟩⟩
       case round =>
        clear H'
        try clear c1
        try clear c2
        try clear c2b0
        try clear c2b1
        try clear p2
        try clear c3
        try clear c3b0
        try clear c3b1
        try clear c4
        try clear c4b0
        try clear c4b1
        try clear p5
        try clear q5
        try clear hx5
        try clear qi5
        try clear hf5
        try clear c10
        try clear c10b0
        try clear hx5_0
        try clear p2
        try clear p5
        try clear q5
        obtain ⟨x3_2, x24_2, rfl, HA, HK2, HO_3, HB⟩ := hrel
        have hl3_2 := (Kd.R_reads' HO_3.out).1
        rw [hl3_2] at HO_3
        (try simp only [hl3_2])
        cases gk with
        | zero => exact absurd HA.out (by simp [comfitref06_Fewer.l1])
        | succ k2 =>
         have H := HA.out
         clear HA
         simp only [comfitref06_Fewer.l1] at H
         by_cases c11 : x24_2 < (l0.length : Int)
         ·rw [if_pos c11] at H
          have c11b0 : decide (x24_2 < (l0.length : Int)) = true := decide_eq_true c11
          clear c11
          by_cases c12 : 0 ≤ x24_2
          ·rw [if_pos c12] at H
           have c12b0 : decide (0 ≤ x24_2) = true := decide_eq_true c12
           clear c12
           by_cases c13 : x24_2 < (l0.length : Int)
           ·rw [if_pos c13] at H
            have c13b0 : decide (x24_2 < (l0.length : Int)) = true := decide_eq_true c13
            clear c13
            have HC14 := Aside0.mk H
            clear H
            have p117 : 0 ≤ (x24_2 : Int) := of_decide_eq_true (by first | (with_reducible assumption) | assumption)
            have q117 : x24_2 < (l0.length : Int) := of_decide_eq_true (by first | (with_reducible assumption) | assumption)
            obtain ⟨ad117, e117, hx117_0, hx117_1, hx117_2, hx117_3⟩ := at_T39 HR0.out x24_2 p117 q117
            cases e117
            replace hx117_0 := (HB.out.cell (World.block_lt_of_cell? w _ hx117_0)).trans hx117_0
            replace hx117_1 := (HB.out.cell (World.block_lt_of_cell? w _ hx117_1)).trans hx117_1
            replace hx117_2 := (HB.out.cell (World.block_lt_of_cell? w _ hx117_2)).trans hx117_2
            replace hx117_3 := (HB.out.cell (World.block_lt_of_cell? w _ hx117_3)).trans hx117_3
            replace p117 := eq_true p117
            replace q117 := eq_true q117
            go_upto_region 8 with (first | ((with_reducible refine gate_dst (N := 5) rfl ?_); refine box_event ?hg (N := 5) ?hd (cs := #[.int .i64 0, .int .i64 0, .int .i64 0, .int .i64 0]) (t := 39) ?hr ?_; (case hd => rfl); (case hg => rfl); (case hr => first | (go_simp; done) | (go_simp; rfl)); intro gb118 hg w15 hbox hb; have n0_ := Aside0.mk (Kd.R_below (kr_ (HO_3.out)) hb); have n1_ := Aside0.mk (below_step (hb_ HB.out) hb); have n2_ := Aside0.mk (hbox); have n3_ := Aside0.mk ((by rw [hg]; exact (below_size (hb_ HB.out)) : w.heap.size ≤ gb118)); have n4_ := Aside0.mk ((by rw [hg]; exact (below_size (hb_ HB.out)) : w.heap.size ≤ gb118)); clear HO_3; clear HB; have HO_3 := n0_; have HB := n1_; have BK118 := n2_; have GW118 := n3_; have GE118 := n4_; clear n0_ n1_ n2_ n3_ n4_; clear hb hbox hg; have hcz16_0 : w15.cell? ⟨gb118, 0, none⟩ = some (.int .i64 0) := (blk_cell BK118.out 0).trans rfl; have hcz16_1 : w15.cell? ⟨gb118, 1, none⟩ = some (.int .i64 0) := (blk_cell BK118.out 1).trans rfl; have hcz16_2 : w15.cell? ⟨gb118, 2, none⟩ = some (.int .i64 0) := (blk_cell BK118.out 2).trans rfl; have hcz16_3 : w15.cell? ⟨gb118, 3, none⟩ = some (.int .i64 0) := (blk_cell BK118.out 3).trans rfl; have hfz16_0 := blk_frozen BK118.out 0; have hfz16_1 := blk_frozen BK118.out 1; have hfz16_2 := blk_frozen BK118.out 2; have hfz16_3 := blk_frozen BK118.out 3))
            (try simp only [Act.put, List.setIfInBounds_toArray, List.set_cons_zero, List.set_cons_succ])
            go_cut [37] (fun v37 wc => ∃ (kq : Nat) (x37_13 : Bool), v37 = .bool x37_13 ∧ Aside0 (comfitref06_Fewer.j2 kq l0 x3_2 x24_2 (l0.length : Int) x20_1 l0 (l0.length : Int) x24_2 x37_13 ((rd_T39 l0 x24_2).f0) ((rd_T39 l0 x24_2).f1) ((rd_T39 l0 x24_2).f2) ((rd_T39 l0 x24_2).f3) = some r) ∧ Aside0 (kq ≤ k2) ∧ Aside0 (Kd.R Kd.bool 4 wc w.heap.size (fun _ => True) (.slice (some ⟨go5, 0, none⟩) x3_2.length co5) x3_2) ∧ Aside0 (wc.heap[gb118]? = some (.cells #[.int .i64 ((rd_T39 l0 x24_2).f0), .int .i64 ((rd_T39 l0 x24_2).f1), .int .i64 ((rd_T39 l0 x24_2).f2), .int .i64 ((rd_T39 l0 x24_2).f3)] 39 (0, 0))) ∧ Aside0 (Below w.heap.size w wc))
            case first =>
             have H := HC14.out
             clear HC14
             by_cases c17 : x24_2 < (x3_2.length : Int)
             ·rw [if_pos c17] at H
              have c17b0 : decide (x24_2 < (x3_2.length : Int)) = true := decide_eq_true c17
              clear c17
              (first | rw [c17b0] | (simp only [i64_w, i32_w]; rw [c17b0]) | skip)
              obtain ⟨bq18, hbq18⟩ : ∃ b_ : Bool, b_ = (rdOf false x3_2 x24_2) := ⟨_, rfl⟩
              replace H : (if bq18 = true then (comfitref06_Fewer.j2 k2 l0 x3_2 x24_2 (l0.length : Int) x20_1 l0 (l0.length : Int) x24_2 (decide (((rd_T39 l0 x24_2).f0) > 0)) ((rd_T39 l0 x24_2).f0) ((rd_T39 l0 x24_2).f1) ((rd_T39 l0 x24_2).f2) ((rd_T39 l0 x24_2).f3)) else (comfitref06_Fewer.j2 k2 l0 x3_2 x24_2 (l0.length : Int) x20_1 l0 (l0.length : Int) x24_2 false ((rd_T39 l0 x24_2).f0) ((rd_T39 l0 x24_2).f1) ((rd_T39 l0 x24_2).f2) ((rd_T39 l0 x24_2).f3))) = some r := by rw [← hbq18] at H; exact H
              have Nbq18 := Aside0.mk hbq18
              clear hbq18
              by_cases c19 : bq18 = true
              ·subst c19
               have H1 : (comfitref06_Fewer.j2 k2 l0 x3_2 x24_2 (l0.length : Int) x20_1 l0 (l0.length : Int) x24_2 (decide (((rd_T39 l0 x24_2).f0) > 0)) ((rd_T39 l0 x24_2).f0) ((rd_T39 l0 x24_2).f1) ((rd_T39 l0 x24_2).f2) ((rd_T39 l0 x24_2).f3)) = some r := by rw [if_pos rfl] at H; exact H
               clear H
               have H := H1
               clear H1
               have H' := Aside0.mk H
               clear H
               have p119 : 0 ≤ (x24_2 : Int) := of_decide_eq_true (by first | (with_reducible assumption) | assumption)
               have q119 : x24_2 < (x3_2.length : Int) := of_decide_eq_true (by first | (with_reducible assumption) | assumption)
               obtain ⟨ad119, e119, hx119_0⟩ := Kd.at_bool (Kd.R_reads' HO_3.out).2.2 x24_2 p119 q119
               (try rw [← Nbq18.out] at hx119_0)
               obtain rfl : (⟨go5, 0, none⟩ : Addr) = ad119 := (by injection e119)
               (first | simp only [add_plain] at hx119_0 | simp only [add_at] at hx119_0 | simp only [Addr.add, Nat.zero_add] at hx119_0 | skip)
               have hn119_0 : (⟨go5, 0, none⟩ : Addr).block ≠ gb118 := Kd.own_blk (Kd.R_ne HO_3.out BK118.out (by decide))
               have hn119_1 : (⟨go5, 0, none⟩ : Addr).block ≠ gb118 := Kd.own_blk (Kd.R_ne HO_3.out BK118.out (by decide))
               have hn119_2 : (⟨go5, 0, none⟩ : Addr).block ≠ gb118 := Kd.own_blk (Kd.R_ne HO_3.out BK118.out (by decide))
               have hn119_3 : (⟨go5, 0, none⟩ : Addr).block ≠ gb118 := Kd.own_blk (Kd.R_ne HO_3.out BK118.out (by decide))
               replace hx119_0 := (cell_far (p := ⟨gb118, 0, none⟩) (by first | (rw [add_block]; exact hn119_0) | (show (Addr.add _ _).block ≠ _; rw [add_block]; exact hn119_0) | exact hn119_0) (.int .i64 ((rd_T39 l0 x24_2).f0))).trans hx119_0
               replace hx119_0 := (cell_far (p := ⟨gb118, 1, none⟩) (by first | (rw [add_block]; exact hn119_1) | (show (Addr.add _ _).block ≠ _; rw [add_block]; exact hn119_1) | exact hn119_1) (.int .i64 ((rd_T39 l0 x24_2).f1))).trans hx119_0
               replace hx119_0 := (cell_far (p := ⟨gb118, 2, none⟩) (by first | (rw [add_block]; exact hn119_2) | (show (Addr.add _ _).block ≠ _; rw [add_block]; exact hn119_2) | exact hn119_2) (.int .i64 ((rd_T39 l0 x24_2).f2))).trans hx119_0
               replace hx119_0 := (cell_far (p := ⟨gb118, 3, none⟩) (by first | (rw [add_block]; exact hn119_3) | (show (Addr.add _ _).block ≠ _; rw [add_block]; exact hn119_3) | exact hn119_3) (.int .i64 ((rd_T39 l0 x24_2).f3))).trans hx119_0
               clear hn119_0
               clear hn119_1
               clear hn119_2
               clear hn119_3
               replace p119 := eq_true p119
               replace q119 := eq_true q119
               have hcz20_0 : w15.cell? ⟨gb118, 0, none⟩ = some (.int .i64 0) := (blk_cell BK118.out 0).trans rfl
               have hcz20_1 : w15.cell? ⟨gb118, 1, none⟩ = some (.int .i64 0) := (blk_cell BK118.out 1).trans rfl
               have hcz20_2 : w15.cell? ⟨gb118, 2, none⟩ = some (.int .i64 0) := (blk_cell BK118.out 2).trans rfl
               have hcz20_3 : w15.cell? ⟨gb118, 3, none⟩ = some (.int .i64 0) := (blk_cell BK118.out 3).trans rfl
               have hfz20_0 := blk_frozen BK118.out 0
               have hfz20_1 := blk_frozen BK118.out 1
               have hfz20_2 := blk_frozen BK118.out 2
               have hfz20_3 := blk_frozen BK118.out 3
               go_wp2
               go_meet
               case rel => exact ⟨_, (decide (((rd_T39 l0 x24_2).f0) > 0)), (by first | rfl | (simp; done) | (simp [*]; done)), H', ⟨by have := HK1.out; have := HK2.out; first | omega | exact Nat.le_refl _⟩, ⟨by (try simp only [hl3_1]); (try simp only [hl3_2]); (with_reducible repeat (first | apply Kd.R_alloc | apply Kd.R_drewN | apply Kd.R_drew)); exact Kd.R_mono (Kd.R_far (p := ⟨gb118, 3, none⟩) (Kd.R_far (p := ⟨gb118, 2, none⟩) (Kd.R_far (p := ⟨gb118, 1, none⟩) (Kd.R_far (p := ⟨gb118, 0, none⟩) (Kd.R_types HO_3.out BK118.out (by decide)) (fun _ hk => hk.2) (.int .i64 ((rd_T39 l0 x24_2).f0))) (fun _ hk => hk.2) (.int .i64 ((rd_T39 l0 x24_2).f1))) (fun _ hk => hk.2) (.int .i64 ((rd_T39 l0 x24_2).f2))) (fun _ hk => hk.2) (.int .i64 ((rd_T39 l0 x24_2).f3))) (fun _ hk => trivial)⟩, ⟨by (try simp only [hl3_1]); (try simp only [hl3_2]); (with_reducible repeat (first | refine blk_drewN ?_ _ | refine blk_drew ?_ | refine blk_alloc ?_ _)); refine blk_put (cs := #[.int .i64 ((rd_T39 l0 x24_2).f0), .int .i64 ((rd_T39 l0 x24_2).f1), .int .i64 ((rd_T39 l0 x24_2).f2), .int .i64 0]) ?_ 3 _ rfl; (with_reducible repeat (first | refine blk_drewN ?_ _ | refine blk_drew ?_ | refine blk_alloc ?_ _)); refine blk_put (cs := #[.int .i64 ((rd_T39 l0 x24_2).f0), .int .i64 ((rd_T39 l0 x24_2).f1), .int .i64 0, .int .i64 0]) ?_ 2 _ rfl; (with_reducible repeat (first | refine blk_drewN ?_ _ | refine blk_drew ?_ | refine blk_alloc ?_ _)); refine blk_put (cs := #[.int .i64 ((rd_T39 l0 x24_2).f0), .int .i64 0, .int .i64 0, .int .i64 0]) ?_ 1 _ rfl; (with_reducible repeat (first | refine blk_drewN ?_ _ | refine blk_drew ?_ | refine blk_alloc ?_ _)); refine blk_put (cs := #[.int .i64 0, .int .i64 0, .int .i64 0, .int .i64 0]) ?_ 0 _ rfl; (with_reducible repeat (first | refine blk_drewN ?_ _ | refine blk_drew ?_ | refine blk_alloc ?_ _)); exact BK118.out⟩, ⟨by repeat (first | (with_reducible first | exact HB.out | apply below_alloc | apply pw_below_drewN | apply below_drew1 | refine below_set ?_ GE118.out) | exact HB.out)⟩⟩
              ·replace c19 := Bool.eq_false_iff.mpr c19
               subst c19
               have H1 : (comfitref06_Fewer.j2 k2 l0 x3_2 x24_2 (l0.length : Int) x20_1 l0 (l0.length : Int) x24_2 false ((rd_T39 l0 x24_2).f0) ((rd_T39 l0 x24_2).f1) ((rd_T39 l0 x24_2).f2) ((rd_T39 l0 x24_2).f3)) = some r := by rw [if_neg (show ¬ (false = true) by decide)] at H; exact H
               clear H
               have H := H1
               clear H1
               have H' := Aside0.mk H
               clear H
               have p119 : 0 ≤ (x24_2 : Int) := of_decide_eq_true (by first | (with_reducible assumption) | assumption)
               have q119 : x24_2 < (x3_2.length : Int) := of_decide_eq_true (by first | (with_reducible assumption) | assumption)
               obtain ⟨ad119, e119, hx119_0⟩ := Kd.at_bool (Kd.R_reads' HO_3.out).2.2 x24_2 p119 q119
               (try rw [← Nbq18.out] at hx119_0)
               obtain rfl : (⟨go5, 0, none⟩ : Addr) = ad119 := (by injection e119)
               (first | simp only [add_plain] at hx119_0 | simp only [add_at] at hx119_0 | simp only [Addr.add, Nat.zero_add] at hx119_0 | skip)
               have hn119_0 : (⟨go5, 0, none⟩ : Addr).block ≠ gb118 := Kd.own_blk (Kd.R_ne HO_3.out BK118.out (by decide))
               have hn119_1 : (⟨go5, 0, none⟩ : Addr).block ≠ gb118 := Kd.own_blk (Kd.R_ne HO_3.out BK118.out (by decide))
               have hn119_2 : (⟨go5, 0, none⟩ : Addr).block ≠ gb118 := Kd.own_blk (Kd.R_ne HO_3.out BK118.out (by decide))
               have hn119_3 : (⟨go5, 0, none⟩ : Addr).block ≠ gb118 := Kd.own_blk (Kd.R_ne HO_3.out BK118.out (by decide))
               replace hx119_0 := (cell_far (p := ⟨gb118, 0, none⟩) (by first | (rw [add_block]; exact hn119_0) | (show (Addr.add _ _).block ≠ _; rw [add_block]; exact hn119_0) | exact hn119_0) (.int .i64 ((rd_T39 l0 x24_2).f0))).trans hx119_0
               replace hx119_0 := (cell_far (p := ⟨gb118, 1, none⟩) (by first | (rw [add_block]; exact hn119_1) | (show (Addr.add _ _).block ≠ _; rw [add_block]; exact hn119_1) | exact hn119_1) (.int .i64 ((rd_T39 l0 x24_2).f1))).trans hx119_0
               replace hx119_0 := (cell_far (p := ⟨gb118, 2, none⟩) (by first | (rw [add_block]; exact hn119_2) | (show (Addr.add _ _).block ≠ _; rw [add_block]; exact hn119_2) | exact hn119_2) (.int .i64 ((rd_T39 l0 x24_2).f2))).trans hx119_0
               replace hx119_0 := (cell_far (p := ⟨gb118, 3, none⟩) (by first | (rw [add_block]; exact hn119_3) | (show (Addr.add _ _).block ≠ _; rw [add_block]; exact hn119_3) | exact hn119_3) (.int .i64 ((rd_T39 l0 x24_2).f3))).trans hx119_0
               clear hn119_0
               clear hn119_1
               clear hn119_2
               clear hn119_3
               replace p119 := eq_true p119
               replace q119 := eq_true q119
               go_wp2
               go_meet
               case rel => exact ⟨_, (false), (by first | rfl | (simp; done) | (simp [*]; done)), H', ⟨by have := HK1.out; have := HK2.out; first | omega | exact Nat.le_refl _⟩, ⟨by (try simp only [hl3_1]); (try simp only [hl3_2]); (with_reducible repeat (first | apply Kd.R_alloc | apply Kd.R_drewN | apply Kd.R_drew)); exact Kd.R_mono (Kd.R_far (p := ⟨gb118, 3, none⟩) (Kd.R_far (p := ⟨gb118, 2, none⟩) (Kd.R_far (p := ⟨gb118, 1, none⟩) (Kd.R_far (p := ⟨gb118, 0, none⟩) (Kd.R_types HO_3.out BK118.out (by decide)) (fun _ hk => hk.2) (.int .i64 ((rd_T39 l0 x24_2).f0))) (fun _ hk => hk.2) (.int .i64 ((rd_T39 l0 x24_2).f1))) (fun _ hk => hk.2) (.int .i64 ((rd_T39 l0 x24_2).f2))) (fun _ hk => hk.2) (.int .i64 ((rd_T39 l0 x24_2).f3))) (fun _ hk => trivial)⟩, ⟨by (try simp only [hl3_1]); (try simp only [hl3_2]); (with_reducible repeat (first | refine blk_drewN ?_ _ | refine blk_drew ?_ | refine blk_alloc ?_ _)); refine blk_put (cs := #[.int .i64 ((rd_T39 l0 x24_2).f0), .int .i64 ((rd_T39 l0 x24_2).f1), .int .i64 ((rd_T39 l0 x24_2).f2), .int .i64 0]) ?_ 3 _ rfl; (with_reducible repeat (first | refine blk_drewN ?_ _ | refine blk_drew ?_ | refine blk_alloc ?_ _)); refine blk_put (cs := #[.int .i64 ((rd_T39 l0 x24_2).f0), .int .i64 ((rd_T39 l0 x24_2).f1), .int .i64 0, .int .i64 0]) ?_ 2 _ rfl; (with_reducible repeat (first | refine blk_drewN ?_ _ | refine blk_drew ?_ | refine blk_alloc ?_ _)); refine blk_put (cs := #[.int .i64 ((rd_T39 l0 x24_2).f0), .int .i64 0, .int .i64 0, .int .i64 0]) ?_ 1 _ rfl; (with_reducible repeat (first | refine blk_drewN ?_ _ | refine blk_drew ?_ | refine blk_alloc ?_ _)); refine blk_put (cs := #[.int .i64 0, .int .i64 0, .int .i64 0, .int .i64 0]) ?_ 0 _ rfl; (with_reducible repeat (first | refine blk_drewN ?_ _ | refine blk_drew ?_ | refine blk_alloc ?_ _)); exact BK118.out⟩, ⟨by repeat (first | (with_reducible first | exact HB.out | apply below_alloc | apply pw_below_drewN | apply below_drew1 | refine below_set ?_ GE118.out) | exact HB.out)⟩⟩
             ·rw [if_neg c17] at H
              exact absurd H (by simp)
            case rest =>
             clear HC14
             try clear c1
             try clear p1
             try clear q1
             try clear hx1
             try clear c2
             try clear c2b0
             try clear c2b1
             try clear p2
             try clear c3
             try clear c3b0
             try clear c3b1
             try clear c4
             try clear c4b0
             try clear c4b1
             try clear p5
             try clear q5
             try clear hx5
             try clear qi5
             try clear hf5
             try clear c10
             try clear c10b0
             try clear c11
             try clear c11b0
             try clear p11
             try clear q11
             try clear hx11
             try clear c12
             try clear c12b0
             try clear c13
             try clear c13b0
             try clear c17
             try clear c17b0
             try clear q18
             try clear c19
             try clear hcz16_0
             try clear hcz16_1
             try clear hcz16_2
             try clear hcz16_3
             try clear hcz20_0
             try clear hcz20_1
             try clear hcz20_2
             try clear hcz20_3
             try clear hfz16_0
             try clear hfz16_1
             try clear hfz16_2
             try clear hfz16_3
             try clear hfz20_0
             try clear hfz20_1
             try clear hfz20_2
             try clear hfz20_3
             try clear hx117_0
             try clear hx117_1
             try clear hx117_2
             try clear hx117_3
             try clear hx119_0
             try clear hx5_0
             try clear p117
             try clear p119
             try clear p2
             try clear p5
             try clear q117
             try clear q119
             try clear q5
             obtain ⟨kq, x37_13, rfl, HA, HJ13, HO_3, BK118, HB⟩ := hcut
             cases kq with
             | zero => exact absurd HA.out (by simp [comfitref06_Fewer.j2])
             | succ kj13 =>
              have H := HA.out
              clear HA
              simp only [comfitref06_Fewer.j2] at H
              have HC21 := Aside0.mk H
              clear H
              go_upto_if 37 with (fail)
              go_cut [] (fun wc => ∃ (kq : Nat) (x3_20 : List Bool), Aside0 (comfitref06_Fewer.j3 kq l0 x3_20 x24_2 (l0.length : Int) x20_1 l0 (l0.length : Int) x24_2 ((rd_T39 l0 x24_2).f0) ((rd_T39 l0 x24_2).f1) ((rd_T39 l0 x24_2).f2) ((rd_T39 l0 x24_2).f3) = some r) ∧ Aside0 (kq ≤ kj13) ∧ Aside0 (Kd.R Kd.bool 4 wc w.heap.size (fun _ => True) (.slice (some ⟨go5, 0, none⟩) x3_2.length co5) x3_20) ∧ Aside0 (wc.heap[gb118]? = some (.cells #[.int .i64 ((rd_T39 l0 x24_2).f0), .int .i64 ((rd_T39 l0 x24_2).f1), .int .i64 ((rd_T39 l0 x24_2).f2), .int .i64 ((rd_T39 l0 x24_2).f3)] 39 (0, 0))) ∧ Aside0 (Below w.heap.size w wc))
              case first =>
               have H := HC21.out
               clear HC21
               by_cases c22 : x37_13 = true
               ·subst c22
                have H1 : (if 0 ≤ ((rd_T39 l0 x24_2).f2) then (if ((rd_T39 l0 x24_2).f2) < (x3_2.length : Int) then (comfitref06_Fewer.j3 kj13 l0 (x3_2.set (((rd_T39 l0 x24_2).f2) : Int).toNat true) x24_2 (l0.length : Int) x20_1 l0 (l0.length : Int) x24_2 ((rd_T39 l0 x24_2).f0) ((rd_T39 l0 x24_2).f1) ((rd_T39 l0 x24_2).f2) ((rd_T39 l0 x24_2).f3)) else (none)) else (none)) = some r := by rw [if_pos rfl] at H; exact H
                clear H
                have H := H1
                clear H1
                by_cases c23 : 0 ≤ ((rd_T39 l0 x24_2).f2)
                ·rw [if_pos c23] at H
                 have c23b0 : decide (0 ≤ ((rd_T39 l0 x24_2).f2)) = true := decide_eq_true c23
                 clear c23
                 (first | rw [c23b0] | (simp only [i64_w, i32_w]; rw [c23b0]) | skip)
                 by_cases c24 : ((rd_T39 l0 x24_2).f2) < (x3_2.length : Int)
                 ·rw [if_pos c24] at H
                  have c24b0 : decide (((rd_T39 l0 x24_2).f2) < (x3_2.length : Int)) = true := decide_eq_true c24
                  clear c24
                  obtain ⟨y120, hy120⟩ : ∃ y_ : List Bool, y_ = (x3_2.set (((rd_T39 l0 x24_2).f2) : Int).toNat true) := ⟨_, rfl⟩
                  replace H : (comfitref06_Fewer.j3 kj13 l0 y120 x24_2 (l0.length : Int) x20_1 l0 (l0.length : Int) x24_2 ((rd_T39 l0 x24_2).f0) ((rd_T39 l0 x24_2).f1) ((rd_T39 l0 x24_2).f2) ((rd_T39 l0 x24_2).f3)) = some r := by first | (rw [hy120]; with_reducible exact H) | (have H2_ := (Option.bind_some _ _).symm.trans H; rw [hy120]; with_reducible exact H2_) | (have H2_ := (Option.bind_some _ _).symm.trans H; with_reducible exact H2_) | with_reducible exact H | (rw [hy120]; exact H) | exact H
                  have Ny120 := Aside0.mk hy120
                  clear hy120
                  have H' := Aside0.mk H
                  clear H
                  have hcz26_0 : wc.cell? ⟨gb118, 0, none⟩ = some (.int .i64 ((rd_T39 l0 x24_2).f0)) := (blk_cell BK118.out 0).trans rfl
                  have hcz26_1 : wc.cell? ⟨gb118, 1, none⟩ = some (.int .i64 ((rd_T39 l0 x24_2).f1)) := (blk_cell BK118.out 1).trans rfl
                  have hcz26_2 : wc.cell? ⟨gb118, 2, none⟩ = some (.int .i64 ((rd_T39 l0 x24_2).f2)) := (blk_cell BK118.out 2).trans rfl
                  have hcz26_3 : wc.cell? ⟨gb118, 3, none⟩ = some (.int .i64 ((rd_T39 l0 x24_2).f3)) := (blk_cell BK118.out 3).trans rfl
                  have hfz26_0 := blk_frozen BK118.out 0
                  have hfz26_1 := blk_frozen BK118.out 1
                  have hfz26_2 := blk_frozen BK118.out 2
                  have hfz26_3 := blk_frozen BK118.out 3
                  have p25 : 0 ≤ (((rd_T39 l0 x24_2).f2) : Int) := of_decide_eq_true (by first | (with_reducible assumption) | assumption)
                  have q25 : (((rd_T39 l0 x24_2).f2) : Int) < ((x3_2.length : Int) : Int) := of_decide_eq_true (by first | (with_reducible assumption) | assumption)
                  obtain ⟨hx25_0, hf25_0⟩ := Kd.R_celln false HO_3.out (((rd_T39 l0 x24_2).f2) : Int) p25 q25
                  replace p25 := eq_true p25
                  replace q25 := eq_true q25
                  have HP27 := Kd.R_putg HO_3.out (((rd_T39 l0 x24_2).f2) : Int) true
                  go_wp2_with (first | ((with_reducible refine gate_store (t := 4) (p := 41) rfl ?_); refine store_event (t := 4) (p := 41) (v := ?vo_w28) (w1 := (wc.setCell ⟨go5, (((rd_T39 l0 x24_2).f2) : Int).toNat, none⟩ (.bool true))) ?hg ?ho ?hn ?hr ?_; (case ho => rfl); (case hg => rfl); (case hn => rfl); (case hr => first | (go_simp; done) | (go_simp; rfl)); intro w28 hw; have hg : wc.grownBy w28 (some go5) := (by rw [hw]; exact HP27.2); have hp_ : Kd.R Kd.bool 4 w28 w.heap.size (fun _ => True) (.slice (some ⟨go5, 0, none⟩) x3_2.length co5) y120 := (by rw [hw, Ny120.out]; exact HP27.1); clear HP27; have n0_ := Aside0.mk (hp_); have n1_ := Aside0.mk (blk_grown (g := gb118) (o := .cells #[.int .i64 ((rd_T39 l0 x24_2).f0), .int .i64 ((rd_T39 l0 x24_2).f1), .int .i64 ((rd_T39 l0 x24_2).f2), .int .i64 ((rd_T39 l0 x24_2).f3)] 39 (0, 0)) (bk_ BK118.out) hg (Kd.R_ne HO_3.out BK118.out (by decide))); have n2_ := Aside0.mk ((by rw [hw]; exact below_set (HB.out) GB5.out : Below w.heap.size w w28)); clear HO_3; clear BK118; clear HB; have HO_3 := n0_; have BK118 := n1_; have HB := n2_; clear n0_ n1_ n2_; clear hg hw hp_))
                  go_meet
                  case rel => exact ⟨_, (y120), H', ⟨by have := HK1.out; have := HK2.out; have := HJ13.out; first | omega | exact Nat.le_refl _⟩, ⟨by (try simp only [hl3_1]); (try simp only [hl3_2]); (with_reducible repeat (first | apply Kd.R_alloc | apply Kd.R_drewN | apply Kd.R_drew)); exact HO_3.out⟩, ⟨by (try simp only [hl3_1]); (try simp only [hl3_2]); (with_reducible repeat (first | refine blk_drewN ?_ _ | refine blk_drew ?_ | refine blk_alloc ?_ _)); exact BK118.out⟩, ⟨by repeat (first | (with_reducible first | exact HB.out | apply below_alloc | apply pw_below_drewN | apply below_drew1 | refine below_set ?_ GE118.out) | exact HB.out)⟩⟩
                 ·rw [if_neg c24] at H
                  exact absurd H (by simp)
                ·rw [if_neg c23] at H
                 exact absurd H (by simp)
               ·replace c22 := Bool.eq_false_iff.mpr c22
                subst c22
                have H1 : (comfitref06_Fewer.j3 kj13 l0 x3_2 x24_2 (l0.length : Int) x20_1 l0 (l0.length : Int) x24_2 ((rd_T39 l0 x24_2).f0) ((rd_T39 l0 x24_2).f1) ((rd_T39 l0 x24_2).f2) ((rd_T39 l0 x24_2).f3)) = some r := by rw [if_neg (show ¬ (false = true) by decide)] at H; exact H
                clear H
                have H := H1
                clear H1
                have H' := Aside0.mk H
                clear H
                go_wp2
                go_meet
                case rel => exact ⟨_, (x3_2), H', ⟨by have := HK1.out; have := HK2.out; have := HJ13.out; first | omega | exact Nat.le_refl _⟩, ⟨by (try simp only [hl3_1]); (try simp only [hl3_2]); (with_reducible repeat (first | apply Kd.R_alloc | apply Kd.R_drewN | apply Kd.R_drew)); exact HO_3.out⟩, ⟨by (try simp only [hl3_1]); (try simp only [hl3_2]); (with_reducible repeat (first | refine blk_drewN ?_ _ | refine blk_drew ?_ | refine blk_alloc ?_ _)); exact BK118.out⟩, ⟨by repeat (first | (with_reducible first | exact HB.out | apply below_alloc | apply pw_below_drewN | apply below_drew1 | refine below_set ?_ GE118.out) | exact HB.out)⟩⟩
              case rest =>
               clear HC21
               try clear c1
               try clear p1
               try clear q1
               try clear hx1
               try clear c2
               try clear c2b0
               try clear c2b1
               try clear p2
               try clear q2
               try clear hx2
               try clear hf2
               try clear c3
               try clear c3b0
               try clear c3b1
               try clear c4
               try clear c4b0
               try clear c4b1
               try clear p5
               try clear q5
               try clear hx5
               try clear qi5
               try clear hf5
               try clear c10
               try clear c10b0
               try clear c11
               try clear c11b0
               try clear p11
               try clear q11
               try clear hx11
               try clear c12
               try clear c12b0
               try clear c13
               try clear c13b0
               try clear c17
               try clear c17b0
               try clear q18
               try clear c19
               try clear c22
               try clear c23
               try clear c23b0
               try clear c24
               try clear c24b0
               try clear p25
               try clear q25
               try clear hx25
               try clear hf25
               try clear c26
               try clear hcz16_0
               try clear hcz16_1
               try clear hcz16_2
               try clear hcz16_3
               try clear hcz20_0
               try clear hcz20_1
               try clear hcz20_2
               try clear hcz20_3
               try clear hcz26_0
               try clear hcz26_1
               try clear hcz26_2
               try clear hcz26_3
               try clear hfz16_0
               try clear hfz16_1
               try clear hfz16_2
               try clear hfz16_3
               try clear hfz20_0
               try clear hfz20_1
               try clear hfz20_2
               try clear hfz20_3
               try clear hfz26_0
               try clear hfz26_1
               try clear hfz26_2
               try clear hfz26_3
               try clear hx117_0
               try clear hx117_1
               try clear hx117_2
               try clear hx117_3
               try clear hx119_0
               try clear hx25_0
               try clear hx5_0
               try clear p1
               try clear p11
               try clear p117
               try clear p119
               try clear p2
               try clear p25
               try clear p5
               try clear q1
               try clear q11
               try clear q117
               try clear q119
               try clear q18
               try clear q25
               try clear q5
               obtain ⟨kq, x3_20, HA, HJ20, HO_3, BK118, HB⟩ := hcut
               have hl3_20 := (Kd.R_reads' HO_3.out).1
               rw [hl3_20] at HO_3
               (try simp only [hl3_20])
               (try simp only [hl3_20] at BK118)
               cases kq with
               | zero => exact absurd HA.out (by simp [comfitref06_Fewer.j3])
               | succ kj20 =>
                have H := HA.out
                clear HA
                simp only [comfitref06_Fewer.j3] at H
                by_cases c29 : 0 ≤ x24_2
                ·rw [if_pos c29] at H
                 have c29b0 : decide (0 ≤ x24_2) = true := decide_eq_true c29
                 clear c29
                 by_cases c30 : x24_2 < (x3_20.length : Int)
                 ·rw [if_pos c30] at H
                  have c30b0 : decide (x24_2 < (x3_20.length : Int)) = true := decide_eq_true c30
                  clear c30
                  obtain ⟨bq31, hbq31⟩ : ∃ b_ : Bool, b_ = (rdOf false x3_20 x24_2) := ⟨_, rfl⟩
                  replace H : (if bq31 = true then (if ((rd_T39 l0 x24_2).f0) = 2 then (if 0 ≤ ((rd_T39 l0 x24_2).f3) then (if ((rd_T39 l0 x24_2).f3) < (x3_20.length : Int) then (comfitref06_Fewer.l1 kj20 l0 (x3_20.set (((rd_T39 l0 x24_2).f3) : Int).toNat true) (l0.length : Int) x20_1 l0 (l0.length : Int) (wrap64 (x24_2 + 1))) else (none)) else (none)) else (comfitref06_Fewer.l1 kj20 l0 x3_20 (l0.length : Int) x20_1 l0 (l0.length : Int) (wrap64 (x24_2 + 1)))) else (comfitref06_Fewer.l1 kj20 l0 x3_20 (l0.length : Int) x20_1 l0 (l0.length : Int) (wrap64 (x24_2 + 1)))) = some r := by rw [← hbq31] at H; exact H
                  have Nbq31 := Aside0.mk hbq31
                  clear hbq31
                  by_cases c32 : bq31 = true
                  ·subst c32
                   have H1 : (if ((rd_T39 l0 x24_2).f0) = 2 then (if 0 ≤ ((rd_T39 l0 x24_2).f3) then (if ((rd_T39 l0 x24_2).f3) < (x3_20.length : Int) then (comfitref06_Fewer.l1 kj20 l0 (x3_20.set (((rd_T39 l0 x24_2).f3) : Int).toNat true) (l0.length : Int) x20_1 l0 (l0.length : Int) (wrap64 (x24_2 + 1))) else (none)) else (none)) else (comfitref06_Fewer.l1 kj20 l0 x3_20 (l0.length : Int) x20_1 l0 (l0.length : Int) (wrap64 (x24_2 + 1)))) = some r := by rw [if_pos rfl] at H; exact H
                   clear H
                   have H := H1
                   clear H1
                   by_cases c33 : ((rd_T39 l0 x24_2).f0) = 2
                   ·rw [if_pos c33] at H
                    have c33b0 : (((rd_T39 l0 x24_2).f0) == 2) = true := beq_iff_eq.mpr c33
                    have c33b1 : (((rd_T39 l0 x24_2).f0) != 2) = false := bne_eq_false_iff_eq.mpr c33
                    clear c33
                    by_cases c34 : 0 ≤ ((rd_T39 l0 x24_2).f3)
                    ·rw [if_pos c34] at H
                     have c34b0 : decide (0 ≤ ((rd_T39 l0 x24_2).f3)) = true := decide_eq_true c34
                     clear c34
                     by_cases c35 : ((rd_T39 l0 x24_2).f3) < (x3_20.length : Int)
                     ·rw [if_pos c35] at H
                      have c35b0 : decide (((rd_T39 l0 x24_2).f3) < (x3_20.length : Int)) = true := decide_eq_true c35
                      clear c35
                      obtain ⟨y122, hy122⟩ : ∃ y_ : List Bool, y_ = (x3_20.set (((rd_T39 l0 x24_2).f3) : Int).toNat true) := ⟨_, rfl⟩
                      replace H : (comfitref06_Fewer.l1 kj20 l0 y122 (l0.length : Int) x20_1 l0 (l0.length : Int) (wrap64 (x24_2 + 1))) = some r := by first | (rw [hy122]; with_reducible exact H) | (have H2_ := (Option.bind_some _ _).symm.trans H; rw [hy122]; with_reducible exact H2_) | (have H2_ := (Option.bind_some _ _).symm.trans H; with_reducible exact H2_) | with_reducible exact H | (rw [hy122]; exact H) | exact H
                      have Ny122 := Aside0.mk hy122
                      clear hy122
                      have H' := Aside0.mk H
                      clear H
                      have p121 : 0 ≤ (x24_2 : Int) := of_decide_eq_true (by first | (with_reducible assumption) | assumption)
                      have q121 : x24_2 < (x3_20.length : Int) := of_decide_eq_true (by first | (with_reducible assumption) | assumption)
                      obtain ⟨ad121, e121, hx121_0⟩ := Kd.at_bool (Kd.R_reads' HO_3.out).2.2 x24_2 p121 q121
                      (try rw [← Nbq31.out] at hx121_0)
                      obtain rfl : (⟨go5, 0, none⟩ : Addr) = ad121 := (by injection e121)
                      (first | simp only [add_plain] at hx121_0 | simp only [add_at] at hx121_0 | simp only [Addr.add, Nat.zero_add] at hx121_0 | skip)
                      replace p121 := eq_true p121
                      replace q121 := eq_true q121
                      have hcz37_0 : wc.cell? ⟨gb118, 0, none⟩ = some (.int .i64 ((rd_T39 l0 x24_2).f0)) := (blk_cell BK118.out 0).trans rfl
                      have hcz37_1 : wc.cell? ⟨gb118, 1, none⟩ = some (.int .i64 ((rd_T39 l0 x24_2).f1)) := (blk_cell BK118.out 1).trans rfl
                      have hcz37_2 : wc.cell? ⟨gb118, 2, none⟩ = some (.int .i64 ((rd_T39 l0 x24_2).f2)) := (blk_cell BK118.out 2).trans rfl
                      have hcz37_3 : wc.cell? ⟨gb118, 3, none⟩ = some (.int .i64 ((rd_T39 l0 x24_2).f3)) := (blk_cell BK118.out 3).trans rfl
                      have hfz37_0 := blk_frozen BK118.out 0
                      have hfz37_1 := blk_frozen BK118.out 1
                      have hfz37_2 := blk_frozen BK118.out 2
                      have hfz37_3 := blk_frozen BK118.out 3
                      have p36 : 0 ≤ (((rd_T39 l0 x24_2).f3) : Int) := of_decide_eq_true (by first | (with_reducible assumption) | assumption)
                      have q36 : (((rd_T39 l0 x24_2).f3) : Int) < ((x3_20.length : Int) : Int) := of_decide_eq_true (by first | (with_reducible assumption) | assumption)
                      obtain ⟨hx36_0, hf36_0⟩ := Kd.R_celln false HO_3.out (((rd_T39 l0 x24_2).f3) : Int) p36 q36
                      replace p36 := eq_true p36
                      replace q36 := eq_true q36
                      have HP38 := Kd.R_putg HO_3.out (((rd_T39 l0 x24_2).f3) : Int) true
                      go_wp2_with (first | ((with_reducible refine gate_store (t := 4) (p := 54) rfl ?_); refine store_event (t := 4) (p := 54) (v := ?vo_w39) (w1 := (wc.setCell ⟨go5, (((rd_T39 l0 x24_2).f3) : Int).toNat, none⟩ (.bool true))) ?hg ?ho ?hn ?hr ?_; (case ho => rfl); (case hg => rfl); (case hn => rfl); (case hr => first | (go_simp; done) | (go_simp; rfl)); intro w39 hw; have hg : wc.grownBy w39 (some go5) := (by rw [hw]; exact HP38.2); have hp_ : Kd.R Kd.bool 4 w39 w.heap.size (fun _ => True) (.slice (some ⟨go5, 0, none⟩) x3_20.length co5) y122 := (by rw [hw, Ny122.out]; exact HP38.1); clear HP38; have n0_ := Aside0.mk (hp_); have n1_ := Aside0.mk (blk_grown (g := gb118) (o := .cells #[.int .i64 ((rd_T39 l0 x24_2).f0), .int .i64 ((rd_T39 l0 x24_2).f1), .int .i64 ((rd_T39 l0 x24_2).f2), .int .i64 ((rd_T39 l0 x24_2).f3)] 39 (0, 0)) (bk_ BK118.out) hg (Kd.R_ne HO_3.out BK118.out (by decide))); have n2_ := Aside0.mk ((by rw [hw]; exact below_set (HB.out) GB5.out : Below w.heap.size w w39)); clear HO_3; clear BK118; clear HB; have HO_3 := n0_; have BK118 := n1_; have HB := n2_; clear n0_ n1_ n2_; clear hg hw hp_))
                      (try simp only [← hl3_2, ← hl3_20])
                      go_roundg kj20
                      case measure => have := HK1.out; have := HK2.out; have := HJ13.out; have := HJ20.out; omega
                      case rel => exact ⟨(y122), (wrap64 (x24_2 + 1)), (by first | rfl | (simp; done) | (simp [*]; done)), H', ⟨by have := HK1.out; have := HK2.out; have := HJ13.out; have := HJ20.out; omega⟩, ⟨by (try simp only [hl3_1]); (try simp only [hl3_2]); (try simp only [hl3_20]); (with_reducible repeat (first | apply Kd.R_alloc | apply Kd.R_drewN | apply Kd.R_drew)); exact HO_3.out⟩, ⟨by repeat (first | (with_reducible first | exact HB.out | apply below_alloc | apply pw_below_drewN | apply below_drew1 | refine below_set ?_ GE118.out) | exact HB.out)⟩⟩
                     ·rw [if_neg c35] at H
                      exact absurd H (by simp)
                    ·rw [if_neg c34] at H
                     exact absurd H (by simp)
                   ·rw [if_neg c33] at H
                    have c33b0 : (((rd_T39 l0 x24_2).f0) == 2) = false := beq_eq_false_iff_ne.mpr c33
                    have c33b1 : (((rd_T39 l0 x24_2).f0) != 2) = true := bne_iff_ne.mpr c33
                    have H' := Aside0.mk H
                    clear H
                    have p121 : 0 ≤ (x24_2 : Int) := of_decide_eq_true (by first | (with_reducible assumption) | assumption)
                    have q121 : x24_2 < (x3_20.length : Int) := of_decide_eq_true (by first | (with_reducible assumption) | assumption)
                    obtain ⟨ad121, e121, hx121_0⟩ := Kd.at_bool (Kd.R_reads' HO_3.out).2.2 x24_2 p121 q121
                    (try rw [← Nbq31.out] at hx121_0)
                    obtain rfl : (⟨go5, 0, none⟩ : Addr) = ad121 := (by injection e121)
                    (first | simp only [add_plain] at hx121_0 | simp only [add_at] at hx121_0 | simp only [Addr.add, Nat.zero_add] at hx121_0 | skip)
                    replace p121 := eq_true p121
                    replace q121 := eq_true q121
                    have hcz40_0 : wc.cell? ⟨gb118, 0, none⟩ = some (.int .i64 ((rd_T39 l0 x24_2).f0)) := (blk_cell BK118.out 0).trans rfl
                    have hcz40_1 : wc.cell? ⟨gb118, 1, none⟩ = some (.int .i64 ((rd_T39 l0 x24_2).f1)) := (blk_cell BK118.out 1).trans rfl
                    have hcz40_2 : wc.cell? ⟨gb118, 2, none⟩ = some (.int .i64 ((rd_T39 l0 x24_2).f2)) := (blk_cell BK118.out 2).trans rfl
                    have hcz40_3 : wc.cell? ⟨gb118, 3, none⟩ = some (.int .i64 ((rd_T39 l0 x24_2).f3)) := (blk_cell BK118.out 3).trans rfl
                    have hfz40_0 := blk_frozen BK118.out 0
                    have hfz40_1 := blk_frozen BK118.out 1
                    have hfz40_2 := blk_frozen BK118.out 2
                    have hfz40_3 := blk_frozen BK118.out 3
                    go_wp2
                    (try simp only [← hl3_2, ← hl3_20])
                    go_roundg kj20
                    case measure => have := HK1.out; have := HK2.out; have := HJ13.out; have := HJ20.out; omega
                    case rel => exact ⟨(x3_20), (wrap64 (x24_2 + 1)), (by first | rfl | (simp; done) | (simp [*]; done)), H', ⟨by have := HK1.out; have := HK2.out; have := HJ13.out; have := HJ20.out; omega⟩, ⟨by (try simp only [hl3_1]); (try simp only [hl3_2]); (try simp only [hl3_20]); (with_reducible repeat (first | apply Kd.R_alloc | apply Kd.R_drewN | apply Kd.R_drew)); exact HO_3.out⟩, ⟨by repeat (first | (with_reducible first | exact HB.out | apply below_alloc | apply pw_below_drewN | apply below_drew1 | refine below_set ?_ GE118.out) | exact HB.out)⟩⟩
                  ·replace c32 := Bool.eq_false_iff.mpr c32
                   subst c32
                   have H1 : (comfitref06_Fewer.l1 kj20 l0 x3_20 (l0.length : Int) x20_1 l0 (l0.length : Int) (wrap64 (x24_2 + 1))) = some r := by rw [if_neg (show ¬ (false = true) by decide)] at H; exact H
                   clear H
                   have H := H1
                   clear H1
                   have H' := Aside0.mk H
                   clear H
                   have p121 : 0 ≤ (x24_2 : Int) := of_decide_eq_true (by first | (with_reducible assumption) | assumption)
                   have q121 : x24_2 < (x3_20.length : Int) := of_decide_eq_true (by first | (with_reducible assumption) | assumption)
                   obtain ⟨ad121, e121, hx121_0⟩ := Kd.at_bool (Kd.R_reads' HO_3.out).2.2 x24_2 p121 q121
                   (try rw [← Nbq31.out] at hx121_0)
                   obtain rfl : (⟨go5, 0, none⟩ : Addr) = ad121 := (by injection e121)
                   (first | simp only [add_plain] at hx121_0 | simp only [add_at] at hx121_0 | simp only [Addr.add, Nat.zero_add] at hx121_0 | skip)
                   replace p121 := eq_true p121
                   replace q121 := eq_true q121
                   go_wp2
                   (try simp only [← hl3_2, ← hl3_20])
                   go_roundg kj20
                   case measure => have := HK1.out; have := HK2.out; have := HJ13.out; have := HJ20.out; omega
                   case rel => exact ⟨(x3_20), (wrap64 (x24_2 + 1)), (by first | rfl | (simp; done) | (simp [*]; done)), H', ⟨by have := HK1.out; have := HK2.out; have := HJ13.out; have := HJ20.out; omega⟩, ⟨by (try simp only [hl3_1]); (try simp only [hl3_2]); (try simp only [hl3_20]); (with_reducible repeat (first | apply Kd.R_alloc | apply Kd.R_drewN | apply Kd.R_drew)); exact HO_3.out⟩, ⟨by repeat (first | (with_reducible first | exact HB.out | apply below_alloc | apply pw_below_drewN | apply below_drew1 | refine below_set ?_ GE118.out) | exact HB.out)⟩⟩
                 ·rw [if_neg c30] at H
                  exact absurd H (by simp)
                ·rw [if_neg c29] at H
                 exact absurd H (by simp)
           ·rw [if_neg c13] at H
            exact absurd H (by simp)
          ·rw [if_neg c12] at H
           exact absurd H (by simp)
         ·rw [if_neg c11] at H
          have c11b0 : decide (x24_2 < (l0.length : Int)) = false := decide_eq_false c11
          clear c11
          have H' := Aside0.mk H
          clear H
          go_wp2
          (try simp only [← hl3_1, ← hl3_2])
          go_roundg k2
          case measure => have := HK1.out; have := HK2.out; omega
          case rel => exact ⟨(x3_2), (wrap64 (x20_1 + 1)), (by first | rfl | (simp; done) | (simp [*]; done)), H', ⟨by have := HK1.out; have := HK2.out; omega⟩, ⟨by (try simp only [hl3_1]); (try simp only [hl3_2]); (with_reducible repeat (first | apply Kd.R_alloc | apply Kd.R_drewN | apply Kd.R_drew)); exact HO_3.out⟩, ⟨by repeat (first | (with_reducible first | exact HB.out | apply below_alloc | apply pw_below_drewN | apply below_drew1) | exact HB.out)⟩⟩
      ·rw [if_neg c10] at H
       have c10b0 : decide (x20_1 < (l0.length : Int)) = false := decide_eq_false c10
       clear c10
       by_cases c41 : 0 ≤ (l0.length : Int)
       ·rw [if_pos c41] at H
        have c41b0 := eq_true c41
        have c41b1 : decide (0 ≤ (l0.length : Int)) = true := decide_eq_true c41
        clear c41
        by_cases c42 : ((l0.length : Int) : Int).toNat ≤ 35184372088832
        ·rw [if_pos c42] at H
         have c42b0 := eq_true c42
         have c42b1 : decide (((l0.length : Int) : Int).toNat ≤ 35184372088832) = true := decide_eq_true c42
         clear c42
         obtain ⟨y123, hy123⟩ : ∃ y_ : List Int, y_ = (List.replicate ((l0.length : Int) : Int).toNat 0) := ⟨_, rfl⟩
         replace H : (comfitref06_Fewer.l2 k1 l0 x3_1 y123 0 x3_1 (x3_1.length : Int) 0) = some r := by first | (rw [hy123]; with_reducible exact H) | (have H2_ := (Option.bind_some _ _).symm.trans H; rw [hy123]; with_reducible exact H2_) | (have H2_ := (Option.bind_some _ _).symm.trans H; with_reducible exact H2_) | with_reducible exact H | (rw [hy123]; exact H) | exact H
         have Ny123 := Aside0.mk hy123
         clear hy123
         have H' := Aside0.mk H
         clear H
         go_wp2_with (first | ((with_reducible refine gate_dst (N := 59) rfl ?_); refine Kd.R_make (Kd.int .i64) _ 3 rfl (N := 59) rfl 61 _ _ rfl (l0.length : Int) rfl rfl Try.underlying61 (.int .i64 0) 8 info3 rfl (by decide) (by omega) 0 (ok := fun _ => True) (okp := fun _ => True) rfl (fun _ hk => hk) trivial (of_decide_eq_true (by first | (with_reducible assumption) | assumption)) (Nat.le_trans (Nat.mul_le_mul_right _ (of_decide_eq_true (by first | (with_reducible assumption) | assumption) : (l0.length : Int).toNat ≤ 35184372088832)) (by omega)) (Below.refl _ _) (Nat.le_refl _) ?_; intro v124 w43 ho44 hb hg_ hnew_; clear hg_ hnew_; (first | rw [← Ny123.out] at ho44 | (simp only [Int.reduceToNat] at ho44; rw [← Ny123.out] at ho44)); have n0_ := Aside0.mk (Kd.R_below (kr_ (HO_3.out)) hb); have n1_ := Aside0.mk (Kd.R_lower ho44 (below_size (hb_ HB.out))); have n2_ := Aside0.mk (below_step (hb_ HB.out) hb); clear HO_3; clear HB; have HO_3 := n0_; have HO125 := n1_; have HB := n2_; clear n0_ n1_ n2_; clear hb ho44))
         go_loopg [7, 62] k1 (fun kq v7 v62 w' => ∃ (x6_2 : List Int) (x7_2 : Int) (x62_2 : Int), v7 = .int .i64 x7_2 ∧ v62 = .int .i64 x62_2 ∧ Aside0 (comfitref06_Fewer.l2 kq l0 x3_1 x6_2 x7_2 x3_1 (x3_1.length : Int) x62_2 = some r) ∧ Aside0 (kq ≤ k1) ∧ Aside0 (Kd.R Kd.bool 4 w' w.heap.size (fun _ => True) (.slice (some ⟨go5, 0, none⟩) x3_1.length co5) x3_1) ∧ Aside0 (Kd.R (Kd.int .i64) 3 w' w.heap.size (fun _ => True) v124 x6_2) ∧ Aside0 (Kd.R Kd.bool 4 w' w.heap.size (fun _ => True) (.slice (some ⟨go5, 0, none⟩) x3_1.length co5) x3_1) ∧ Aside0 (Below w.heap.size w w'))
         case atStart => exact ⟨(y123), (0), (0), (by first | rfl | (simp; done) | (simp [*]; done)), (by first | rfl | (simp; done) | (simp [*]; done)), H', ⟨Nat.le_refl _⟩, ⟨by (try simp only [hl3_1]); (with_reducible repeat (first | apply Kd.R_alloc | apply Kd.R_drewN | apply Kd.R_drew)); exact HO_3.out⟩, ⟨by (try simp only [hl3_1]); (with_reducible repeat (first | apply Kd.R_alloc | apply Kd.R_drewN | apply Kd.R_drew)); exact HO125.out⟩, ⟨by (try simp only [hl3_1]); (with_reducible repeat (first | apply Kd.R_alloc | apply Kd.R_drewN | apply Kd.R_drew)); exact HO_3.out⟩, ⟨by repeat (first | (with_reducible first | exact HB.out | apply below_alloc | apply pw_below_drewN | apply below_drew1) | exact HB.out)⟩⟩
         case round =>
          clear H'
          try clear c1
          try clear p1
          try clear q1
          try clear hx1
          try clear c2
          try clear c2b0
          try clear c2b1
          try clear p2
          try clear q2
          try clear hx2
          try clear hf2
          try clear c3
          try clear c3b0
          try clear c3b1
          try clear p3
          try clear q3
          try clear hx3
          try clear hf3
          try clear c4
          try clear c4b0
          try clear c4b1
          try clear p5
          try clear q5
          try clear hx5
          try clear qi5
          try clear hf5
          try clear p6
          try clear c10
          try clear c10b0
          try clear c11
          try clear c11b0
          try clear p11
          try clear q11
          try clear hx11
          try clear c12
          try clear c12b0
          try clear p12
          try clear q12
          try clear hx12
          try clear c13
          try clear c13b0
          try clear c17
          try clear c17b0
          try clear q18
          try clear c19
          try clear c22
          try clear c23
          try clear c23b0
          try clear c24
          try clear c24b0
          try clear p25
          try clear q25
          try clear hx25
          try clear hf25
          try clear c26
          try clear c29
          try clear c29b0
          try clear c30
          try clear c30b0
          try clear q31
          try clear c32
          try clear c33
          try clear c33b0
          try clear c33b1
          try clear c34
          try clear c34b0
          try clear c35
          try clear c35b0
          try clear p36
          try clear q36
          try clear hx36
          try clear hf36
          try clear c41
          try clear c41b0
          try clear c41b1
          try clear c42
          try clear c42b0
          try clear c42b1
          try clear hcz16_0
          try clear hcz16_1
          try clear hcz16_2
          try clear hcz16_3
          try clear hcz20_0
          try clear hcz20_1
          try clear hcz20_2
          try clear hcz20_3
          try clear hcz26_0
          try clear hcz26_1
          try clear hcz26_2
          try clear hcz26_3
          try clear hcz37_0
          try clear hcz37_1
          try clear hcz37_2
          try clear hcz37_3
          try clear hcz40_0
          try clear hcz40_1
          try clear hcz40_2
          try clear hcz40_3
          try clear hfz16_0
          try clear hfz16_1
          try clear hfz16_2
          try clear hfz16_3
          try clear hfz20_0
          try clear hfz20_1
          try clear hfz20_2
          try clear hfz20_3
          try clear hfz26_0
          try clear hfz26_1
          try clear hfz26_2
          try clear hfz26_3
          try clear hfz37_0
          try clear hfz37_1
          try clear hfz37_2
          try clear hfz37_3
          try clear hfz40_0
          try clear hfz40_1
          try clear hfz40_2
          try clear hfz40_3
          try clear hx117_0
          try clear hx117_1
          try clear hx117_2
          try clear hx117_3
          try clear hx119_0
          try clear hx121_0
          try clear hx25_0
          try clear hx36_0
          try clear hx5_0
          try clear p1
          try clear p11
          try clear p117
          try clear p119
          try clear p121
          try clear p2
          try clear p25
          try clear p36
          try clear p5
          try clear q1
          try clear q11
          try clear q117
          try clear q119
          try clear q121
          try clear q18
          try clear q2
          try clear q25
          try clear q36
          try clear q5
          obtain ⟨x6_2, x7_2, x62_2, rfl, rfl, HA, HK2, HO_3, HO_6, HO_60, HB⟩ := hrel
          cases gk with
          | zero => exact absurd HA.out (by simp [comfitref06_Fewer.l2])
          | succ k2 =>
           have H := HA.out
           clear HA
           simp only [comfitref06_Fewer.l2] at H
           by_cases c45 : x62_2 < (x3_1.length : Int)
           ·rw [if_pos c45] at H
            have c45b0 : decide (x62_2 < (x3_1.length : Int)) = true := decide_eq_true c45
            clear c45
            by_cases c46 : 0 ≤ x62_2
            ·rw [if_pos c46] at H
             have c46b0 : decide (0 ≤ x62_2) = true := decide_eq_true c46
             clear c46
             by_cases c47 : x62_2 < (x3_1.length : Int)
             ·rw [if_pos c47] at H
              have c47b0 : decide (x62_2 < (x3_1.length : Int)) = true := decide_eq_true c47
              clear c47
              obtain ⟨bq48, hbq48⟩ : ∃ b_ : Bool, b_ = (rdOf false x3_1 x62_2) := ⟨_, rfl⟩
              replace H : (if bq48 = true then (if x62_2 < (x6_2.length : Int) then (comfitref06_Fewer.l2 k2 l0 x3_1 (x6_2.set (x62_2 : Int).toNat x7_2) (wrap64 (x7_2 + 1)) x3_1 (x3_1.length : Int) (wrap64 (x62_2 + 1))) else (none)) else (comfitref06_Fewer.l2 k2 l0 x3_1 x6_2 x7_2 x3_1 (x3_1.length : Int) (wrap64 (x62_2 + 1)))) = some r := by rw [← hbq48] at H; exact H
              have Nbq48 := Aside0.mk hbq48
              clear hbq48
              by_cases c49 : bq48 = true
              ·subst c49
               have H1 : (if x62_2 < (x6_2.length : Int) then (comfitref06_Fewer.l2 k2 l0 x3_1 (x6_2.set (x62_2 : Int).toNat x7_2) (wrap64 (x7_2 + 1)) x3_1 (x3_1.length : Int) (wrap64 (x62_2 + 1))) else (none)) = some r := by rw [if_pos rfl] at H; exact H
               clear H
               have H := H1
               clear H1
               by_cases c50 : x62_2 < (x6_2.length : Int)
               ·rw [if_pos c50] at H
                have c50b0 : decide (x62_2 < (x6_2.length : Int)) = true := decide_eq_true c50
                clear c50
                obtain ⟨y127, hy127⟩ : ∃ y_ : List Int, y_ = (x6_2.set (x62_2 : Int).toNat x7_2) := ⟨_, rfl⟩
                replace H : (comfitref06_Fewer.l2 k2 l0 x3_1 y127 (wrap64 (x7_2 + 1)) x3_1 (x3_1.length : Int) (wrap64 (x62_2 + 1))) = some r := by first | (rw [hy127]; with_reducible exact H) | (have H2_ := (Option.bind_some _ _).symm.trans H; rw [hy127]; with_reducible exact H2_) | (have H2_ := (Option.bind_some _ _).symm.trans H; with_reducible exact H2_) | with_reducible exact H | (rw [hy127]; exact H) | exact H
                have Ny127 := Aside0.mk hy127
                clear hy127
                have H' := Aside0.mk H
                clear H
                have p126 : 0 ≤ (x62_2 : Int) := of_decide_eq_true (by first | (with_reducible assumption) | assumption)
                have q126 : x62_2 < (x3_1.length : Int) := of_decide_eq_true (by first | (with_reducible assumption) | assumption)
                obtain ⟨ad126, e126, hx126_0⟩ := Kd.at_bool (Kd.R_reads' HO_60.out).2.2 x62_2 p126 q126
                (try rw [← Nbq48.out] at hx126_0)
                obtain rfl : (⟨go5, 0, none⟩ : Addr) = ad126 := (by injection e126)
                (first | simp only [add_plain] at hx126_0 | simp only [add_at] at hx126_0 | simp only [Addr.add, Nat.zero_add] at hx126_0 | skip)
                replace p126 := eq_true p126
                replace q126 := eq_true q126
                have p51 : 0 ≤ (x62_2 : Int) := of_decide_eq_true (by first | (with_reducible assumption) | assumption)
                have q51 : (x62_2 : Int) < ((x6_2.length : Int) : Int) := of_decide_eq_true (by first | (with_reducible assumption) | assumption)
                obtain ⟨go51, co51, eo51, gb51, gl51, cl51, HG51⟩ := Kd.R_form HO_6.out (by omega)
                (first | cases eo51 | (injection eo51 with ea_ en_ ec_; (first | subst ea_ | (injection ea_ with ea_; subst ea_)); subst ec_; clear en_))
                have GB51 := Aside0.mk gb51
                have GG51 := Aside0.mk HG51
                clear gb51 gl51 HG51
                obtain ⟨hx51_0, hf51_0⟩ := Kd.R_celln 0 HO_6.out (x62_2 : Int) p51 q51
                replace p51 := eq_true p51
                replace q51 := eq_true q51
                have HP52 := Kd.R_putg HO_6.out (x62_2 : Int) x7_2
                go_wp2_with (first | ((with_reducible refine gate_store (t := 3) (p := 71) rfl ?_); refine store_event (t := 3) (p := 71) (v := ?vo_w53) (w1 := (wr.setCell ⟨go51, (x62_2 : Int).toNat, none⟩ (.int .i64 x7_2))) ?hg ?ho ?hn ?hr ?_; (case ho => rfl); (case hg => rfl); (case hn => rfl); (case hr => first | (go_simp; done) | (go_simp; rfl)); intro w53 hw; have hg : wr.grownBy w53 (some go51) := (by rw [hw]; exact HP52.2); have hp_ : Kd.R (Kd.int .i64) 3 w53 w.heap.size (fun _ => True) (.slice (some ⟨go51, 0, none⟩) x6_2.length co51) y127 := (by rw [hw, Ny127.out]; exact HP52.1); clear HP52; have n0_ := Aside0.mk (Kd.R_over' (v := (.slice (some ⟨go51, 0, none⟩) x6_2.length co51)) (kr_ (HO_3.out)) (Kd.R_typed HO_6.out) (by decide) hg); have n1_ := Aside0.mk (hp_); have n2_ := Aside0.mk (Kd.R_over' (v := (.slice (some ⟨go51, 0, none⟩) x6_2.length co51)) (kr_ (HO_60.out)) (Kd.R_typed HO_6.out) (by decide) hg); have n3_ := Aside0.mk ((by rw [hw]; exact below_set (HB.out) GB51.out : Below w.heap.size w w53)); clear HO_3; clear HO_6; clear HO_60; clear HB; have HO_3 := n0_; have HO_6 := n1_; have HO_60 := n2_; have HB := n3_; clear n0_ n1_ n2_ n3_; clear hg hw hp_))
                go_roundg k2
                case measure => have := HK1.out; have := HK2.out; omega
                case rel => exact ⟨(y127), (wrap64 (x7_2 + 1)), (wrap64 (x62_2 + 1)), (by first | rfl | (simp; done) | (simp [*]; done)), (by first | rfl | (simp; done) | (simp [*]; done)), H', ⟨by have := HK1.out; have := HK2.out; omega⟩, ⟨by (try simp only [hl3_1]); (with_reducible repeat (first | apply Kd.R_alloc | apply Kd.R_drewN | apply Kd.R_drew)); exact HO_3.out⟩, ⟨by (try simp only [hl3_1]); (with_reducible repeat (first | apply Kd.R_alloc | apply Kd.R_drewN | apply Kd.R_drew)); exact HO_6.out⟩, ⟨by (try simp only [hl3_1]); (with_reducible repeat (first | apply Kd.R_alloc | apply Kd.R_drewN | apply Kd.R_drew)); exact HO_60.out⟩, ⟨by repeat (first | (with_reducible first | exact HB.out | apply below_alloc | apply pw_below_drewN | apply below_drew1) | exact HB.out)⟩⟩
               ·rw [if_neg c50] at H
                exact absurd H (by simp)
              ·replace c49 := Bool.eq_false_iff.mpr c49
               subst c49
               have H1 : (comfitref06_Fewer.l2 k2 l0 x3_1 x6_2 x7_2 x3_1 (x3_1.length : Int) (wrap64 (x62_2 + 1))) = some r := by rw [if_neg (show ¬ (false = true) by decide)] at H; exact H
               clear H
               have H := H1
               clear H1
               have H' := Aside0.mk H
               clear H
               have p126 : 0 ≤ (x62_2 : Int) := of_decide_eq_true (by first | (with_reducible assumption) | assumption)
               have q126 : x62_2 < (x3_1.length : Int) := of_decide_eq_true (by first | (with_reducible assumption) | assumption)
               obtain ⟨ad126, e126, hx126_0⟩ := Kd.at_bool (Kd.R_reads' HO_60.out).2.2 x62_2 p126 q126
               (try rw [← Nbq48.out] at hx126_0)
               obtain rfl : (⟨go5, 0, none⟩ : Addr) = ad126 := (by injection e126)
               (first | simp only [add_plain] at hx126_0 | simp only [add_at] at hx126_0 | simp only [Addr.add, Nat.zero_add] at hx126_0 | skip)
               replace p126 := eq_true p126
               replace q126 := eq_true q126
               go_wp2
               go_roundg k2
               case measure => have := HK1.out; have := HK2.out; omega
               case rel => exact ⟨(x6_2), (x7_2), (wrap64 (x62_2 + 1)), (by first | rfl | (simp; done) | (simp [*]; done)), (by first | rfl | (simp; done) | (simp [*]; done)), H', ⟨by have := HK1.out; have := HK2.out; omega⟩, ⟨by (try simp only [hl3_1]); (with_reducible repeat (first | apply Kd.R_alloc | apply Kd.R_drewN | apply Kd.R_drew)); exact HO_3.out⟩, ⟨by (try simp only [hl3_1]); (with_reducible repeat (first | apply Kd.R_alloc | apply Kd.R_drewN | apply Kd.R_drew)); exact HO_6.out⟩, ⟨by (try simp only [hl3_1]); (with_reducible repeat (first | apply Kd.R_alloc | apply Kd.R_drewN | apply Kd.R_drew)); exact HO_60.out⟩, ⟨by repeat (first | (with_reducible first | exact HB.out | apply below_alloc | apply pw_below_drewN | apply below_drew1) | exact HB.out)⟩⟩
             ·rw [if_neg c47] at H
              exact absurd H (by simp)
            ·rw [if_neg c46] at H
             exact absurd H (by simp)
           ·rw [if_neg c45] at H
            have c45b0 : decide (x62_2 < (x3_1.length : Int)) = false := decide_eq_false c45
            clear c45
            have H' := Aside0.mk H
            clear H
            go_wp2
            go_loopg [10, 77] k2 (fun kq v10 v77 w' => ∃ (x10_3 : List (S39)) (x77_3 : Int), v77 = .int .i64 x77_3 ∧ Aside0 (comfitref06_Fewer.l3 kq x3_1 x6_2 x10_3 l0 (l0.length : Int) x77_3 = some r) ∧ Aside0 (kq ≤ k2) ∧ Aside0 (Kd.R Kd.bool 4 w' w.heap.size (fun _ => True) (.slice (some ⟨go5, 0, none⟩) x3_1.length co5) x3_1) ∧ Aside0 (Kd.R (Kd.int .i64) 3 w' w.heap.size (fun _ => True) v124 x6_2) ∧ Aside0 (Kd.R k39 39 w' w.heap.size (fun _ => True) v10 x10_3) ∧ Aside0 (Below w.heap.size w w'))
            case atStart => exact ⟨(([] : List (S39))), (0), (by first | rfl | (simp; done) | (simp [*]; done)), H', ⟨Nat.le_refl _⟩, ⟨by (try simp only [hl3_1]); (with_reducible repeat (first | apply Kd.R_alloc | apply Kd.R_drewN | apply Kd.R_drew)); exact HO_3.out⟩, ⟨by (try simp only [hl3_1]); (with_reducible repeat (first | apply Kd.R_alloc | apply Kd.R_drewN | apply Kd.R_drew)); exact HO_6.out⟩, ⟨by (try simp only [hl3_1]); first | exact Kd.R_nil _ _ _ _ _ | exact Kd.N_nil _ _ _ _ _ | exact Kd.V_nil _ _ _ _ _ | exact Kd.Q_nil _ _ _ _ _ | exact Kd.S_nil _ _ _ _ _⟩, ⟨by repeat (first | (with_reducible first | exact HB.out | apply below_alloc | apply pw_below_drewN | apply below_drew1) | exact HB.out)⟩⟩
            case round =>
             clear H'
             try clear c1
             try clear p1
             try clear q1
             try clear hx1
             try clear c2
             try clear c2b0
             try clear c2b1
             try clear p2
             try clear q2
             try clear hx2
             try clear hf2
             try clear c3
             try clear c3b0
             try clear c3b1
             try clear p3
             try clear q3
             try clear hx3
             try clear hf3
             try clear c4
             try clear c4b0
             try clear c4b1
             try clear q4
             try clear c5
             try clear p5
             try clear q5
             try clear hx5
             try clear qi5
             try clear hf5
             try clear p6
             try clear c10
             try clear c10b0
             try clear c11
             try clear c11b0
             try clear p11
             try clear q11
             try clear hx11
             try clear c12
             try clear c12b0
             try clear p12
             try clear q12
             try clear hx12
             try clear c13
             try clear c13b0
             try clear c17
             try clear c17b0
             try clear q18
             try clear c19
             try clear c22
             try clear c23
             try clear c23b0
             try clear c24
             try clear c24b0
             try clear p25
             try clear q25
             try clear hx25
             try clear hf25
             try clear c26
             try clear c29
             try clear c29b0
             try clear c30
             try clear c30b0
             try clear q31
             try clear c32
             try clear c33
             try clear c33b0
             try clear c33b1
             try clear c34
             try clear c34b0
             try clear c35
             try clear c35b0
             try clear p36
             try clear q36
             try clear hx36
             try clear hf36
             try clear c41
             try clear c41b0
             try clear c41b1
             try clear c42
             try clear c42b0
             try clear c42b1
             try clear c45
             try clear c45b0
             try clear c46
             try clear c46b0
             try clear c47
             try clear c47b0
             try clear q48
             try clear c49
             try clear c50
             try clear c50b0
             try clear p51
             try clear q51
             try clear hx51
             try clear hf51
             try clear hcz16_0
             try clear hcz16_1
             try clear hcz16_2
             try clear hcz16_3
             try clear hcz20_0
             try clear hcz20_1
             try clear hcz20_2
             try clear hcz20_3
             try clear hcz26_0
             try clear hcz26_1
             try clear hcz26_2
             try clear hcz26_3
             try clear hcz37_0
             try clear hcz37_1
             try clear hcz37_2
             try clear hcz37_3
             try clear hcz40_0
             try clear hcz40_1
             try clear hcz40_2
             try clear hcz40_3
             try clear hfz16_0
             try clear hfz16_1
             try clear hfz16_2
             try clear hfz16_3
             try clear hfz20_0
             try clear hfz20_1
             try clear hfz20_2
             try clear hfz20_3
             try clear hfz26_0
             try clear hfz26_1
             try clear hfz26_2
             try clear hfz26_3
             try clear hfz37_0
             try clear hfz37_1
             try clear hfz37_2
             try clear hfz37_3
             try clear hfz40_0
             try clear hfz40_1
             try clear hfz40_2
             try clear hfz40_3
             try clear hx117_0
             try clear hx117_1
             try clear hx117_2
             try clear hx117_3
             try clear hx119_0
             try clear hx121_0
             try clear hx126_0
             try clear hx25_0
             try clear hx36_0
             try clear hx51_0
             try clear hx5_0
             try clear p1
             try clear p11
             try clear p117
             try clear p119
             try clear p12
             try clear p121
             try clear p126
             try clear p2
             try clear p25
             try clear p3
             try clear p36
             try clear p5
             try clear p51
             try clear p6
             try clear q1
             try clear q11
             try clear q117
             try clear q119
             try clear q12
             try clear q121
             try clear q126
             try clear q18
             try clear q2
             try clear q25
             try clear q3
             try clear q31
             try clear q36
             try clear q5
             try clear q51
             obtain ⟨x10_3, x77_3, rfl, HA, HK3, HO_3, HO_6, HO_10, HB⟩ := hrel
             cases gk with
             | zero => exact absurd HA.out (by simp [comfitref06_Fewer.l3])
             | succ k3 =>
              have H := HA.out
              clear HA
              simp only [comfitref06_Fewer.l3] at H
              by_cases c54 : x77_3 < (l0.length : Int)
              ·rw [if_pos c54] at H
               have c54b0 : decide (x77_3 < (l0.length : Int)) = true := decide_eq_true c54
               clear c54
               by_cases c55 : 0 ≤ x77_3
               ·rw [if_pos c55] at H
                have c55b0 : decide (0 ≤ x77_3) = true := decide_eq_true c55
                clear c55
                by_cases c56 : x77_3 < (l0.length : Int)
                ·rw [if_pos c56] at H
                 have c56b0 : decide (x77_3 < (l0.length : Int)) = true := decide_eq_true c56
                 clear c56
                 by_cases c57 : x77_3 < (x3_1.length : Int)
                 ·rw [if_pos c57] at H
                  have c57b0 : decide (x77_3 < (x3_1.length : Int)) = true := decide_eq_true c57
                  clear c57
                  obtain ⟨bq58, hbq58⟩ : ∃ b_ : Bool, b_ = (rdOf false x3_1 x77_3) := ⟨_, rfl⟩
                  replace H : (if bq58 = true then (if ((rd_T39 l0 x77_3).f0) > 0 then (if 0 ≤ ((rd_T39 l0 x77_3).f2) then (if ((rd_T39 l0 x77_3).f2) < (x6_2.length : Int) then (comfitref06_Fewer.j6 k3 x3_1 x6_2 x10_3 l0 (l0.length : Int) x77_3 ((rd_T39 l0 x77_3).f0) ((rd_T39 l0 x77_3).f1) (rd x6_2 ((rd_T39 l0 x77_3).f2)) ((rd_T39 l0 x77_3).f3)) else (none)) else (none)) else (comfitref06_Fewer.j6 k3 x3_1 x6_2 x10_3 l0 (l0.length : Int) x77_3 ((rd_T39 l0 x77_3).f0) ((rd_T39 l0 x77_3).f1) ((rd_T39 l0 x77_3).f2) ((rd_T39 l0 x77_3).f3))) else (comfitref06_Fewer.l3 k3 x3_1 x6_2 x10_3 l0 (l0.length : Int) (wrap64 (x77_3 + 1)))) = some r := by rw [← hbq58] at H; exact H
                  have Nbq58 := Aside0.mk hbq58
                  clear hbq58
                  by_cases c59 : bq58 = true
                  ·subst c59
                   have H1 : (if ((rd_T39 l0 x77_3).f0) > 0 then (if 0 ≤ ((rd_T39 l0 x77_3).f2) then (if ((rd_T39 l0 x77_3).f2) < (x6_2.length : Int) then (comfitref06_Fewer.j6 k3 x3_1 x6_2 x10_3 l0 (l0.length : Int) x77_3 ((rd_T39 l0 x77_3).f0) ((rd_T39 l0 x77_3).f1) (rd x6_2 ((rd_T39 l0 x77_3).f2)) ((rd_T39 l0 x77_3).f3)) else (none)) else (none)) else (comfitref06_Fewer.j6 k3 x3_1 x6_2 x10_3 l0 (l0.length : Int) x77_3 ((rd_T39 l0 x77_3).f0) ((rd_T39 l0 x77_3).f1) ((rd_T39 l0 x77_3).f2) ((rd_T39 l0 x77_3).f3))) = some r := by rw [if_pos rfl] at H; exact H
                   clear H
                   have H := H1
                   clear H1
                   have HC60 := Aside0.mk H
                   clear H
                   have p128 : 0 ≤ (x77_3 : Int) := of_decide_eq_true (by first | (with_reducible assumption) | assumption)
                   have q128 : x77_3 < (l0.length : Int) := of_decide_eq_true (by first | (with_reducible assumption) | assumption)
                   obtain ⟨ad128, e128, hx128_0, hx128_1, hx128_2, hx128_3⟩ := at_T39 HR0.out x77_3 p128 q128
                   cases e128
                   replace hx128_0 := (HB.out.cell (World.block_lt_of_cell? w _ hx128_0)).trans hx128_0
                   replace hx128_1 := (HB.out.cell (World.block_lt_of_cell? w _ hx128_1)).trans hx128_1
                   replace hx128_2 := (HB.out.cell (World.block_lt_of_cell? w _ hx128_2)).trans hx128_2
                   replace hx128_3 := (HB.out.cell (World.block_lt_of_cell? w _ hx128_3)).trans hx128_3
                   replace p128 := eq_true p128
                   replace q128 := eq_true q128
                   go_upto_if 89 with (first | ((with_reducible refine gate_dst (N := 12) rfl ?_); refine box_event ?hg (N := 12) ?hd (cs := #[.int .i64 0, .int .i64 0, .int .i64 0, .int .i64 0]) (t := 39) ?hr ?_; (case hd => rfl); (case hg => rfl); (case hr => first | (go_simp; done) | (go_simp; rfl)); intro gb129 hg w61 hbox hb; have n0_ := Aside0.mk (Kd.R_below (kr_ (HO_3.out)) hb); have n1_ := Aside0.mk (Kd.R_below (kr_ (HO_6.out)) hb); have n2_ := Aside0.mk (Kd.R_below (Kd.R_elderB (kr_ (HO_10.out)) gb129 (Nat.le_of_eq hg.symm)) hb); have n3_ := Aside0.mk (below_step (hb_ HB.out) hb); have n4_ := Aside0.mk (hbox); have n5_ := Aside0.mk ((by rw [hg]; exact (below_size (hb_ HB.out)) : w.heap.size ≤ gb129)); have n6_ := Aside0.mk ((by rw [hg]; exact (below_size (hb_ HB.out)) : w.heap.size ≤ gb129)); clear HO_3; clear HO_6; clear HO_10; clear HB; have HO_3 := n0_; have HO_6 := n1_; have HO_10 := n2_; have HB := n3_; have BK129 := n4_; have GW129 := n5_; have GE129 := n6_; clear n0_ n1_ n2_ n3_ n4_ n5_ n6_; clear hb hbox hg; have hcz62_0 : w61.cell? ⟨gb129, 0, none⟩ = some (.int .i64 0) := (blk_cell BK129.out 0).trans rfl; have hcz62_1 : w61.cell? ⟨gb129, 1, none⟩ = some (.int .i64 0) := (blk_cell BK129.out 1).trans rfl; have hcz62_2 : w61.cell? ⟨gb129, 2, none⟩ = some (.int .i64 0) := (blk_cell BK129.out 2).trans rfl; have hcz62_3 : w61.cell? ⟨gb129, 3, none⟩ = some (.int .i64 0) := (blk_cell BK129.out 3).trans rfl; have hfz62_0 := blk_frozen BK129.out 0; have hfz62_1 := blk_frozen BK129.out 1; have hfz62_2 := blk_frozen BK129.out 2; have hfz62_3 := blk_frozen BK129.out 3; have p130 : 0 ≤ (x77_3 : Int) := of_decide_eq_true (by first | (with_reducible assumption) | assumption); have q130 : x77_3 < (x3_1.length : Int) := of_decide_eq_true (by first | (with_reducible assumption) | assumption); obtain ⟨ad130, e130, hx130_0⟩ := Kd.at_bool (Kd.R_reads' HO_3.out).2.2 x77_3 p130 q130; (try rw [← Nbq58.out] at hx130_0); obtain rfl : (⟨go5, 0, none⟩ : Addr) = ad130 := (by injection e130); (first | simp only [add_plain] at hx130_0 | simp only [add_at] at hx130_0 | simp only [Addr.add, Nat.zero_add] at hx130_0 | skip); have hn130_0 : (⟨go5, 0, none⟩ : Addr).block ≠ gb129 := Kd.own_blk (Kd.R_ne HO_3.out BK129.out (by decide)); have hn130_1 : (⟨go5, 0, none⟩ : Addr).block ≠ gb129 := Kd.own_blk (Kd.R_ne HO_3.out BK129.out (by decide)); have hn130_2 : (⟨go5, 0, none⟩ : Addr).block ≠ gb129 := Kd.own_blk (Kd.R_ne HO_3.out BK129.out (by decide)); have hn130_3 : (⟨go5, 0, none⟩ : Addr).block ≠ gb129 := Kd.own_blk (Kd.R_ne HO_3.out BK129.out (by decide)); replace hx130_0 := (cell_far (p := ⟨gb129, 0, none⟩) (by first | (rw [add_block]; exact hn130_0) | (show (Addr.add _ _).block ≠ _; rw [add_block]; exact hn130_0) | exact hn130_0) (.int .i64 ((rd_T39 l0 x77_3).f0))).trans hx130_0; replace hx130_0 := (cell_far (p := ⟨gb129, 1, none⟩) (by first | (rw [add_block]; exact hn130_1) | (show (Addr.add _ _).block ≠ _; rw [add_block]; exact hn130_1) | exact hn130_1) (.int .i64 ((rd_T39 l0 x77_3).f1))).trans hx130_0; replace hx130_0 := (cell_far (p := ⟨gb129, 2, none⟩) (by first | (rw [add_block]; exact hn130_2) | (show (Addr.add _ _).block ≠ _; rw [add_block]; exact hn130_2) | exact hn130_2) (.int .i64 ((rd_T39 l0 x77_3).f2))).trans hx130_0; replace hx130_0 := (cell_far (p := ⟨gb129, 3, none⟩) (by first | (rw [add_block]; exact hn130_3) | (show (Addr.add _ _).block ≠ _; rw [add_block]; exact hn130_3) | exact hn130_3) (.int .i64 ((rd_T39 l0 x77_3).f3))).trans hx130_0; clear hn130_0; clear hn130_1; clear hn130_2; clear hn130_3; replace p130 := eq_true p130; replace q130 := eq_true q130))
                   (try simp only [Act.put, List.setIfInBounds_toArray, List.set_cons_zero, List.set_cons_succ])
                   go_cut [] (fun wc => ∃ (kq : Nat) (x130002_59 : Int), Aside0 (comfitref06_Fewer.j6 kq x3_1 x6_2 x10_3 l0 (l0.length : Int) x77_3 ((rd_T39 l0 x77_3).f0) ((rd_T39 l0 x77_3).f1) x130002_59 ((rd_T39 l0 x77_3).f3) = some r) ∧ Aside0 (kq ≤ k3) ∧ Aside0 (Kd.R Kd.bool 4 wc w.heap.size (fun _ => True) (.slice (some ⟨go5, 0, none⟩) x3_1.length co5) x3_1) ∧ Aside0 (Kd.R (Kd.int .i64) 3 wc w.heap.size (fun _ => True) v124 x6_2) ∧ Aside0 (Kd.R k39 39 wc w.heap.size (fun k_ => k_ ≠ gb129) u10 x10_3) ∧ Aside0 (wc.heap[gb129]? = some (.cells #[.int .i64 ((rd_T39 l0 x77_3).f0), .int .i64 ((rd_T39 l0 x77_3).f1), .int .i64 x130002_59, .int .i64 ((rd_T39 l0 x77_3).f3)] 39 (0, 0))) ∧ Aside0 (Below w.heap.size w wc))
                   case first =>
                    have H := HC60.out
                    clear HC60
                    by_cases c63 : ((rd_T39 l0 x77_3).f0) > 0
                    ·rw [if_pos c63] at H
                     have c63b0 : decide (0 < ((rd_T39 l0 x77_3).f0)) = true := decide_eq_true c63
                     clear c63
                     (first | rw [c63b0] | (simp only [i64_w, i32_w]; rw [c63b0]) | skip)
                     by_cases c64 : 0 ≤ ((rd_T39 l0 x77_3).f2)
                     ·rw [if_pos c64] at H
                      have c64b0 : decide (0 ≤ ((rd_T39 l0 x77_3).f2)) = true := decide_eq_true c64
                      clear c64
                      by_cases c65 : ((rd_T39 l0 x77_3).f2) < (x6_2.length : Int)
                      ·rw [if_pos c65] at H
                       have c65b0 : decide (((rd_T39 l0 x77_3).f2) < (x6_2.length : Int)) = true := decide_eq_true c65
                       clear c65
                       have H' := Aside0.mk H
                       clear H
                       have hcz66_0 : w61.cell? ⟨gb129, 0, none⟩ = some (.int .i64 0) := (blk_cell BK129.out 0).trans rfl
                       have hcz66_1 : w61.cell? ⟨gb129, 1, none⟩ = some (.int .i64 0) := (blk_cell BK129.out 1).trans rfl
                       have hcz66_2 : w61.cell? ⟨gb129, 2, none⟩ = some (.int .i64 0) := (blk_cell BK129.out 2).trans rfl
                       have hcz66_3 : w61.cell? ⟨gb129, 3, none⟩ = some (.int .i64 0) := (blk_cell BK129.out 3).trans rfl
                       have hfz66_0 := blk_frozen BK129.out 0
                       have hfz66_1 := blk_frozen BK129.out 1
                       have hfz66_2 := blk_frozen BK129.out 2
                       have hfz66_3 := blk_frozen BK129.out 3
                       obtain ⟨Ao67, co67, eo67⟩ := Kd.R_slice HO_6.out
                       subst eo67
                       have p131 : 0 ≤ (((rd_T39 l0 x77_3).f2) : Int) := of_decide_eq_true (by first | (with_reducible assumption) | assumption)
                       have q131 : ((rd_T39 l0 x77_3).f2) < (x6_2.length : Int) := of_decide_eq_true (by first | (with_reducible assumption) | assumption)
                       obtain ⟨ad131, e131, hx131_0⟩ := Kd.at_int (Kd.R_reads' HO_6.out).2.2 ((rd_T39 l0 x77_3).f2) p131 q131
                       cases e131
                       have hn131_0 : ad131.block ≠ gb129 := Kd.own_blk (Kd.R_ne HO_6.out BK129.out (by decide))
                       have hn131_1 : ad131.block ≠ gb129 := Kd.own_blk (Kd.R_ne HO_6.out BK129.out (by decide))
                       have hn131_2 : ad131.block ≠ gb129 := Kd.own_blk (Kd.R_ne HO_6.out BK129.out (by decide))
                       have hn131_3 : ad131.block ≠ gb129 := Kd.own_blk (Kd.R_ne HO_6.out BK129.out (by decide))
                       replace hx131_0 := (cell_far (p := ⟨gb129, 0, none⟩) (by first | (rw [add_block]; exact hn131_0) | (show (Addr.add _ _).block ≠ _; rw [add_block]; exact hn131_0) | exact hn131_0) (.int .i64 ((rd_T39 l0 x77_3).f0))).trans hx131_0
                       replace hx131_0 := (cell_far (p := ⟨gb129, 1, none⟩) (by first | (rw [add_block]; exact hn131_1) | (show (Addr.add _ _).block ≠ _; rw [add_block]; exact hn131_1) | exact hn131_1) (.int .i64 ((rd_T39 l0 x77_3).f1))).trans hx131_0
                       replace hx131_0 := (cell_far (p := ⟨gb129, 2, none⟩) (by first | (rw [add_block]; exact hn131_2) | (show (Addr.add _ _).block ≠ _; rw [add_block]; exact hn131_2) | exact hn131_2) (.int .i64 ((rd_T39 l0 x77_3).f2))).trans hx131_0
                       replace hx131_0 := (cell_far (p := ⟨gb129, 3, none⟩) (by first | (rw [add_block]; exact hn131_3) | (show (Addr.add _ _).block ≠ _; rw [add_block]; exact hn131_3) | exact hn131_3) (.int .i64 ((rd_T39 l0 x77_3).f3))).trans hx131_0
                       clear hn131_0
                       clear hn131_1
                       clear hn131_2
                       clear hn131_3
                       replace p131 := eq_true p131
                       replace q131 := eq_true q131
                       go_wp2
                       go_meet
                       case rel => exact ⟨_, (rd x6_2 ((rd_T39 l0 x77_3).f2)), H', ⟨by have := HK1.out; have := HK2.out; have := HK3.out; first | omega | exact Nat.le_refl _⟩, ⟨by (try simp only [hl3_1]); (with_reducible repeat (first | apply Kd.R_alloc | apply Kd.R_drewN | apply Kd.R_drew)); exact Kd.R_mono (Kd.R_far (p := ⟨gb129, 2, none⟩) (Kd.R_far (p := ⟨gb129, 3, none⟩) (Kd.R_far (p := ⟨gb129, 2, none⟩) (Kd.R_far (p := ⟨gb129, 1, none⟩) (Kd.R_far (p := ⟨gb129, 0, none⟩) (Kd.R_types HO_3.out BK129.out (by decide)) (fun _ hk => hk.2) (.int .i64 ((rd_T39 l0 x77_3).f0))) (fun _ hk => hk.2) (.int .i64 ((rd_T39 l0 x77_3).f1))) (fun _ hk => hk.2) (.int .i64 ((rd_T39 l0 x77_3).f2))) (fun _ hk => hk.2) (.int .i64 ((rd_T39 l0 x77_3).f3))) (fun _ hk => hk.2) (.int .i64 (rd x6_2 ((rd_T39 l0 x77_3).f2)))) (fun _ hk => trivial)⟩, ⟨by (try simp only [hl3_1]); (with_reducible repeat (first | apply Kd.R_alloc | apply Kd.R_drewN | apply Kd.R_drew)); exact Kd.R_mono (Kd.R_far (p := ⟨gb129, 2, none⟩) (Kd.R_far (p := ⟨gb129, 3, none⟩) (Kd.R_far (p := ⟨gb129, 2, none⟩) (Kd.R_far (p := ⟨gb129, 1, none⟩) (Kd.R_far (p := ⟨gb129, 0, none⟩) (Kd.R_types HO_6.out BK129.out (by decide)) (fun _ hk => hk.2) (.int .i64 ((rd_T39 l0 x77_3).f0))) (fun _ hk => hk.2) (.int .i64 ((rd_T39 l0 x77_3).f1))) (fun _ hk => hk.2) (.int .i64 ((rd_T39 l0 x77_3).f2))) (fun _ hk => hk.2) (.int .i64 ((rd_T39 l0 x77_3).f3))) (fun _ hk => hk.2) (.int .i64 (rd x6_2 ((rd_T39 l0 x77_3).f2)))) (fun _ hk => trivial)⟩, ⟨by (try simp only [hl3_1]); (with_reducible repeat (first | apply Kd.R_alloc | apply Kd.R_drewN | apply Kd.R_drew)); exact Kd.R_mono (Kd.R_far (p := ⟨gb129, 2, none⟩) (Kd.R_far (p := ⟨gb129, 3, none⟩) (Kd.R_far (p := ⟨gb129, 2, none⟩) (Kd.R_far (p := ⟨gb129, 1, none⟩) (Kd.R_far (p := ⟨gb129, 0, none⟩) (Kd.R_mono HO_10.out (fun k_ hk => (⟨hk, hk.2⟩ : _ ∧ k_ ≠ gb129))) (fun _ hk => hk.2) (.int .i64 ((rd_T39 l0 x77_3).f0))) (fun _ hk => hk.2) (.int .i64 ((rd_T39 l0 x77_3).f1))) (fun _ hk => hk.2) (.int .i64 ((rd_T39 l0 x77_3).f2))) (fun _ hk => hk.2) (.int .i64 ((rd_T39 l0 x77_3).f3))) (fun _ hk => hk.2) (.int .i64 (rd x6_2 ((rd_T39 l0 x77_3).f2)))) (fun _ hk => hk.1.2)⟩, ⟨by (try simp only [hl3_1]); (with_reducible repeat (first | refine blk_drewN ?_ _ | refine blk_drew ?_ | refine blk_alloc ?_ _)); refine blk_put (cs := #[.int .i64 ((rd_T39 l0 x77_3).f0), .int .i64 ((rd_T39 l0 x77_3).f1), .int .i64 ((rd_T39 l0 x77_3).f2), .int .i64 ((rd_T39 l0 x77_3).f3)]) ?_ 2 _ rfl; (with_reducible repeat (first | refine blk_drewN ?_ _ | refine blk_drew ?_ | refine blk_alloc ?_ _)); refine blk_put (cs := #[.int .i64 ((rd_T39 l0 x77_3).f0), .int .i64 ((rd_T39 l0 x77_3).f1), .int .i64 ((rd_T39 l0 x77_3).f2), .int .i64 0]) ?_ 3 _ rfl; (with_reducible repeat (first | refine blk_drewN ?_ _ | refine blk_drew ?_ | refine blk_alloc ?_ _)); refine blk_put (cs := #[.int .i64 ((rd_T39 l0 x77_3).f0), .int .i64 ((rd_T39 l0 x77_3).f1), .int .i64 0, .int .i64 0]) ?_ 2 _ rfl; (with_reducible repeat (first | refine blk_drewN ?_ _ | refine blk_drew ?_ | refine blk_alloc ?_ _)); refine blk_put (cs := #[.int .i64 ((rd_T39 l0 x77_3).f0), .int .i64 0, .int .i64 0, .int .i64 0]) ?_ 1 _ rfl; (with_reducible repeat (first | refine blk_drewN ?_ _ | refine blk_drew ?_ | refine blk_alloc ?_ _)); refine blk_put (cs := #[.int .i64 0, .int .i64 0, .int .i64 0, .int .i64 0]) ?_ 0 _ rfl; (with_reducible repeat (first | refine blk_drewN ?_ _ | refine blk_drew ?_ | refine blk_alloc ?_ _)); exact BK129.out⟩, ⟨by repeat (first | (with_reducible first | exact HB.out | apply below_alloc | apply pw_below_drewN | apply below_drew1 | refine below_set ?_ GE129.out) | exact HB.out)⟩⟩
                      ·rw [if_neg c65] at H
                       exact absurd H (by simp)
                     ·rw [if_neg c64] at H
                      exact absurd H (by simp)
                    ·rw [if_neg c63] at H
                     have c63b0 : decide (0 < ((rd_T39 l0 x77_3).f0)) = false := decide_eq_false c63
                     clear c63
                     (first | rw [c63b0] | (simp only [i64_w, i32_w]; rw [c63b0]) | skip)
                     have H' := Aside0.mk H
                     clear H
                     go_wp2
                     go_meet
                     case rel => exact ⟨_, ((rd_T39 l0 x77_3).f2), H', ⟨by have := HK1.out; have := HK2.out; have := HK3.out; first | omega | exact Nat.le_refl _⟩, ⟨by (try simp only [hl3_1]); (with_reducible repeat (first | apply Kd.R_alloc | apply Kd.R_drewN | apply Kd.R_drew)); exact Kd.R_mono (Kd.R_far (p := ⟨gb129, 3, none⟩) (Kd.R_far (p := ⟨gb129, 2, none⟩) (Kd.R_far (p := ⟨gb129, 1, none⟩) (Kd.R_far (p := ⟨gb129, 0, none⟩) (Kd.R_types HO_3.out BK129.out (by decide)) (fun _ hk => hk.2) (.int .i64 ((rd_T39 l0 x77_3).f0))) (fun _ hk => hk.2) (.int .i64 ((rd_T39 l0 x77_3).f1))) (fun _ hk => hk.2) (.int .i64 ((rd_T39 l0 x77_3).f2))) (fun _ hk => hk.2) (.int .i64 ((rd_T39 l0 x77_3).f3))) (fun _ hk => trivial)⟩, ⟨by (try simp only [hl3_1]); (with_reducible repeat (first | apply Kd.R_alloc | apply Kd.R_drewN | apply Kd.R_drew)); exact Kd.R_mono (Kd.R_far (p := ⟨gb129, 3, none⟩) (Kd.R_far (p := ⟨gb129, 2, none⟩) (Kd.R_far (p := ⟨gb129, 1, none⟩) (Kd.R_far (p := ⟨gb129, 0, none⟩) (Kd.R_types HO_6.out BK129.out (by decide)) (fun _ hk => hk.2) (.int .i64 ((rd_T39 l0 x77_3).f0))) (fun _ hk => hk.2) (.int .i64 ((rd_T39 l0 x77_3).f1))) (fun _ hk => hk.2) (.int .i64 ((rd_T39 l0 x77_3).f2))) (fun _ hk => hk.2) (.int .i64 ((rd_T39 l0 x77_3).f3))) (fun _ hk => trivial)⟩, ⟨by (try simp only [hl3_1]); (with_reducible repeat (first | apply Kd.R_alloc | apply Kd.R_drewN | apply Kd.R_drew)); exact Kd.R_mono (Kd.R_far (p := ⟨gb129, 3, none⟩) (Kd.R_far (p := ⟨gb129, 2, none⟩) (Kd.R_far (p := ⟨gb129, 1, none⟩) (Kd.R_far (p := ⟨gb129, 0, none⟩) (Kd.R_mono HO_10.out (fun k_ hk => (⟨hk, hk.2⟩ : _ ∧ k_ ≠ gb129))) (fun _ hk => hk.2) (.int .i64 ((rd_T39 l0 x77_3).f0))) (fun _ hk => hk.2) (.int .i64 ((rd_T39 l0 x77_3).f1))) (fun _ hk => hk.2) (.int .i64 ((rd_T39 l0 x77_3).f2))) (fun _ hk => hk.2) (.int .i64 ((rd_T39 l0 x77_3).f3))) (fun _ hk => hk.1.2)⟩, ⟨by (try simp only [hl3_1]); (with_reducible repeat (first | refine blk_drewN ?_ _ | refine blk_drew ?_ | refine blk_alloc ?_ _)); refine blk_put (cs := #[.int .i64 ((rd_T39 l0 x77_3).f0), .int .i64 ((rd_T39 l0 x77_3).f1), .int .i64 ((rd_T39 l0 x77_3).f2), .int .i64 0]) ?_ 3 _ rfl; (with_reducible repeat (first | refine blk_drewN ?_ _ | refine blk_drew ?_ | refine blk_alloc ?_ _)); refine blk_put (cs := #[.int .i64 ((rd_T39 l0 x77_3).f0), .int .i64 ((rd_T39 l0 x77_3).f1), .int .i64 0, .int .i64 0]) ?_ 2 _ rfl; (with_reducible repeat (first | refine blk_drewN ?_ _ | refine blk_drew ?_ | refine blk_alloc ?_ _)); refine blk_put (cs := #[.int .i64 ((rd_T39 l0 x77_3).f0), .int .i64 0, .int .i64 0, .int .i64 0]) ?_ 1 _ rfl; (with_reducible repeat (first | refine blk_drewN ?_ _ | refine blk_drew ?_ | refine blk_alloc ?_ _)); refine blk_put (cs := #[.int .i64 0, .int .i64 0, .int .i64 0, .int .i64 0]) ?_ 0 _ rfl; (with_reducible repeat (first | refine blk_drewN ?_ _ | refine blk_drew ?_ | refine blk_alloc ?_ _)); exact BK129.out⟩, ⟨by repeat (first | (with_reducible first | exact HB.out | apply below_alloc | apply pw_below_drewN | apply below_drew1 | refine below_set ?_ GE129.out) | exact HB.out)⟩⟩
                   case rest =>
                    clear HC60
                    try clear c1
                    try clear p1
                    try clear q1
                    try clear hx1
                    try clear c2
                    try clear c2b0
                    try clear c2b1
                    try clear p2
                    try clear q2
                    try clear hx2
                    try clear hf2
                    try clear c3
                    try clear c3b0
                    try clear c3b1
                    try clear p3
                    try clear q3
                    try clear hx3
                    try clear hf3
                    try clear c4
                    try clear c4b0
                    try clear c4b1
                    try clear q4
                    try clear c5
                    try clear p5
                    try clear q5
                    try clear hx5
                    try clear qi5
                    try clear hf5
                    try clear c6
                    try clear p6
                    try clear c10
                    try clear c10b0
                    try clear c11
                    try clear c11b0
                    try clear p11
                    try clear q11
                    try clear hx11
                    try clear c12
                    try clear c12b0
                    try clear p12
                    try clear q12
                    try clear hx12
                    try clear c13
                    try clear c13b0
                    try clear p13
                    try clear q13
                    try clear hx13
                    try clear c17
                    try clear c17b0
                    try clear q18
                    try clear c19
                    try clear c22
                    try clear c23
                    try clear c23b0
                    try clear c24
                    try clear c24b0
                    try clear p25
                    try clear q25
                    try clear hx25
                    try clear hf25
                    try clear c26
                    try clear c29
                    try clear c29b0
                    try clear c30
                    try clear c30b0
                    try clear q31
                    try clear c32
                    try clear c33
                    try clear c33b0
                    try clear c33b1
                    try clear c34
                    try clear c34b0
                    try clear c35
                    try clear c35b0
                    try clear p36
                    try clear q36
                    try clear hx36
                    try clear hf36
                    try clear c41
                    try clear c41b0
                    try clear c41b1
                    try clear c42
                    try clear c42b0
                    try clear c42b1
                    try clear c45
                    try clear c45b0
                    try clear c46
                    try clear c46b0
                    try clear c47
                    try clear c47b0
                    try clear q48
                    try clear c49
                    try clear c50
                    try clear c50b0
                    try clear p51
                    try clear q51
                    try clear hx51
                    try clear hf51
                    try clear c54
                    try clear c54b0
                    try clear c55
                    try clear c55b0
                    try clear c56
                    try clear c56b0
                    try clear c57
                    try clear c57b0
                    try clear q58
                    try clear c59
                    try clear c63
                    try clear c63b0
                    try clear c64
                    try clear c64b0
                    try clear p64
                    try clear c65
                    try clear c65b0
                    try clear hcz16_0
                    try clear hcz16_1
                    try clear hcz16_2
                    try clear hcz16_3
                    try clear hcz20_0
                    try clear hcz20_1
                    try clear hcz20_2
                    try clear hcz20_3
                    try clear hcz26_0
                    try clear hcz26_1
                    try clear hcz26_2
                    try clear hcz26_3
                    try clear hcz37_0
                    try clear hcz37_1
                    try clear hcz37_2
                    try clear hcz37_3
                    try clear hcz40_0
                    try clear hcz40_1
                    try clear hcz40_2
                    try clear hcz40_3
                    try clear hcz62_0
                    try clear hcz62_1
                    try clear hcz62_2
                    try clear hcz62_3
                    try clear hcz66_0
                    try clear hcz66_1
                    try clear hcz66_2
                    try clear hcz66_3
                    try clear hfz16_0
                    try clear hfz16_1
                    try clear hfz16_2
                    try clear hfz16_3
                    try clear hfz20_0
                    try clear hfz20_1
                    try clear hfz20_2
                    try clear hfz20_3
                    try clear hfz26_0
                    try clear hfz26_1
                    try clear hfz26_2
                    try clear hfz26_3
                    try clear hfz37_0
                    try clear hfz37_1
                    try clear hfz37_2
                    try clear hfz37_3
                    try clear hfz40_0
                    try clear hfz40_1
                    try clear hfz40_2
                    try clear hfz40_3
                    try clear hfz62_0
                    try clear hfz62_1
                    try clear hfz62_2
                    try clear hfz62_3
                    try clear hfz66_0
                    try clear hfz66_1
                    try clear hfz66_2
                    try clear hfz66_3
                    try clear hx117_0
                    try clear hx117_1
                    try clear hx117_2
                    try clear hx117_3
                    try clear hx119_0
                    try clear hx121_0
                    try clear hx126_0
                    try clear hx128_0
                    try clear hx128_1
                    try clear hx128_2
                    try clear hx128_3
                    try clear hx130_0
                    try clear hx131_0
                    try clear hx25_0
                    try clear hx36_0
                    try clear hx51_0
                    try clear hx5_0
                    try clear p1
                    try clear p11
                    try clear p117
                    try clear p119
                    try clear p12
                    try clear p121
                    try clear p126
                    try clear p128
                    try clear p130
                    try clear p131
                    try clear p2
                    try clear p25
                    try clear p3
                    try clear p36
                    try clear p5
                    try clear p51
                    try clear p6
                    try clear q1
                    try clear q11
                    try clear q117
                    try clear q119
                    try clear q12
                    try clear q121
                    try clear q126
                    try clear q128
                    try clear q130
                    try clear q131
                    try clear q18
                    try clear q2
                    try clear q25
                    try clear q3
                    try clear q31
                    try clear q36
                    try clear q4
                    try clear q48
                    try clear q5
                    try clear q51
                    obtain ⟨kq, x130002_59, HA, HJ59, HO_3, HO_6, HO_10, BK129, HB⟩ := hcut
                    cases kq with
                    | zero => exact absurd HA.out (by simp [comfitref06_Fewer.j6])
                    | succ kj59 =>
                     have H := HA.out
                     clear HA
                     simp only [comfitref06_Fewer.j6] at H
                     by_cases c68 : ((rd_T39 l0 x77_3).f0) = 2
                     ·rw [if_pos c68] at H
                      have c68b0 : (((rd_T39 l0 x77_3).f0) == 2) = true := beq_iff_eq.mpr c68
                      have c68b1 : (((rd_T39 l0 x77_3).f0) != 2) = false := bne_eq_false_iff_eq.mpr c68
                      clear c68
                      by_cases c69 : 0 ≤ ((rd_T39 l0 x77_3).f3)
                      ·rw [if_pos c69] at H
                       have c69b0 : decide (0 ≤ ((rd_T39 l0 x77_3).f3)) = true := decide_eq_true c69
                       clear c69
                       by_cases c70 : ((rd_T39 l0 x77_3).f3) < (x6_2.length : Int)
                       ·rw [if_pos c70] at H
                        have c70b0 : decide (((rd_T39 l0 x77_3).f3) < (x6_2.length : Int)) = true := decide_eq_true c70
                        clear c70
                        by_cases c71 : x10_3.length < 4398046511104
                        ·rw [if_pos c71] at H
                         have LMc71 := Aside0.mk c71
                         clear c71
                         obtain ⟨y133, hy133⟩ : ∃ y_ : List (S39), y_ = (x10_3 ++ [(⟨((rd_T39 l0 x77_3).f0), ((rd_T39 l0 x77_3).f1), x130002_59, rd x6_2 ((rd_T39 l0 x77_3).f3)⟩ : S39)]) := ⟨_, rfl⟩
                         replace H : (comfitref06_Fewer.l3 kj59 x3_1 x6_2 y133 l0 (l0.length : Int) (wrap64 (x77_3 + 1))) = some r := by first | (rw [hy133]; with_reducible exact H) | (have H2_ := (Option.bind_some _ _).symm.trans H; rw [hy133]; with_reducible exact H2_) | (have H2_ := (Option.bind_some _ _).symm.trans H; with_reducible exact H2_) | with_reducible exact H | (rw [hy133]; exact H) | exact H
                         have Ny133 := Aside0.mk hy133
                         clear hy133
                         have H' := Aside0.mk H
                         clear H
                         have hcz72_0 : wc.cell? ⟨gb129, 0, none⟩ = some (.int .i64 ((rd_T39 l0 x77_3).f0)) := (blk_cell BK129.out 0).trans rfl
                         have hcz72_1 : wc.cell? ⟨gb129, 1, none⟩ = some (.int .i64 ((rd_T39 l0 x77_3).f1)) := (blk_cell BK129.out 1).trans rfl
                         have hcz72_2 : wc.cell? ⟨gb129, 2, none⟩ = some (.int .i64 x130002_59) := (blk_cell BK129.out 2).trans rfl
                         have hcz72_3 : wc.cell? ⟨gb129, 3, none⟩ = some (.int .i64 ((rd_T39 l0 x77_3).f3)) := (blk_cell BK129.out 3).trans rfl
                         have hfz72_0 := blk_frozen BK129.out 0
                         have hfz72_1 := blk_frozen BK129.out 1
                         have hfz72_2 := blk_frozen BK129.out 2
                         have hfz72_3 := blk_frozen BK129.out 3
                         obtain ⟨Ao73, co73, eo73⟩ := Kd.R_slice HO_6.out
                         subst eo73
                         have p132 : 0 ≤ (((rd_T39 l0 x77_3).f3) : Int) := of_decide_eq_true (by first | (with_reducible assumption) | assumption)
                         have q132 : ((rd_T39 l0 x77_3).f3) < (x6_2.length : Int) := of_decide_eq_true (by first | (with_reducible assumption) | assumption)
                         obtain ⟨ad132, e132, hx132_0⟩ := Kd.at_int (Kd.R_reads' HO_6.out).2.2 ((rd_T39 l0 x77_3).f3) p132 q132
                         cases e132
                         replace p132 := eq_true p132
                         replace q132 := eq_true q132
                         go_wp2_with (first | ((with_reducible refine gate_builtin (b := .append) (xs := #[.tmp 105, .tmp 107]) rfl ?_); at_builtin; refine Kd.R_append k39 (w0 := w) w.heap.size rfl (.tmp 105) (.tmp 107) 22 39 (.agg #[(.int .i64 0), (.int .i64 0), (.int .i64 0), (.int .i64 0)]) 32 rfl Try.underlying22 info39 rfl (by decide) (by omega) u10 x10_3 (⟨((rd_T39 l0 x77_3).f0), ((rd_T39 l0 x77_3).f1), x130002_59, rd x6_2 ((rd_T39 l0 x77_3).f3)⟩ : S39) [.int .i64 ((rd_T39 l0 x77_3).f0), .int .i64 ((rd_T39 l0 x77_3).f1), .int .i64 x130002_59, .int .i64 (rd x6_2 ((rd_T39 l0 x77_3).f3))] (fun k_ => k_ ≠ gb129) (fun _ => False) rfl (by first | (go_simp; done) | (go_simp; rfl)) ?aP (fun _ hk => hk.elim) ?aF ?aO ?aB ?aS ?aL ?_; (case aP => exact k39_mkM _ _ _ (⟨((rd_T39 l0 x77_3).f0), ((rd_T39 l0 x77_3).f1), x130002_59, rd x6_2 ((rd_T39 l0 x77_3).f3)⟩ : S39)); (case aB => exact (hb_ HB.out)); (case aF => exact (fun k_ hk => Kd.freshB (g := gb129) (o := .cells #[.int .i64 ((rd_T39 l0 x77_3).f0), .int .i64 ((rd_T39 l0 x77_3).f1), .int .i64 x130002_59, .int .i64 (rd x6_2 ((rd_T39 l0 x77_3).f3))] 39 (0, 0)) (by (with_reducible repeat (first | refine blk_drewN ?_ _ | refine blk_drew ?_ | refine blk_alloc ?_ _)); refine blk_put (cs := #[.int .i64 ((rd_T39 l0 x77_3).f0), .int .i64 ((rd_T39 l0 x77_3).f1), .int .i64 x130002_59, .int .i64 ((rd_T39 l0 x77_3).f3)]) ?_ 3 _ rfl; (with_reducible repeat (first | refine blk_drewN ?_ _ | refine blk_drew ?_ | refine blk_alloc ?_ _)); exact BK129.out) k_ hk)); (case aO => exact (by (with_reducible repeat (first | apply Kd.R_alloc | apply Kd.R_drewN | apply Kd.R_drew)); exact Kd.R_mono (Kd.R_far (p := ⟨gb129, 3, none⟩) (Kd.R_mono HO_10.out (fun k_ hk => (⟨hk, hk⟩ : _ ∧ k_ ≠ gb129))) (fun _ hk => hk.2) (.int .i64 (rd x6_2 ((rd_T39 l0 x77_3).f3)))) (fun _ hk => hk.1))); (case aS => exact (below_size (hb_ HB.out))); (case aL => have := LMc71.out; omega); intro v134 w74 ho hb hg hat; rw [← Ny133.out] at ho; have n0_ := Aside0.mk (Kd.R_over' (by (with_reducible repeat (first | apply Kd.R_alloc | apply Kd.R_drewN | apply Kd.R_drew)); exact (Kd.R_mono (Kd.R_far (p := ⟨gb129, 3, none⟩) (Kd.R_types HO_3.out BK129.out (by decide)) (fun _ hk => hk.2) (.int .i64 (rd x6_2 ((rd_T39 l0 x77_3).f3)))) (fun _ h_ => h_.1))) (Kd.R_typed (by (with_reducible repeat (first | apply Kd.R_alloc | apply Kd.R_drewN | apply Kd.R_drew)); exact (Kd.R_mono (Kd.R_far (p := ⟨gb129, 3, none⟩) (Kd.R_mono HO_10.out (fun k_ hk => (⟨hk, hk⟩ : _ ∧ k_ ≠ gb129))) (fun _ hk => hk.2) (.int .i64 (rd x6_2 ((rd_T39 l0 x77_3).f3)))) (fun _ h_ => h_.1)))) (by decide) hg); have n1_ := Aside0.mk (Kd.R_over' (by (with_reducible repeat (first | apply Kd.R_alloc | apply Kd.R_drewN | apply Kd.R_drew)); exact (Kd.R_mono (Kd.R_far (p := ⟨gb129, 3, none⟩) (Kd.R_types HO_6.out BK129.out (by decide)) (fun _ hk => hk.2) (.int .i64 (rd x6_2 ((rd_T39 l0 x77_3).f3)))) (fun _ h_ => h_.1))) (Kd.R_typed (by (with_reducible repeat (first | apply Kd.R_alloc | apply Kd.R_drewN | apply Kd.R_drew)); exact (Kd.R_mono (Kd.R_far (p := ⟨gb129, 3, none⟩) (Kd.R_mono HO_10.out (fun k_ hk => (⟨hk, hk⟩ : _ ∧ k_ ≠ gb129))) (fun _ hk => hk.2) (.int .i64 (rd x6_2 ((rd_T39 l0 x77_3).f3)))) (fun _ h_ => h_.1)))) (by decide) hg); have n2_ := Aside0.mk (blk_grown (g := gb129) (o := .cells #[.int .i64 ((rd_T39 l0 x77_3).f0), .int .i64 ((rd_T39 l0 x77_3).f1), .int .i64 x130002_59, .int .i64 (rd x6_2 ((rd_T39 l0 x77_3).f3))] 39 (0, 0)) (by (with_reducible repeat (first | refine blk_drewN ?_ _ | refine blk_drew ?_ | refine blk_alloc ?_ _)); refine blk_put (cs := #[.int .i64 ((rd_T39 l0 x77_3).f0), .int .i64 ((rd_T39 l0 x77_3).f1), .int .i64 x130002_59, .int .i64 ((rd_T39 l0 x77_3).f3)]) ?_ 3 _ rfl; (with_reducible repeat (first | refine blk_drewN ?_ _ | refine blk_drew ?_ | refine blk_alloc ?_ _)); exact BK129.out) hg (Kd.R_away HO_10.out (fun _ hk => hk))); have n3_ := Aside0.mk (hb); have n4_ := Aside0.mk (ho); clear HO_3; clear HO_6; clear BK129; clear HB; clear HO_10; have HO_3 := n0_; have HO_6 := n1_; have BK129 := n2_; have HB := n3_; have HO135 := n4_; clear n0_ n1_ n2_ n3_ n4_; clear ho hb hg hat))
                         go_roundg kj59
                         case measure => have := HK1.out; have := HK2.out; have := HK3.out; have := HJ59.out; omega
                         case rel => exact ⟨(y133), (wrap64 (x77_3 + 1)), (by first | rfl | (simp; done) | (simp [*]; done)), H', ⟨by have := HK1.out; have := HK2.out; have := HK3.out; have := HJ59.out; omega⟩, ⟨by (try simp only [hl3_1]); (with_reducible repeat (first | apply Kd.R_alloc | apply Kd.R_drewN | apply Kd.R_drew)); exact HO_3.out⟩, ⟨by (try simp only [hl3_1]); (with_reducible repeat (first | apply Kd.R_alloc | apply Kd.R_drewN | apply Kd.R_drew)); exact HO_6.out⟩, ⟨by (try simp only [hl3_1]); (with_reducible repeat (first | apply Kd.R_alloc | apply Kd.R_drewN | apply Kd.R_drew)); exact Kd.R_mono HO135.out (fun _ hk => trivial)⟩, ⟨by repeat (first | (with_reducible first | exact HB.out | apply below_alloc | apply pw_below_drewN | apply below_drew1 | refine below_set ?_ GE129.out) | exact HB.out)⟩⟩
                        ·rw [if_neg c71] at H
                         exact absurd H (by simp)
                       ·rw [if_neg c70] at H
                        exact absurd H (by simp)
                      ·rw [if_neg c69] at H
                       exact absurd H (by simp)
                     ·rw [if_neg c68] at H
                      have c68b0 : (((rd_T39 l0 x77_3).f0) == 2) = false := beq_eq_false_iff_ne.mpr c68
                      have c68b1 : (((rd_T39 l0 x77_3).f0) != 2) = true := bne_iff_ne.mpr c68
                      by_cases c75 : x10_3.length < 4398046511104
                      ·rw [if_pos c75] at H
                       have LMc75 := Aside0.mk c75
                       clear c75
                       obtain ⟨y136, hy136⟩ : ∃ y_ : List (S39), y_ = (x10_3 ++ [(⟨((rd_T39 l0 x77_3).f0), ((rd_T39 l0 x77_3).f1), x130002_59, ((rd_T39 l0 x77_3).f3)⟩ : S39)]) := ⟨_, rfl⟩
                       replace H : (comfitref06_Fewer.l3 kj59 x3_1 x6_2 y136 l0 (l0.length : Int) (wrap64 (x77_3 + 1))) = some r := by first | (rw [hy136]; with_reducible exact H) | (have H2_ := (Option.bind_some _ _).symm.trans H; rw [hy136]; with_reducible exact H2_) | (have H2_ := (Option.bind_some _ _).symm.trans H; with_reducible exact H2_) | with_reducible exact H | (rw [hy136]; exact H) | exact H
                       have Ny136 := Aside0.mk hy136
                       clear hy136
                       have H' := Aside0.mk H
                       clear H
                       have hcz76_0 : wc.cell? ⟨gb129, 0, none⟩ = some (.int .i64 ((rd_T39 l0 x77_3).f0)) := (blk_cell BK129.out 0).trans rfl
                       have hcz76_1 : wc.cell? ⟨gb129, 1, none⟩ = some (.int .i64 ((rd_T39 l0 x77_3).f1)) := (blk_cell BK129.out 1).trans rfl
                       have hcz76_2 : wc.cell? ⟨gb129, 2, none⟩ = some (.int .i64 x130002_59) := (blk_cell BK129.out 2).trans rfl
                       have hcz76_3 : wc.cell? ⟨gb129, 3, none⟩ = some (.int .i64 ((rd_T39 l0 x77_3).f3)) := (blk_cell BK129.out 3).trans rfl
                       have hfz76_0 := blk_frozen BK129.out 0
                       have hfz76_1 := blk_frozen BK129.out 1
                       have hfz76_2 := blk_frozen BK129.out 2
                       have hfz76_3 := blk_frozen BK129.out 3
                       go_wp2_with (first | ((with_reducible refine gate_builtin (b := .append) (xs := #[.tmp 105, .tmp 107]) rfl ?_); at_builtin; refine Kd.R_append k39 (w0 := w) w.heap.size rfl (.tmp 105) (.tmp 107) 22 39 (.agg #[(.int .i64 0), (.int .i64 0), (.int .i64 0), (.int .i64 0)]) 32 rfl Try.underlying22 info39 rfl (by decide) (by omega) u10 x10_3 (⟨((rd_T39 l0 x77_3).f0), ((rd_T39 l0 x77_3).f1), x130002_59, ((rd_T39 l0 x77_3).f3)⟩ : S39) [.int .i64 ((rd_T39 l0 x77_3).f0), .int .i64 ((rd_T39 l0 x77_3).f1), .int .i64 x130002_59, .int .i64 ((rd_T39 l0 x77_3).f3)] (fun k_ => k_ ≠ gb129) (fun _ => False) rfl rfl ?aP (fun _ hk => hk.elim) ?aF ?aO ?aB ?aS ?aL ?_; (case aP => exact k39_mkM _ _ _ (⟨((rd_T39 l0 x77_3).f0), ((rd_T39 l0 x77_3).f1), x130002_59, ((rd_T39 l0 x77_3).f3)⟩ : S39)); (case aB => exact (hb_ HB.out)); (case aF => exact (fun k_ hk => Kd.freshB (g := gb129) (o := .cells #[.int .i64 ((rd_T39 l0 x77_3).f0), .int .i64 ((rd_T39 l0 x77_3).f1), .int .i64 x130002_59, .int .i64 ((rd_T39 l0 x77_3).f3)] 39 (0, 0)) (bk_ BK129.out) k_ hk)); (case aO => exact (kr_ (HO_10.out))); (case aS => exact (below_size (hb_ HB.out))); (case aL => have := LMc75.out; omega); intro v137 w77 ho hb hg hat; rw [← Ny136.out] at ho; have n0_ := Aside0.mk (Kd.R_over' (kr_ (HO_3.out)) (Kd.R_typed (kr_ (HO_10.out))) (by decide) hg); have n1_ := Aside0.mk (Kd.R_over' (kr_ (HO_6.out)) (Kd.R_typed (kr_ (HO_10.out))) (by decide) hg); have n2_ := Aside0.mk (blk_grown (g := gb129) (o := .cells #[.int .i64 ((rd_T39 l0 x77_3).f0), .int .i64 ((rd_T39 l0 x77_3).f1), .int .i64 x130002_59, .int .i64 ((rd_T39 l0 x77_3).f3)] 39 (0, 0)) (bk_ BK129.out) hg (Kd.R_away HO_10.out (fun _ hk => hk))); have n3_ := Aside0.mk (hb); have n4_ := Aside0.mk (ho); clear HO_3; clear HO_6; clear BK129; clear HB; clear HO_10; have HO_3 := n0_; have HO_6 := n1_; have BK129 := n2_; have HB := n3_; have HO138 := n4_; clear n0_ n1_ n2_ n3_ n4_; clear ho hb hg hat))
                       go_roundg kj59
                       case measure => have := HK1.out; have := HK2.out; have := HK3.out; have := HJ59.out; omega
                       case rel => exact ⟨(y136), (wrap64 (x77_3 + 1)), (by first | rfl | (simp; done) | (simp [*]; done)), H', ⟨by have := HK1.out; have := HK2.out; have := HK3.out; have := HJ59.out; omega⟩, ⟨by (try simp only [hl3_1]); (with_reducible repeat (first | apply Kd.R_alloc | apply Kd.R_drewN | apply Kd.R_drew)); exact HO_3.out⟩, ⟨by (try simp only [hl3_1]); (with_reducible repeat (first | apply Kd.R_alloc | apply Kd.R_drewN | apply Kd.R_drew)); exact HO_6.out⟩, ⟨by (try simp only [hl3_1]); (with_reducible repeat (first | apply Kd.R_alloc | apply Kd.R_drewN | apply Kd.R_drew)); exact Kd.R_mono HO138.out (fun _ hk => trivial)⟩, ⟨by repeat (first | (with_reducible first | exact HB.out | apply below_alloc | apply pw_below_drewN | apply below_drew1 | refine below_set ?_ GE129.out) | exact HB.out)⟩⟩
                      ·rw [if_neg c75] at H
                       exact absurd H (by simp)
                  ·replace c59 := Bool.eq_false_iff.mpr c59
                   subst c59
                   have H1 : (comfitref06_Fewer.l3 k3 x3_1 x6_2 x10_3 l0 (l0.length : Int) (wrap64 (x77_3 + 1))) = some r := by rw [if_neg (show ¬ (false = true) by decide)] at H; exact H
                   clear H
                   have H := H1
                   clear H1
                   have H' := Aside0.mk H
                   clear H
                   have p128 : 0 ≤ (x77_3 : Int) := of_decide_eq_true (by first | (with_reducible assumption) | assumption)
                   have q128 : x77_3 < (l0.length : Int) := of_decide_eq_true (by first | (with_reducible assumption) | assumption)
                   obtain ⟨ad128, e128, hx128_0, hx128_1, hx128_2, hx128_3⟩ := at_T39 HR0.out x77_3 p128 q128
                   cases e128
                   replace hx128_0 := (HB.out.cell (World.block_lt_of_cell? w _ hx128_0)).trans hx128_0
                   replace hx128_1 := (HB.out.cell (World.block_lt_of_cell? w _ hx128_1)).trans hx128_1
                   replace hx128_2 := (HB.out.cell (World.block_lt_of_cell? w _ hx128_2)).trans hx128_2
                   replace hx128_3 := (HB.out.cell (World.block_lt_of_cell? w _ hx128_3)).trans hx128_3
                   replace p128 := eq_true p128
                   replace q128 := eq_true q128
                   go_wp2_with (first | ((with_reducible refine gate_dst (N := 12) rfl ?_); refine box_event ?hg (N := 12) ?hd (cs := #[.int .i64 0, .int .i64 0, .int .i64 0, .int .i64 0]) (t := 39) ?hr ?_; (case hd => rfl); (case hg => rfl); (case hr => first | (go_simp; done) | (go_simp; rfl)); intro gb129 hg w78 hbox hb; have n0_ := Aside0.mk (Kd.R_below (kr_ (HO_3.out)) hb); have n1_ := Aside0.mk (Kd.R_below (kr_ (HO_6.out)) hb); have n2_ := Aside0.mk (Kd.R_below (Kd.R_elderB (kr_ (HO_10.out)) gb129 (Nat.le_of_eq hg.symm)) hb); have n3_ := Aside0.mk (below_step (hb_ HB.out) hb); have n4_ := Aside0.mk (hbox); have n5_ := Aside0.mk ((by rw [hg]; exact (below_size (hb_ HB.out)) : w.heap.size ≤ gb129)); have n6_ := Aside0.mk ((by rw [hg]; exact (below_size (hb_ HB.out)) : w.heap.size ≤ gb129)); clear HO_3; clear HO_6; clear HO_10; clear HB; have HO_3 := n0_; have HO_6 := n1_; have HO_10 := n2_; have HB := n3_; have BK129 := n4_; have GW129 := n5_; have GE129 := n6_; clear n0_ n1_ n2_ n3_ n4_ n5_ n6_; clear hb hbox hg; have hcz79_0 : w78.cell? ⟨gb129, 0, none⟩ = some (.int .i64 0) := (blk_cell BK129.out 0).trans rfl; have hcz79_1 : w78.cell? ⟨gb129, 1, none⟩ = some (.int .i64 0) := (blk_cell BK129.out 1).trans rfl; have hcz79_2 : w78.cell? ⟨gb129, 2, none⟩ = some (.int .i64 0) := (blk_cell BK129.out 2).trans rfl; have hcz79_3 : w78.cell? ⟨gb129, 3, none⟩ = some (.int .i64 0) := (blk_cell BK129.out 3).trans rfl; have hfz79_0 := blk_frozen BK129.out 0; have hfz79_1 := blk_frozen BK129.out 1; have hfz79_2 := blk_frozen BK129.out 2; have hfz79_3 := blk_frozen BK129.out 3; have p130 : 0 ≤ (x77_3 : Int) := of_decide_eq_true (by first | (with_reducible assumption) | assumption); have q130 : x77_3 < (x3_1.length : Int) := of_decide_eq_true (by first | (with_reducible assumption) | assumption); obtain ⟨ad130, e130, hx130_0⟩ := Kd.at_bool (Kd.R_reads' HO_3.out).2.2 x77_3 p130 q130; (try rw [← Nbq58.out] at hx130_0); obtain rfl : (⟨go5, 0, none⟩ : Addr) = ad130 := (by injection e130); (first | simp only [add_plain] at hx130_0 | simp only [add_at] at hx130_0 | simp only [Addr.add, Nat.zero_add] at hx130_0 | skip); have hn130_0 : (⟨go5, 0, none⟩ : Addr).block ≠ gb129 := Kd.own_blk (Kd.R_ne HO_3.out BK129.out (by decide)); have hn130_1 : (⟨go5, 0, none⟩ : Addr).block ≠ gb129 := Kd.own_blk (Kd.R_ne HO_3.out BK129.out (by decide)); have hn130_2 : (⟨go5, 0, none⟩ : Addr).block ≠ gb129 := Kd.own_blk (Kd.R_ne HO_3.out BK129.out (by decide)); have hn130_3 : (⟨go5, 0, none⟩ : Addr).block ≠ gb129 := Kd.own_blk (Kd.R_ne HO_3.out BK129.out (by decide)); replace hx130_0 := (cell_far (p := ⟨gb129, 0, none⟩) (by first | (rw [add_block]; exact hn130_0) | (show (Addr.add _ _).block ≠ _; rw [add_block]; exact hn130_0) | exact hn130_0) (.int .i64 ((rd_T39 l0 x77_3).f0))).trans hx130_0; replace hx130_0 := (cell_far (p := ⟨gb129, 1, none⟩) (by first | (rw [add_block]; exact hn130_1) | (show (Addr.add _ _).block ≠ _; rw [add_block]; exact hn130_1) | exact hn130_1) (.int .i64 ((rd_T39 l0 x77_3).f1))).trans hx130_0; replace hx130_0 := (cell_far (p := ⟨gb129, 2, none⟩) (by first | (rw [add_block]; exact hn130_2) | (show (Addr.add _ _).block ≠ _; rw [add_block]; exact hn130_2) | exact hn130_2) (.int .i64 ((rd_T39 l0 x77_3).f2))).trans hx130_0; replace hx130_0 := (cell_far (p := ⟨gb129, 3, none⟩) (by first | (rw [add_block]; exact hn130_3) | (show (Addr.add _ _).block ≠ _; rw [add_block]; exact hn130_3) | exact hn130_3) (.int .i64 ((rd_T39 l0 x77_3).f3))).trans hx130_0; clear hn130_0; clear hn130_1; clear hn130_2; clear hn130_3; replace p130 := eq_true p130; replace q130 := eq_true q130))
                   go_roundg k3
                   case measure => have := HK1.out; have := HK2.out; have := HK3.out; omega
                   case rel => exact ⟨(x10_3), (wrap64 (x77_3 + 1)), (by first | rfl | (simp; done) | (simp [*]; done)), H', ⟨by have := HK1.out; have := HK2.out; have := HK3.out; omega⟩, ⟨by (try simp only [hl3_1]); (with_reducible repeat (first | apply Kd.R_alloc | apply Kd.R_drewN | apply Kd.R_drew)); exact Kd.R_mono (Kd.R_far (p := ⟨gb129, 3, none⟩) (Kd.R_far (p := ⟨gb129, 2, none⟩) (Kd.R_far (p := ⟨gb129, 1, none⟩) (Kd.R_far (p := ⟨gb129, 0, none⟩) (Kd.R_types HO_3.out BK129.out (by decide)) (fun _ hk => hk.2) (.int .i64 ((rd_T39 l0 x77_3).f0))) (fun _ hk => hk.2) (.int .i64 ((rd_T39 l0 x77_3).f1))) (fun _ hk => hk.2) (.int .i64 ((rd_T39 l0 x77_3).f2))) (fun _ hk => hk.2) (.int .i64 ((rd_T39 l0 x77_3).f3))) (fun _ hk => trivial)⟩, ⟨by (try simp only [hl3_1]); (with_reducible repeat (first | apply Kd.R_alloc | apply Kd.R_drewN | apply Kd.R_drew)); exact Kd.R_mono (Kd.R_far (p := ⟨gb129, 3, none⟩) (Kd.R_far (p := ⟨gb129, 2, none⟩) (Kd.R_far (p := ⟨gb129, 1, none⟩) (Kd.R_far (p := ⟨gb129, 0, none⟩) (Kd.R_types HO_6.out BK129.out (by decide)) (fun _ hk => hk.2) (.int .i64 ((rd_T39 l0 x77_3).f0))) (fun _ hk => hk.2) (.int .i64 ((rd_T39 l0 x77_3).f1))) (fun _ hk => hk.2) (.int .i64 ((rd_T39 l0 x77_3).f2))) (fun _ hk => hk.2) (.int .i64 ((rd_T39 l0 x77_3).f3))) (fun _ hk => trivial)⟩, ⟨by (try simp only [hl3_1]); (with_reducible repeat (first | apply Kd.R_alloc | apply Kd.R_drewN | apply Kd.R_drew)); exact Kd.R_mono (Kd.R_far (p := ⟨gb129, 3, none⟩) (Kd.R_far (p := ⟨gb129, 2, none⟩) (Kd.R_far (p := ⟨gb129, 1, none⟩) (Kd.R_far (p := ⟨gb129, 0, none⟩) (Kd.R_mono HO_10.out (fun k_ hk => (⟨hk, hk.2⟩ : _ ∧ k_ ≠ gb129))) (fun _ hk => hk.2) (.int .i64 ((rd_T39 l0 x77_3).f0))) (fun _ hk => hk.2) (.int .i64 ((rd_T39 l0 x77_3).f1))) (fun _ hk => hk.2) (.int .i64 ((rd_T39 l0 x77_3).f2))) (fun _ hk => hk.2) (.int .i64 ((rd_T39 l0 x77_3).f3))) (fun _ hk => trivial)⟩, ⟨by repeat (first | (with_reducible first | exact HB.out | apply below_alloc | apply pw_below_drewN | apply below_drew1 | refine below_set ?_ GE129.out) | exact HB.out)⟩⟩
                 ·rw [if_neg c57] at H
                  exact absurd H (by simp)
                ·rw [if_neg c56] at H
                 exact absurd H (by simp)
               ·rw [if_neg c55] at H
                exact absurd H (by simp)
              ·rw [if_neg c54] at H
               have c54b0 : decide (x77_3 < (l0.length : Int)) = false := decide_eq_false c54
               clear c54
               obtain rfl := Option.some.inj H
               go_wp2
               go_ret
               exact ⟨_, by first | rfl | (simp [errW_none, errW_some] <;> rfl) | (simp [*, errW_none, errW_some] <;> rfl), by (with_reducible repeat (first | apply Kd.R_alloc | apply Kd.R_drewN | apply Kd.R_drew)); exact HO_10.out, by repeat (first | (with_reducible first | exact HB.out | apply below_alloc | apply pw_below_drewN | apply below_drew1) | exact HB.out)⟩
        ·rw [if_neg c42] at H
         exact absurd H (by simp)
       ·rw [if_neg c41] at H
        exact absurd H (by simp)
   ·rw [if_neg c4] at H
    exact absurd H (by simp)
  ·rw [if_neg c3] at H
   exact absurd H (by simp)
 ·rw [if_neg c2] at H
  exact absurd H (by simp)

end Go.Proofs.Ytjmbjnobbeflfaa.X
