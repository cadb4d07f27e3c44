/- Written by a program of this session (wip/tools/xprint.py, which calls the kit's print): Go functions as Lean functions, and for each the proof that the machine's call does what it says; no conditions but those that each theorem names. -/
import Derived.Test.YtjmbjnobbeflfaaQX0
import Derived.Test.YtjmbjnobbeflfaaQXE
import Derived.Test.YtjmbjnobbeflfaaQXEq
import Derived.Test.YtjmbjnobbeflfaaQXG
import Derived.Test.YtjmbjnobbeflfaaQXM
import Derived.Test.YtjmbjnobbeflfaaQXO
import Derived.Test.YtjmbjnobbeflfaaQXS
import Derived.Test.YtjmbjnobbeflfaaQXcomfitlaw06TagsExchangedD
import Derived.Test.YtjmbjnobbeflfaaQXtagsAdds
import Derived.Test.YtjmbjnobbeflfaaQXtagsCircle
import Derived.Test.YtjmbjnobbeflfaaQHFewer
namespace Go.Proofs.Ytjmbjnobbeflfaa.X
open Go.RowKit Go.Proofs.YtjmbjnobbeflfaaW.PrintWords Go.Proofs.YtjmbjnobbeflfaaW.PrintLast Go.Proofs.YtjmbjnobbeflfaaW.PrintMore
attribute [local go_sem] max2_int min2_int max_two min_two max_three min_three max_four min_four   -- for this text's walks alone
set_option linter.unusedVariables false
set_option linter.unusedSimpArgs false

attribute [local go_sem high] eqA23
/-! ### comfitlaw06_TagsExchanged: function 9 -/
set_option maxHeartbeats 8000000 in
set_option maxRecDepth 100000 in
theorem comfitlaw06_TagsExchanged.calls (k : Nat) (A0 : Option Addr) (c0 : Nat) (l0 : List (S39)) (a1_0 : Int) (a1_1 : Int) (a2 : Int) (r : Bool) (w : World) (hr0 : Kd.C k39 w A0 l0.length l0) (hc0 : l0.length ≤ c0) (h : comfitlaw06_TagsExchanged.f k l0 a1_0 a1_1 a2 = some r) :
  Calls Try.prog 9 #[.slice A0 l0.length c0, .agg #[.int .i64 a1_0, .int .i64 a1_1], .int .i64 a2] w fun e w' => e = .returned (.bool r) ∧ Below w.heap.size w w' := by
 have hu23 := Try.underlying23
 have HR0 := Aside0.mk hr0
 have HC0 := Aside0.mk hc0
 clear hr0 hc0
 have HB := Aside0.mk (Below.refl w.heap.size w)
 have H : ((comfitref06_Machine.f k l0).bind fun t533 => (if t533 = true then ((comfitlaw06_Of.f k l0).bind fun t542 => (comfitlaw06_TagsExchanged.l0 k l0 a2 t542 (t542.length : Int) 0 a1_0 a1_1)) else ((comfitlaw06_Of.f k l0).bind fun t534 => ((tags_Fewer.f t534).bind fun bt537 => (if bt537.2 = 2 then ((comfitlaw06_awake.f k).bind fun t541 => (some t541)) else (none)))))) = some r := h
 clear h
 replace H := Option.bind_eq_some_iff.mp H
 obtain ⟨t533, A40, H⟩ := H
 replace H : (if t533 = true then ((comfitlaw06_Of.f k l0).bind fun t542 => (comfitlaw06_TagsExchanged.l0 k l0 a2 t542 (t542.length : Int) 0 a1_0 a1_1)) else ((comfitlaw06_Of.f k l0).bind fun t534 => ((tags_Fewer.f t534).bind fun bt537 => (if bt537.2 = 2 then ((comfitlaw06_awake.f k).bind fun t541 => (some t541)) else (none))))) = some r := H
 have A4 := Aside0.mk A40
 clear A40
 by_cases c5 : t533 = true
 ·subst c5
  have H1 : ((comfitlaw06_Of.f k l0).bind fun t542 => (comfitlaw06_TagsExchanged.l0 k l0 a2 t542 (t542.length : Int) 0 a1_0 a1_1)) = some r := by rw [if_pos rfl] at H; exact H
  clear H
  have H := H1
  clear H1
  replace H := Option.bind_eq_some_iff.mp H
  obtain ⟨t542, A60, H⟩ := H
  replace H : (comfitlaw06_TagsExchanged.l0 k l0 a2 t542 (t542.length : Int) 0 a1_0 a1_1) = some r := H
  have A6 := Aside0.mk A60
  clear A60
  have H' := Aside0.mk H
  clear H
  go_enter Try.func9, Try.ntmps9
  go_wp2_with (first | ((with_reducible refine gate_dst (N := 4) rfl ?_); refine box_event ?hg (N := 4) ?hd (cs := #[.int .i64 a1_0, .int .i64 a1_1]) (t := 23) ?hr ?_; (case hd => rfl); (case hg => rfl); (case hr => first | (go_simp; done) | (go_simp; rfl)); intro gb532 hg w7 hbox hb; have n0_ := Aside0.mk (below_step (hb_ HB.out) hb); have n1_ := Aside0.mk (hbox); have n2_ := Aside0.mk ((by rw [hg]; exact (below_size (hb_ HB.out)) : w.heap.size ≤ gb532)); have n3_ := Aside0.mk ((by rw [hg]; exact (below_size (hb_ HB.out)) : w.heap.size ≤ gb532)); clear HB; have HB := n0_; have BK532 := n1_; have GW532 := n2_; have GE532 := n3_; clear n0_ n1_ n2_ n3_; clear hb hbox hg) | ((with_reducible refine gate_callee (f := 12) rfl ?_); refine goesL_ (some 33) rfl rfl Try.func12 (by kernel_rfl) rfl #[.slice A0 l0.length c0] rfl al_ ?_; (with_reducible refine (comfitref06_Machine.calls k _ _ l0 true _ ?side1 ?side2 A4.out).mono ?_); (case side1 => exact kc_ (Kd.C_below HR0.out HB.out)); (case side2 => exact HC0.out); rintro e w8 ⟨rfl, hb⟩; refine ⟨_, rfl, ?_⟩; have n0_ := Aside0.mk (bkb_ BK532.out hb); have n1_ := Aside0.mk (below_step (hb_ HB.out) hb); clear BK532; clear HB; have BK532 := n0_; have HB := n1_; clear n0_ n1_; (try clear hb); (try clear hb2); (try clear hk); (try clear hi)) | ((with_reducible refine gate_callee (f := 11) rfl ?_); refine goesL_ (some 47) rfl rfl Try.func11 (by kernel_rfl) rfl #[.slice A0 l0.length c0] rfl al_ ?_; (with_reducible refine (comfitlaw06_Of.calls k _ _ l0 t542 _ ?side1 ?side2 A6.out).mono ?_); (case side1 => exact kc_ (Kd.C_below HR0.out HB.out)); (case side2 => exact HC0.out); rintro e w9 ⟨v543, rfl, ho0, hb⟩; refine ⟨_, rfl, ?_⟩; have n0_ := Aside0.mk (Kd.R_lower ho0 (below_size (hb_ HB.out))); have n1_ := Aside0.mk (bkb_ BK532.out hb); have n2_ := Aside0.mk (below_step (hb_ HB.out) hb); clear BK532; clear HB; have HO544 := n0_; have BK532 := n1_; have HB := n2_; clear n0_ n1_ n2_; (try clear hb); (try clear hb2); (try clear hk); (try clear hi); (try clear ho0); obtain ⟨Ao10, co10, eo10⟩ := Kd.R_slice HO544.out; subst eo10))
  go_loopg [50] k (fun kq v50 w' => ∃ (x9_1 : List (S57)) (x50_1 : Int), v50 = .int .i64 x50_1 ∧ Aside0 (comfitlaw06_TagsExchanged.l0 kq l0 a2 x9_1 (t542.length : Int) x50_1 a1_0 a1_1 = some r) ∧ Aside0 (kq ≤ k) ∧ Aside0 (Kd.R k57 57 w' w.heap.size (fun _ => True) (.slice Ao10 t542.length co10) x9_1) ∧ Aside0 (w'.heap[gb532]? = some (.cells #[.int .i64 a1_0, .int .i64 a1_1] 23 (0, 0))) ∧ Aside0 (Below w.heap.size w w'))
  case atStart => exact ⟨(t542), (0), (by first | rfl | (simp; done) | (simp [*]; done)), H', ⟨Nat.le_refl _⟩, ⟨by (with_reducible repeat (first | apply Kd.R_alloc | apply Kd.R_drewN | apply Kd.R_drew)); exact HO544.out⟩, ⟨by (with_reducible repeat (first | refine blk_drewN ?_ _ | refine blk_drew ?_ | refine blk_alloc ?_ _)); exact BK532.out⟩, ⟨by repeat (first | (with_reducible first | exact HB.out | apply below_alloc | apply pw_below_drewN | apply below_drew1 | refine below_set ?_ GE532.out) | exact HB.out)⟩⟩
  case round =>
   clear H'
   try clear c1
   try clear p2
   try clear c5
   try clear c9
   obtain ⟨x9_1, x50_1, rfl, HA, HK1, HO_9, BK532, HB⟩ := hrel
   have hl9_1 := (Kd.R_reads' HO_9.out).1
   rw [hl9_1] at HO_9
   (try simp only [hl9_1])
   (try simp only [hl9_1] at BK532)
   cases gk with
   | zero => exact absurd HA.out (by simp [comfitlaw06_TagsExchanged.l0])
   | succ k1 =>
    have H := HA.out
    clear HA
    simp only [comfitlaw06_TagsExchanged.l0] at H
    by_cases c11 : x50_1 < (t542.length : Int)
    ·rw [if_pos c11] at H
     have c11b0 : decide (x50_1 < (t542.length : Int)) = true := decide_eq_true c11
     (try (have c11b0h := c11b0; simp only [hl9_1] at c11b0h))
     clear c11
     by_cases c12 : 0 ≤ x50_1
     ·rw [if_pos c12] at H
      have c12b0 : decide (0 ≤ x50_1) = true := decide_eq_true c12
      (try (have c12b0h := c12b0; simp only [hl9_1] at c12b0h))
      clear c12
      by_cases c13 : x50_1 < (x9_1.length : Int)
      ·rw [if_pos c13] at H
       have c13b0 : decide (x50_1 < (x9_1.length : Int)) = true := decide_eq_true c13
       (try (have c13b0h := c13b0; simp only [hl9_1] at c13b0h))
       clear c13
       by_cases c14 : ((rd_T57 x9_1 x50_1).f0) > 0
       ·rw [if_pos c14] at H
        have c14b0 : decide (0 < ((rd_T57 x9_1 x50_1).f0)) = true := decide_eq_true c14
        (try (have c14b0h := c14b0; simp only [hl9_1] at c14b0h))
        clear c14
        obtain ⟨y547, hy547⟩ : ∃ y_ : List (S57), y_ = (x9_1.set (x50_1 : Int).toNat (⟨(rd_T57 x9_1 x50_1).f0, wrap64 (1 - ((rd_T57 x9_1 x50_1).f1)), (rd_T57 x9_1 x50_1).f2, (rd_T57 x9_1 x50_1).f3⟩ : S57)) := ⟨_, rfl⟩
        replace H : (comfitlaw06_TagsExchanged.l0 k1 l0 a2 y547 (t542.length : Int) (wrap64 (x50_1 + 1)) a1_0 a1_1) = some r := by first | (rw [hy547]; with_reducible exact H) | (have H2_ := (Option.bind_some _ _).symm.trans H; rw [hy547]; with_reducible exact H2_) | (have H2_ := (Option.bind_some _ _).symm.trans H; with_reducible exact H2_) | with_reducible exact H | (rw [hy547]; exact H) | exact H
        have Ny547 := Aside0.mk hy547
        clear hy547
        as_aux_lemma =>
         have H' := Aside0.mk H
         clear H
         have p545 : 0 ≤ (x50_1 : Int) := of_decide_eq_true (by first | (with_reducible assumption) | assumption)
         have q545 : x50_1 < (x9_1.length : Int) := of_decide_eq_true (by first | (with_reducible assumption) | assumption)
         obtain ⟨ad545, e545, hx545_0, hx545_1, hx545_2, hx545_3⟩ := at_T57 (Kd.R_reads' HO_9.out).2.2 x50_1 p545 q545
         cases e545
         replace p545 := eq_true p545
         replace q545 := eq_true q545
         have p546 : 0 ≤ (x50_1 : Int) := of_decide_eq_true (by first | (with_reducible assumption) | assumption)
         have q546 : x50_1 < (x9_1.length : Int) := of_decide_eq_true (by first | (with_reducible assumption) | assumption)
         obtain ⟨ad546, e546, hx546_0, hx546_1, hx546_2, hx546_3⟩ := at_T57 (Kd.R_reads' HO_9.out).2.2 x50_1 p546 q546
         obtain rfl : ad545 = ad546 := (by injection e546)
         replace p546 := eq_true p546
         replace q546 := eq_true q546
         have p15 : 0 ≤ (x50_1 : Int) := of_decide_eq_true (by first | (with_reducible assumption) | assumption)
         have q15 : (x50_1 : Int) < ((x9_1.length : Int) : Int) := of_decide_eq_true (by first | (with_reducible assumption) | assumption)
         obtain ⟨go15, co15, eo15, gb15, gl15, cl15, HG15⟩ := Kd.R_form HO_9.out (by omega)
         (first | cases eo15 | (injection eo15 with ea_ en_ ec_; (first | subst ea_ | (injection ea_ with ea_; subst ea_)); subst ec_; clear en_))
         have GB15 := Aside0.mk gb15
         have GG15 := Aside0.mk HG15
         clear gb15 gl15 HG15
         (first | simp only [add_plain] at hx545_0 | skip)
         (first | simp only [add_plain] at hx545_1 | skip)
         (first | simp only [add_plain] at hx545_2 | skip)
         (first | simp only [add_plain] at hx545_3 | skip)
         (first | simp only [add_plain] at hx546_0 | skip)
         (first | simp only [add_plain] at hx546_1 | skip)
         (first | simp only [add_plain] at hx546_2 | skip)
         (first | simp only [add_plain] at hx546_3 | skip)
         obtain ⟨ce15, hcl15, hM15, hcc15, hfr15⟩ := Kd.R_elem HO_9.out z57 (x50_1 : Int) p15 q15
         obtain rfl := k57_openM hM15
         have hx15_0 : wr.cell? ⟨go15, (x50_1 : Int).toNat * 4, none⟩ = some (.int .i64 ((rd_T57 x9_1 x50_1).f0)) := hcc15 0 _ rfl
         have hx15_1 : wr.cell? ⟨go15, (x50_1 : Int).toNat * 4 + 1, none⟩ = some (.int .i64 ((rd_T57 x9_1 x50_1).f1)) := hcc15 1 _ rfl
         have hx15_2 : wr.cell? ⟨go15, (x50_1 : Int).toNat * 4 + 2, none⟩ = some (.int .i64 ((rd_T57 x9_1 x50_1).f2)) := hcc15 2 _ rfl
         have hx15_3 : wr.cell? ⟨go15, (x50_1 : Int).toNat * 4 + 3, none⟩ = some (.int .i64 ((rd_T57 x9_1 x50_1).f3)) := hcc15 3 _ rfl
         have hf15_0 : wr.frozen? ⟨go15, (x50_1 : Int).toNat * 4, none⟩ = false := hfr15 0
         have hf15_1 : wr.frozen? ⟨go15, (x50_1 : Int).toNat * 4 + 1, none⟩ = false := hfr15 1
         have hf15_2 : wr.frozen? ⟨go15, (x50_1 : Int).toNat * 4 + 2, none⟩ = false := hfr15 2
         have hf15_3 : wr.frozen? ⟨go15, (x50_1 : Int).toNat * 4 + 3, none⟩ = false := hfr15 3
         clear hcl15 hcc15 hfr15 hM15
         replace p15 := eq_true p15
         replace q15 := eq_true q15
         have HX16 := Aside0.mk (show Kd.R k57 57 wr w.heap.size (fun _ => True) (.slice (some ⟨go15, 0, none⟩) x9_1.length co10) x9_1 from (kr_ (HO_9.out)))
         obtain ⟨ce16, hcl16, hM16, hcc16, hfr16⟩ := Kd.R_elem HX16.out z57 (x50_1 : Int) (of_decide_eq_true (by first | (with_reducible assumption) | assumption)) (by have h_ : (x50_1 : Int) < ((x9_1.length : Int) : Int) := of_decide_eq_true (by first | (with_reducible assumption) | assumption); first | exact h_ | (have e_ := (Kd.R_reads' HO_9.out).1; omega) | simpa using h_)
         obtain rfl := k57_openM hM16
         have HP16 := Kd.R_seg HX16.out (x50_1 : Int) (of_decide_eq_true (by first | (with_reducible assumption) | assumption)) (by have h_ : (x50_1 : Int) < ((x9_1.length : Int) : Int) := of_decide_eq_true (by first | (with_reducible assumption) | assumption); first | exact h_ | (have e_ := (Kd.R_reads' HO_9.out).1; omega) | simpa using h_) (seg := [.int .i64 (wrap64 (1 - ((rd_T57 x9_1 x50_1).f1)))]) (j := 1) hcl16 hcc16 (show 2 ≤ 4 from by decide) (x' := (⟨(rd_T57 x9_1 x50_1).f0, wrap64 (1 - ((rd_T57 x9_1 x50_1).f1)), (rd_T57 x9_1 x50_1).f2, (rd_T57 x9_1 x50_1).f3⟩ : S57)) (k57_mkM _ _ _ (⟨(rd_T57 x9_1 x50_1).f0, wrap64 (1 - ((rd_T57 x9_1 x50_1).f1)), (rd_T57 x9_1 x50_1).f2, (rd_T57 x9_1 x50_1).f3⟩ : S57) ) (fun _ hk => hk)
         have hx16_1 := hcc16 1 _ rfl
         (try simp only [show (k57).sz = 4 from rfl, Nat.mul_one, Nat.add_zero] at hx16_1)
         have hf16_1 := hfr16 1
         (try simp only [show (k57).sz = 4 from rfl, Nat.mul_one, Nat.add_zero] at hf16_1)
         clear hcl16 hcc16 hfr16 hM16
         go_wp2_with (first | ((with_reducible refine gate_store (t := 3) (p := 68) rfl ?_); refine store_event (t := 3) (p := 68) (v := ?vo_w17) (w1 := (wr.setCell ⟨go15, (x50_1 : Int).toNat * 4 + 1, none⟩ (.int .i64 (wrap64 (1 - ((rd_T57 x9_1 x50_1).f1)))))) ?hg ?ho ?hn ?hr ?_; (case ho => rfl); (case hg => rfl); (case hn => rfl); (case hr => first | (go_simp; done) | (go_simp; rfl)); intro w17 hw; have hg : wr.grownBy w17 (some go15) := (by rw [hw]; exact HP16.2); have hp_ : Kd.R k57 57 w17 w.heap.size (fun _ => True) (.slice (some ⟨go15, 0, none⟩) x9_1.length co10) y547 := (by rw [hw, Ny547.out]; exact HP16.1); clear HP16; have n0_ := Aside0.mk (hp_); have n1_ := Aside0.mk (blk_grown (g := gb532) (o := .cells #[.int .i64 a1_0, .int .i64 a1_1] 23 (0, 0)) (bk_ BK532.out) hg (Kd.R_ne HO_9.out BK532.out (by decide))); have n2_ := Aside0.mk ((by rw [hw]; exact below_set (HB.out) GB15.out : Below w.heap.size w w17)); clear HO_9; clear BK532; clear HB; have HO_9 := n0_; have BK532 := n1_; have HB := n2_; clear n0_ n1_ n2_; clear hg hw hp_))
         (try simp only [← hl9_1])
         go_roundg k1
         case measure => have := HK1.out; omega
         case rel => exact ⟨(y547), (wrap64 (x50_1 + 1)), (by first | rfl | (simp; done) | (simp [*]; done)), H', ⟨by have := HK1.out; omega⟩, ⟨by (try simp only [hl9_1]); (with_reducible repeat (first | apply Kd.R_alloc | apply Kd.R_drewN | apply Kd.R_drew)); exact HO_9.out⟩, ⟨by (try simp only [hl9_1]); (with_reducible repeat (first | refine blk_drewN ?_ _ | refine blk_drew ?_ | refine blk_alloc ?_ _)); exact BK532.out⟩, ⟨by repeat (first | (with_reducible first | exact HB.out | apply below_alloc | apply pw_below_drewN | apply below_drew1 | refine below_set ?_ GE532.out) | exact HB.out)⟩⟩
       ·rw [if_neg c14] at H
        have c14b0 : decide (0 < ((rd_T57 x9_1 x50_1).f0)) = false := decide_eq_false c14
        (try (have c14b0h := c14b0; simp only [hl9_1] at c14b0h))
        clear c14
        as_aux_lemma =>
         have H' := Aside0.mk H
         clear H
         have p545 : 0 ≤ (x50_1 : Int) := of_decide_eq_true (by first | (with_reducible assumption) | assumption)
         have q545 : x50_1 < (x9_1.length : Int) := of_decide_eq_true (by first | (with_reducible assumption) | assumption)
         obtain ⟨ad545, e545, hx545_0, hx545_1, hx545_2, hx545_3⟩ := at_T57 (Kd.R_reads' HO_9.out).2.2 x50_1 p545 q545
         cases e545
         replace p545 := eq_true p545
         replace q545 := eq_true q545
         go_wp2
         (try simp only [← hl9_1])
         go_roundg k1
         case measure => have := HK1.out; omega
         case rel => exact ⟨(x9_1), (wrap64 (x50_1 + 1)), (by first | rfl | (simp; done) | (simp [*]; done)), H', ⟨by have := HK1.out; omega⟩, ⟨by (try simp only [hl9_1]); (with_reducible repeat (first | apply Kd.R_alloc | apply Kd.R_drewN | apply Kd.R_drew)); exact HO_9.out⟩, ⟨by (try simp only [hl9_1]); (with_reducible repeat (first | refine blk_drewN ?_ _ | refine blk_drew ?_ | refine blk_alloc ?_ _)); exact BK532.out⟩, ⟨by repeat (first | (with_reducible first | exact HB.out | apply below_alloc | apply pw_below_drewN | apply below_drew1 | refine below_set ?_ GE532.out) | exact HB.out)⟩⟩
      ·rw [if_neg c13] at H
       exact absurd H (by simp)
     ·rw [if_neg c12] at H
      exact absurd H (by simp)
    ·rw [if_neg c11] at H
     have c11b0 : decide (x50_1 < (t542.length : Int)) = false := decide_eq_false c11
     (try (have c11b0h := c11b0; simp only [hl9_1] at c11b0h))
     clear c11
     replace H := Option.bind_eq_some_iff.mp H
     obtain ⟨t549, A180, H⟩ := H
     replace H : ((tags_Go.f k1 t549 a1_0 a1_1 a2).bind fun bt552 => ((tags_Order_28.f x9_1).bind fun t558 => ((tags_Go.f k1 t558 a1_1 a1_0 a2).bind fun bt561 => ((comfitlaw06_Of.f k1 l0).bind fun t567 => ((tags_Ends.f k1 t567 a1_0 a1_1).bind fun bt570 => ((tags_Order_28.f x9_1).bind fun t572 => ((tags_Ends.f k1 t572 a1_1 a1_0).bind fun bt575 => ((comfitlaw06_Of.f k1 l0).bind fun t577 => ((tags_Circle.f k1 t577 a1_0 a1_1).bind fun bt580 => ((tags_Order_28.f x9_1).bind fun t584 => ((tags_Circle.f k1 t584 a1_1 a1_0).bind fun bt587 => ((comfitlaw06_Of.f k1 l0).bind fun t591 => ((tags_Adds.f k1 t591 0).bind fun bt594 => ((tags_Adds.f k1 x9_1 1).bind fun bt596 => (if bt552.1 = bt561.1 then (if (bt552.2.1 == bt561.2.2.1 && (bt552.2.2.1 == bt561.2.1)) = true then (if bt552.2.2.2.1 = bt561.2.2.2.1 then (if bt552.2.2.2.2 = bt561.2.2.2.2 then (if bt570.1 = bt575.1 then (if bt570.2 = bt575.2 then (if (bt580.1 == bt587.1 && (bt580.2.1 == bt587.2.1)) = true then (if bt580.2.2 = bt587.2.2 then (if (bt594.1 == bt596.1) = true then (if bt594.2 = bt596.2 then ((comfitlaw06_awake.f k1).bind fun t598 => (some t598)) else (none)) else (none)) else (none)) else (none)) else (none)) else (none)) else (none)) else (none)) else (none)) else (none)))))))))))))))) = some r := H
     have A18 := Aside0.mk A180
     clear A180
     replace H := Option.bind_eq_some_iff.mp H
     obtain ⟨⟨t552, t553, t554, t555, t556⟩, A190, H⟩ := H
     replace H : ((tags_Order_28.f x9_1).bind fun t558 => ((tags_Go.f k1 t558 a1_1 a1_0 a2).bind fun bt561 => ((comfitlaw06_Of.f k1 l0).bind fun t567 => ((tags_Ends.f k1 t567 a1_0 a1_1).bind fun bt570 => ((tags_Order_28.f x9_1).bind fun t572 => ((tags_Ends.f k1 t572 a1_1 a1_0).bind fun bt575 => ((comfitlaw06_Of.f k1 l0).bind fun t577 => ((tags_Circle.f k1 t577 a1_0 a1_1).bind fun bt580 => ((tags_Order_28.f x9_1).bind fun t584 => ((tags_Circle.f k1 t584 a1_1 a1_0).bind fun bt587 => ((comfitlaw06_Of.f k1 l0).bind fun t591 => ((tags_Adds.f k1 t591 0).bind fun bt594 => ((tags_Adds.f k1 x9_1 1).bind fun bt596 => (if t552 = bt561.1 then (if (t553 == bt561.2.2.1 && (t554 == bt561.2.1)) = true then (if t555 = bt561.2.2.2.1 then (if t556 = bt561.2.2.2.2 then (if bt570.1 = bt575.1 then (if bt570.2 = bt575.2 then (if (bt580.1 == bt587.1 && (bt580.2.1 == bt587.2.1)) = true then (if bt580.2.2 = bt587.2.2 then (if (bt594.1 == bt596.1) = true then (if bt594.2 = bt596.2 then ((comfitlaw06_awake.f k1).bind fun t598 => (some t598)) else (none)) else (none)) else (none)) else (none)) else (none)) else (none)) else (none)) else (none)) else (none)) else (none))))))))))))))) = some r := H
     have A19 := Aside0.mk A190
     clear A190
     replace H := Option.bind_eq_some_iff.mp H
     obtain ⟨t558, A200, H⟩ := H
     replace H : ((tags_Go.f k1 t558 a1_1 a1_0 a2).bind fun bt561 => ((comfitlaw06_Of.f k1 l0).bind fun t567 => ((tags_Ends.f k1 t567 a1_0 a1_1).bind fun bt570 => ((tags_Order_28.f x9_1).bind fun t572 => ((tags_Ends.f k1 t572 a1_1 a1_0).bind fun bt575 => ((comfitlaw06_Of.f k1 l0).bind fun t577 => ((tags_Circle.f k1 t577 a1_0 a1_1).bind fun bt580 => ((tags_Order_28.f x9_1).bind fun t584 => ((tags_Circle.f k1 t584 a1_1 a1_0).bind fun bt587 => ((comfitlaw06_Of.f k1 l0).bind fun t591 => ((tags_Adds.f k1 t591 0).bind fun bt594 => ((tags_Adds.f k1 x9_1 1).bind fun bt596 => (if t552 = bt561.1 then (if (t553 == bt561.2.2.1 && (t554 == bt561.2.1)) = true then (if t555 = bt561.2.2.2.1 then (if t556 = bt561.2.2.2.2 then (if bt570.1 = bt575.1 then (if bt570.2 = bt575.2 then (if (bt580.1 == bt587.1 && (bt580.2.1 == bt587.2.1)) = true then (if bt580.2.2 = bt587.2.2 then (if (bt594.1 == bt596.1) = true then (if bt594.2 = bt596.2 then ((comfitlaw06_awake.f k1).bind fun t598 => (some t598)) else (none)) else (none)) else (none)) else (none)) else (none)) else (none)) else (none)) else (none)) else (none)) else (none)))))))))))))) = some r := H
     have A20 := Aside0.mk A200
     clear A200
     replace H := Option.bind_eq_some_iff.mp H
     obtain ⟨⟨t561, t562, t563, t564, t565⟩, A210, H⟩ := H
     replace H : ((comfitlaw06_Of.f k1 l0).bind fun t567 => ((tags_Ends.f k1 t567 a1_0 a1_1).bind fun bt570 => ((tags_Order_28.f x9_1).bind fun t572 => ((tags_Ends.f k1 t572 a1_1 a1_0).bind fun bt575 => ((comfitlaw06_Of.f k1 l0).bind fun t577 => ((tags_Circle.f k1 t577 a1_0 a1_1).bind fun bt580 => ((tags_Order_28.f x9_1).bind fun t584 => ((tags_Circle.f k1 t584 a1_1 a1_0).bind fun bt587 => ((comfitlaw06_Of.f k1 l0).bind fun t591 => ((tags_Adds.f k1 t591 0).bind fun bt594 => ((tags_Adds.f k1 x9_1 1).bind fun bt596 => (if t552 = t561 then (if (t553 == t563 && (t554 == t562)) = true then (if t555 = t564 then (if t556 = t565 then (if bt570.1 = bt575.1 then (if bt570.2 = bt575.2 then (if (bt580.1 == bt587.1 && (bt580.2.1 == bt587.2.1)) = true then (if bt580.2.2 = bt587.2.2 then (if (bt594.1 == bt596.1) = true then (if bt594.2 = bt596.2 then ((comfitlaw06_awake.f k1).bind fun t598 => (some t598)) else (none)) else (none)) else (none)) else (none)) else (none)) else (none)) else (none)) else (none)) else (none)) else (none))))))))))))) = some r := H
     have A21 := Aside0.mk A210
     clear A210
     replace H := Option.bind_eq_some_iff.mp H
     obtain ⟨t567, A220, H⟩ := H
     replace H : ((tags_Ends.f k1 t567 a1_0 a1_1).bind fun bt570 => ((tags_Order_28.f x9_1).bind fun t572 => ((tags_Ends.f k1 t572 a1_1 a1_0).bind fun bt575 => ((comfitlaw06_Of.f k1 l0).bind fun t577 => ((tags_Circle.f k1 t577 a1_0 a1_1).bind fun bt580 => ((tags_Order_28.f x9_1).bind fun t584 => ((tags_Circle.f k1 t584 a1_1 a1_0).bind fun bt587 => ((comfitlaw06_Of.f k1 l0).bind fun t591 => ((tags_Adds.f k1 t591 0).bind fun bt594 => ((tags_Adds.f k1 x9_1 1).bind fun bt596 => (if t552 = t561 then (if (t553 == t563 && (t554 == t562)) = true then (if t555 = t564 then (if t556 = t565 then (if bt570.1 = bt575.1 then (if bt570.2 = bt575.2 then (if (bt580.1 == bt587.1 && (bt580.2.1 == bt587.2.1)) = true then (if bt580.2.2 = bt587.2.2 then (if (bt594.1 == bt596.1) = true then (if bt594.2 = bt596.2 then ((comfitlaw06_awake.f k1).bind fun t598 => (some t598)) else (none)) else (none)) else (none)) else (none)) else (none)) else (none)) else (none)) else (none)) else (none)) else (none)))))))))))) = some r := H
     have A22 := Aside0.mk A220
     clear A220
     replace H := Option.bind_eq_some_iff.mp H
     obtain ⟨⟨t570, t571⟩, A230, H⟩ := H
     replace H : ((tags_Order_28.f x9_1).bind fun t572 => ((tags_Ends.f k1 t572 a1_1 a1_0).bind fun bt575 => ((comfitlaw06_Of.f k1 l0).bind fun t577 => ((tags_Circle.f k1 t577 a1_0 a1_1).bind fun bt580 => ((tags_Order_28.f x9_1).bind fun t584 => ((tags_Circle.f k1 t584 a1_1 a1_0).bind fun bt587 => ((comfitlaw06_Of.f k1 l0).bind fun t591 => ((tags_Adds.f k1 t591 0).bind fun bt594 => ((tags_Adds.f k1 x9_1 1).bind fun bt596 => (if t552 = t561 then (if (t553 == t563 && (t554 == t562)) = true then (if t555 = t564 then (if t556 = t565 then (if t570 = bt575.1 then (if t571 = bt575.2 then (if (bt580.1 == bt587.1 && (bt580.2.1 == bt587.2.1)) = true then (if bt580.2.2 = bt587.2.2 then (if (bt594.1 == bt596.1) = true then (if bt594.2 = bt596.2 then ((comfitlaw06_awake.f k1).bind fun t598 => (some t598)) else (none)) else (none)) else (none)) else (none)) else (none)) else (none)) else (none)) else (none)) else (none)) else (none))))))))))) = some r := H
     have A23 := Aside0.mk A230
     clear A230
     replace H := Option.bind_eq_some_iff.mp H
     obtain ⟨t572, A240, H⟩ := H
     replace H : ((tags_Ends.f k1 t572 a1_1 a1_0).bind fun bt575 => ((comfitlaw06_Of.f k1 l0).bind fun t577 => ((tags_Circle.f k1 t577 a1_0 a1_1).bind fun bt580 => ((tags_Order_28.f x9_1).bind fun t584 => ((tags_Circle.f k1 t584 a1_1 a1_0).bind fun bt587 => ((comfitlaw06_Of.f k1 l0).bind fun t591 => ((tags_Adds.f k1 t591 0).bind fun bt594 => ((tags_Adds.f k1 x9_1 1).bind fun bt596 => (if t552 = t561 then (if (t553 == t563 && (t554 == t562)) = true then (if t555 = t564 then (if t556 = t565 then (if t570 = bt575.1 then (if t571 = bt575.2 then (if (bt580.1 == bt587.1 && (bt580.2.1 == bt587.2.1)) = true then (if bt580.2.2 = bt587.2.2 then (if (bt594.1 == bt596.1) = true then (if bt594.2 = bt596.2 then ((comfitlaw06_awake.f k1).bind fun t598 => (some t598)) else (none)) else (none)) else (none)) else (none)) else (none)) else (none)) else (none)) else (none)) else (none)) else (none)))))))))) = some r := H
     have A24 := Aside0.mk A240
     clear A240
     replace H := Option.bind_eq_some_iff.mp H
     obtain ⟨⟨t575, t576⟩, A250, H⟩ := H
     replace H : ((comfitlaw06_Of.f k1 l0).bind fun t577 => ((tags_Circle.f k1 t577 a1_0 a1_1).bind fun bt580 => ((tags_Order_28.f x9_1).bind fun t584 => ((tags_Circle.f k1 t584 a1_1 a1_0).bind fun bt587 => ((comfitlaw06_Of.f k1 l0).bind fun t591 => ((tags_Adds.f k1 t591 0).bind fun bt594 => ((tags_Adds.f k1 x9_1 1).bind fun bt596 => (if t552 = t561 then (if (t553 == t563 && (t554 == t562)) = true then (if t555 = t564 then (if t556 = t565 then (if t570 = t575 then (if t571 = t576 then (if (bt580.1 == bt587.1 && (bt580.2.1 == bt587.2.1)) = true then (if bt580.2.2 = bt587.2.2 then (if (bt594.1 == bt596.1) = true then (if bt594.2 = bt596.2 then ((comfitlaw06_awake.f k1).bind fun t598 => (some t598)) else (none)) else (none)) else (none)) else (none)) else (none)) else (none)) else (none)) else (none)) else (none)) else (none))))))))) = some r := H
     have A25 := Aside0.mk A250
     clear A250
     replace H := Option.bind_eq_some_iff.mp H
     obtain ⟨t577, A260, H⟩ := H
     replace H : ((tags_Circle.f k1 t577 a1_0 a1_1).bind fun bt580 => ((tags_Order_28.f x9_1).bind fun t584 => ((tags_Circle.f k1 t584 a1_1 a1_0).bind fun bt587 => ((comfitlaw06_Of.f k1 l0).bind fun t591 => ((tags_Adds.f k1 t591 0).bind fun bt594 => ((tags_Adds.f k1 x9_1 1).bind fun bt596 => (if t552 = t561 then (if (t553 == t563 && (t554 == t562)) = true then (if t555 = t564 then (if t556 = t565 then (if t570 = t575 then (if t571 = t576 then (if (bt580.1 == bt587.1 && (bt580.2.1 == bt587.2.1)) = true then (if bt580.2.2 = bt587.2.2 then (if (bt594.1 == bt596.1) = true then (if bt594.2 = bt596.2 then ((comfitlaw06_awake.f k1).bind fun t598 => (some t598)) else (none)) else (none)) else (none)) else (none)) else (none)) else (none)) else (none)) else (none)) else (none)) else (none)))))))) = some r := H
     have A26 := Aside0.mk A260
     clear A260
     replace H := Option.bind_eq_some_iff.mp H
     obtain ⟨⟨t580, t581, t582⟩, A270, H⟩ := H
     replace H : ((tags_Order_28.f x9_1).bind fun t584 => ((tags_Circle.f k1 t584 a1_1 a1_0).bind fun bt587 => ((comfitlaw06_Of.f k1 l0).bind fun t591 => ((tags_Adds.f k1 t591 0).bind fun bt594 => ((tags_Adds.f k1 x9_1 1).bind fun bt596 => (if t552 = t561 then (if (t553 == t563 && (t554 == t562)) = true then (if t555 = t564 then (if t556 = t565 then (if t570 = t575 then (if t571 = t576 then (if (t580 == bt587.1 && (t581 == bt587.2.1)) = true then (if t582 = bt587.2.2 then (if (bt594.1 == bt596.1) = true then (if bt594.2 = bt596.2 then ((comfitlaw06_awake.f k1).bind fun t598 => (some t598)) else (none)) else (none)) else (none)) else (none)) else (none)) else (none)) else (none)) else (none)) else (none)) else (none))))))) = some r := H
     have A27 := Aside0.mk A270
     clear A270
     replace H := Option.bind_eq_some_iff.mp H
     obtain ⟨t584, A280, H⟩ := H
     replace H : ((tags_Circle.f k1 t584 a1_1 a1_0).bind fun bt587 => ((comfitlaw06_Of.f k1 l0).bind fun t591 => ((tags_Adds.f k1 t591 0).bind fun bt594 => ((tags_Adds.f k1 x9_1 1).bind fun bt596 => (if t552 = t561 then (if (t553 == t563 && (t554 == t562)) = true then (if t555 = t564 then (if t556 = t565 then (if t570 = t575 then (if t571 = t576 then (if (t580 == bt587.1 && (t581 == bt587.2.1)) = true then (if t582 = bt587.2.2 then (if (bt594.1 == bt596.1) = true then (if bt594.2 = bt596.2 then ((comfitlaw06_awake.f k1).bind fun t598 => (some t598)) else (none)) else (none)) else (none)) else (none)) else (none)) else (none)) else (none)) else (none)) else (none)) else (none)))))) = some r := H
     have A28 := Aside0.mk A280
     clear A280
     replace H := Option.bind_eq_some_iff.mp H
     obtain ⟨⟨t587, t588, t589⟩, A290, H⟩ := H
     replace H : ((comfitlaw06_Of.f k1 l0).bind fun t591 => ((tags_Adds.f k1 t591 0).bind fun bt594 => ((tags_Adds.f k1 x9_1 1).bind fun bt596 => (if t552 = t561 then (if (t553 == t563 && (t554 == t562)) = true then (if t555 = t564 then (if t556 = t565 then (if t570 = t575 then (if t571 = t576 then (if (t580 == t587 && (t581 == t588)) = true then (if t582 = t589 then (if (bt594.1 == bt596.1) = true then (if bt594.2 = bt596.2 then ((comfitlaw06_awake.f k1).bind fun t598 => (some t598)) else (none)) else (none)) else (none)) else (none)) else (none)) else (none)) else (none)) else (none)) else (none)) else (none))))) = some r := H
     have A29 := Aside0.mk A290
     clear A290
     replace H := Option.bind_eq_some_iff.mp H
     obtain ⟨t591, A300, H⟩ := H
     replace H : ((tags_Adds.f k1 t591 0).bind fun bt594 => ((tags_Adds.f k1 x9_1 1).bind fun bt596 => (if t552 = t561 then (if (t553 == t563 && (t554 == t562)) = true then (if t555 = t564 then (if t556 = t565 then (if t570 = t575 then (if t571 = t576 then (if (t580 == t587 && (t581 == t588)) = true then (if t582 = t589 then (if (bt594.1 == bt596.1) = true then (if bt594.2 = bt596.2 then ((comfitlaw06_awake.f k1).bind fun t598 => (some t598)) else (none)) else (none)) else (none)) else (none)) else (none)) else (none)) else (none)) else (none)) else (none)) else (none)))) = some r := H
     have A30 := Aside0.mk A300
     clear A300
     replace H := Option.bind_eq_some_iff.mp H
     obtain ⟨⟨t594, t595⟩, A310, H⟩ := H
     replace H : ((tags_Adds.f k1 x9_1 1).bind fun bt596 => (if t552 = t561 then (if (t553 == t563 && (t554 == t562)) = true then (if t555 = t564 then (if t556 = t565 then (if t570 = t575 then (if t571 = t576 then (if (t580 == t587 && (t581 == t588)) = true then (if t582 = t589 then (if (t594 == bt596.1) = true then (if t595 = bt596.2 then ((comfitlaw06_awake.f k1).bind fun t598 => (some t598)) else (none)) else (none)) else (none)) else (none)) else (none)) else (none)) else (none)) else (none)) else (none)) else (none))) = some r := H
     have A31 := Aside0.mk A310
     clear A310
     replace H := Option.bind_eq_some_iff.mp H
     obtain ⟨⟨t596, t597⟩, A320, H⟩ := H
     replace H : (if t552 = t561 then (if (t553 == t563 && (t554 == t562)) = true then (if t555 = t564 then (if t556 = t565 then (if t570 = t575 then (if t571 = t576 then (if (t580 == t587 && (t581 == t588)) = true then (if t582 = t589 then (if (t594 == t596) = true then (if t595 = t597 then ((comfitlaw06_awake.f k1).bind fun t598 => (some t598)) else (none)) else (none)) else (none)) else (none)) else (none)) else (none)) else (none)) else (none)) else (none)) else (none)) = some r := H
     have A32 := Aside0.mk A320
     clear A320
     by_cases c33 : t552 = t561
     ·rw [if_pos c33] at H
      have c33b0 : (t552 == t561) = true := beq_iff_eq.mpr c33
      have c33b1 : (t552 != t561) = false := bne_eq_false_iff_eq.mpr c33
      (try (have c33b0h := c33b0; simp only [hl9_1] at c33b0h))
      (try (have c33b1h := c33b1; simp only [hl9_1] at c33b1h))
      clear c33
      by_cases c34 : (t553 == t563 && (t554 == t562)) = true
      ·rw [if_pos c34] at H
       have c34b0 : (t553 == t563 && (t554 == t562)) = true := c34
       (try (have c34b1 : decide (t553 = t563 && (t554 == t562)) = true := by simpa using c34))
       (try (have c34b2 : (t553 == t563 && (t554 == t562)) = true := by simpa using c34))
       (try (have c34b0h := c34b0; simp only [hl9_1] at c34b0h))
       (try (have c34b1h := c34b1; simp only [hl9_1] at c34b1h))
       (try (have c34b2h := c34b2; simp only [hl9_1] at c34b2h))
       clear c34
       by_cases c35 : t555 = t564
       ·rw [if_pos c35] at H
        have c35b0 : (t555 == t564) = true := beq_iff_eq.mpr c35
        have c35b1 : (t555 != t564) = false := bne_eq_false_iff_eq.mpr c35
        (try (have c35b0h := c35b0; simp only [hl9_1] at c35b0h))
        (try (have c35b1h := c35b1; simp only [hl9_1] at c35b1h))
        clear c35
        by_cases c36 : t556 = t565
        ·rw [if_pos c36] at H
         have c36b0 : (t556 == t565) = true := beq_iff_eq.mpr c36
         have c36b1 : (t556 != t565) = false := bne_eq_false_iff_eq.mpr c36
         (try (have c36b0h := c36b0; simp only [hl9_1] at c36b0h))
         (try (have c36b1h := c36b1; simp only [hl9_1] at c36b1h))
         clear c36
         by_cases c37 : t570 = t575
         ·rw [if_pos c37] at H
          have c37b0 : (t570 == t575) = true := beq_iff_eq.mpr c37
          have c37b1 : (t570 != t575) = false := bne_eq_false_iff_eq.mpr c37
          (try (have c37b0h := c37b0; simp only [hl9_1] at c37b0h))
          (try (have c37b1h := c37b1; simp only [hl9_1] at c37b1h))
          clear c37
          by_cases c38 : t571 = t576
          ·rw [if_pos c38] at H
           have c38b0 : (t571 == t576) = true := beq_iff_eq.mpr c38
           have c38b1 : (t571 != t576) = false := bne_eq_false_iff_eq.mpr c38
           (try (have c38b0h := c38b0; simp only [hl9_1] at c38b0h))
           (try (have c38b1h := c38b1; simp only [hl9_1] at c38b1h))
           clear c38
           by_cases c39 : (t580 == t587 && (t581 == t588)) = true
           ·rw [if_pos c39] at H
            have c39b0 : (t580 == t587 && (t581 == t588)) = true := c39
            (try (have c39b1 : decide (t580 = t587 && (t581 == t588)) = true := by simpa using c39))
            (try (have c39b2 : (t580 == t587 && (t581 == t588)) = true := by simpa using c39))
            (try (have c39b0h := c39b0; simp only [hl9_1] at c39b0h))
            (try (have c39b1h := c39b1; simp only [hl9_1] at c39b1h))
            (try (have c39b2h := c39b2; simp only [hl9_1] at c39b2h))
            clear c39
            by_cases c40 : t582 = t589
            ·rw [if_pos c40] at H
             have c40b0 : (t582 == t589) = true := beq_iff_eq.mpr c40
             have c40b1 : (t582 != t589) = false := bne_eq_false_iff_eq.mpr c40
             (try (have c40b0h := c40b0; simp only [hl9_1] at c40b0h))
             (try (have c40b1h := c40b1; simp only [hl9_1] at c40b1h))
             clear c40
             by_cases c41 : (t594 == t596) = true
             ·rw [if_pos c41] at H
              have c41b0 : (t594 == t596) = true := c41
              (try (have c41b1 : decide (t594 = t596) = true := by simpa using c41))
              (try (have c41b2 : (t594 == t596) = true := by simpa using c41))
              (try (have c41b0h := c41b0; simp only [hl9_1] at c41b0h))
              (try (have c41b1h := c41b1; simp only [hl9_1] at c41b1h))
              (try (have c41b2h := c41b2; simp only [hl9_1] at c41b2h))
              clear c41
              by_cases c42 : t595 = t597
              ·rw [if_pos c42] at H
               have c42b0 : (t595 == t597) = true := beq_iff_eq.mpr c42
               have c42b1 : (t595 != t597) = false := bne_eq_false_iff_eq.mpr c42
               (try (have c42b0h := c42b0; simp only [hl9_1] at c42b0h))
               (try (have c42b1h := c42b1; simp only [hl9_1] at c42b1h))
               clear c42
               replace H := Option.bind_eq_some_iff.mp H
               obtain ⟨t598, A430, H⟩ := H
               replace H : (some t598) = some r := H
               have A43 := Aside0.mk A430
               clear A430
               as_aux_lemma =>
                obtain rfl := Option.some.inj H
                have hcz44_0 : wr.cell? ⟨gb532, 0, none⟩ = some (.int .i64 a1_0) := (blk_cell BK532.out 0).trans rfl
                have hcz44_1 : wr.cell? ⟨gb532, 1, none⟩ = some (.int .i64 a1_1) := (blk_cell BK532.out 1).trans rfl
                have hfz44_0 := blk_frozen BK532.out 0
                have hfz44_1 := blk_frozen BK532.out 1
                try go_wp2_with (first | ((with_reducible refine gate_dst (N := 11) rfl ?_); refine box_event ?hg (N := 11) ?hd (cs := #[.int .i64 0, .int .i64 0]) (t := 23) ?hr ?_; (case hd => rfl); (case hg => rfl); (case hr => first | (go_simp; done) | (go_simp; rfl)); intro gb548 hg w45 hbox hb; have n0_ := Aside0.mk (Kd.R_below (kr_ (HO_9.out)) hb); have n1_ := Aside0.mk (bkb_ BK532.out hb); have n2_ := Aside0.mk (below_step (hb_ HB.out) hb); have n3_ := Aside0.mk (hbox); have n4_ := Aside0.mk ((by rw [hg]; exact (below_size (hb_ HB.out)) : w.heap.size ≤ gb548)); have n5_ := Aside0.mk ((by rw [hg]; exact (below_size (hb_ HB.out)) : w.heap.size ≤ gb548)); have n6_ := Aside0.mk ((by rw [hg]; exact Nat.ne_of_lt (bkl_ BK532.out) : gb532 ≠ gb548)); have n7_ := Aside0.mk ((by rw [hg]; exact Nat.ne_of_gt (bkl_ BK532.out) : gb548 ≠ gb532)); clear HO_9; clear BK532; clear HB; have HO_9 := n0_; have BK532 := n1_; have HB := n2_; have BK548 := n3_; have GW548 := n4_; have GE548 := n5_; have NB532_548 := n6_; have NB548_532 := n7_; clear n0_ n1_ n2_ n3_ n4_ n5_ n6_ n7_; clear hb hbox hg; have hnb46 := NB548_532.out; have hnc46 := NB532_548.out; have hcz47_0 : w45.cell? ⟨gb548, 0, none⟩ = some (.int .i64 0) := (blk_cell BK548.out 0).trans rfl; have hcz47_1 : w45.cell? ⟨gb548, 1, none⟩ = some (.int .i64 0) := (blk_cell BK548.out 1).trans rfl; have hfz47_0 := blk_frozen BK548.out 0; have hfz47_1 := blk_frozen BK548.out 1))
                have n0_ : Aside0 (Kd.R k57 57 ((w45.setCell ⟨gb548, 0, none⟩ (.int .i64 a1_1)).setCell ⟨gb548, 1, none⟩ (.int .i64 a1_0)) w.heap.size (fun _ => True) (.slice Ao10 x9_1.length co10) x9_1) := ⟨by (with_reducible repeat (first | apply Kd.R_alloc | apply Kd.R_drewN | apply Kd.R_drew)); exact Kd.R_mono (Kd.R_far (p := ⟨gb548, 1, none⟩) (Kd.R_far (p := ⟨gb548, 0, none⟩) (Kd.R_types HO_9.out BK548.out (by decide)) (fun _ hk => hk.2) (.int .i64 a1_1)) (fun _ hk => hk.2) (.int .i64 a1_0)) (fun _ hk => trivial)⟩
                have n1_ : Aside0 (((w45.setCell ⟨gb548, 0, none⟩ (.int .i64 a1_1)).setCell ⟨gb548, 1, none⟩ (.int .i64 a1_0)).heap[gb532]? = some (.cells #[.int .i64 a1_0, .int .i64 a1_1] 23 (0, 0))) := ⟨by (with_reducible repeat (first | refine blk_drewN ?_ _ | refine blk_drew ?_ | refine blk_alloc ?_ _)); refine blk_far ?_ NB532_548.out _; (with_reducible repeat (first | refine blk_drewN ?_ _ | refine blk_drew ?_ | refine blk_alloc ?_ _)); refine blk_far ?_ NB532_548.out _; (with_reducible repeat (first | refine blk_drewN ?_ _ | refine blk_drew ?_ | refine blk_alloc ?_ _)); exact BK532.out⟩
                have n2_ : Aside0 (((w45.setCell ⟨gb548, 0, none⟩ (.int .i64 a1_1)).setCell ⟨gb548, 1, none⟩ (.int .i64 a1_0)).heap[gb548]? = some (.cells #[.int .i64 a1_1, .int .i64 a1_0] 23 (0, 0))) := ⟨by (with_reducible repeat (first | refine blk_drewN ?_ _ | refine blk_drew ?_ | refine blk_alloc ?_ _)); refine blk_put (cs := #[.int .i64 a1_1, .int .i64 0]) ?_ 1 _ rfl; (with_reducible repeat (first | refine blk_drewN ?_ _ | refine blk_drew ?_ | refine blk_alloc ?_ _)); refine blk_put (cs := #[.int .i64 0, .int .i64 0]) ?_ 0 _ rfl; (with_reducible repeat (first | refine blk_drewN ?_ _ | refine blk_drew ?_ | refine blk_alloc ?_ _)); exact BK548.out⟩
                have n3_ : Aside0 (Below w.heap.size w ((w45.setCell ⟨gb548, 0, none⟩ (.int .i64 a1_1)).setCell ⟨gb548, 1, none⟩ (.int .i64 a1_0))) := ⟨by repeat (first | (with_reducible first | exact HB.out | apply below_alloc | apply pw_below_drewN | apply below_drew1 | refine below_set ?_ GE532.out | refine below_set ?_ GE548.out) | exact HB.out)⟩
                (try clear HO_9)
                (try clear BK532)
                (try clear BK548)
                (try clear HB)
                generalize ((w45.setCell ⟨gb548, 0, none⟩ (.int .i64 a1_1)).setCell ⟨gb548, 1, none⟩ (.int .i64 a1_0)) = w48 at n0_ n1_ n2_ n3_ ⊢
                have HO_9 := n0_
                have BK532 := n1_
                have BK548 := n2_
                have HB := n3_
                clear n0_ n1_ n2_ n3_
                have n0_ := Aside0.mk (Kd.R_drew HO_9.out)
                have n1_ := Aside0.mk (blk_drew BK532.out)
                have n2_ := Aside0.mk (blk_drew BK548.out)
                have n3_ := Aside0.mk (below_drew1 HB.out)
                clear HO_9
                clear BK532
                clear BK548
                clear HB
                have HO_9 := n0_
                have BK532 := n1_
                have BK548 := n2_
                have HB := n3_
                clear n0_ n1_ n2_ n3_
                refine start_ (n := 15) (S := fun w' => w'.cell? ⟨gb532, 0, none⟩ = some (.int .i64 a1_0) ∧ w'.cell? ⟨gb532, 1, none⟩ = some (.int .i64 a1_1)) (ds := []) #[false, false, false, false, false, false, false, false, false, false, false, false, false, false, false] (by kernel_rfl) rfl rfl ⟨(blk_cell BK532.out 0).trans rfl, (blk_cell BK532.out 1).trans rfl⟩ (fun hHeld => ?_); refine with_tabW comfitlaw06_TagsExchanged.tab12 comfitlaw06_TagsExchanged.bits12 (fun HT_ HW_ => ?_)
                generalize w48.drew = w49 at HO_9 BK532 BK548 HB hHeld ⊢
                refine pure_ (i := 0) (N := some 76) (v := ?_) (a' := ?_) #[true, false, false, false, false, false, false, false, false, false, false, false, false, false, false] rfl rfl (any_of HT_.out (by kernel_rfl)) (fun _ _ _ h => h) (Or.inl ⟨by rfl, ?_⟩) ?_ ?_
                rotate_left
                ·intro w'
                 go_simp
                 with_reducible rfl
                rotate_left
                ·simp only [Act.put, List.setIfInBounds_toArray, List.set_cons_zero, List.set_cons_succ, i64_w, i32_w]
                 rfl
                refine pure_ (i := 3) (N := some 79) (v := ?_) (a' := ?_) #[true, false, false, true, false, false, false, false, false, false, false, false, false, false, false] rfl rfl (any_of HT_.out (by kernel_rfl)) (fun _ _ _ h => h) (Or.inl ⟨by rfl, ?_⟩) ?_ ?_
                rotate_left
                ·intro w'
                 go_simp
                 with_reducible rfl
                rotate_left
                ·simp only [Act.put, List.setIfInBounds_toArray, List.set_cons_zero, List.set_cons_succ, i64_w, i32_w]
                 rfl
                refine take_ (i := 2) (N := some 78) (v := ?_) (a' := ?_) #[true, false, true, true, false, false, false, false, false, false, false, false, false, false, false] rfl rfl (take_ofW HT_.out HW_.out (by kernel_rfl)) (fun _ _ _ h => h) (Or.inl ⟨by rfl, ?_⟩) hHeld ?_ ?_
                rotate_left
                ·rintro w' ⟨s0, s1⟩
                 go_simp
                 with_reducible rfl
                rotate_left
                ·simp only [Act.put, List.setIfInBounds_toArray, List.set_cons_zero, List.set_cons_succ, i64_w, i32_w]
                 rfl
                refine join_ (σ := Value × Nat) 4 #[true, true, true, true, true, true, true, true, true, true, true, false, false, false, false] (fun s_ => [(77, s_.1), (80, .tuple #[.int .i64 t552, .agg #[.int .i64 t553, .int .i64 t554], .int .i64 t555, .int .i64 t556]), (13, .pointer (some ⟨s_.2, 0, none⟩)), (75, .tuple #[.int .i64 t552, .agg #[.int .i64 t553, .int .i64 t554], .int .i64 t555, .int .i64 t556]), (81, .int .i64 t552), (82, .agg #[.int .i64 t553, .int .i64 t554]), (83, .int .i64 t555), (84, .int .i64 t556)]) (fun s_ w' => (w'.cell? ⟨gb532, 0, none⟩ = some (.int .i64 a1_0) ∧ w'.cell? ⟨gb532, 1, none⟩ = some (.int .i64 a1_1)) ∧ (Kd.R k57 57 w' w.heap.size (fun k_ => some k_ ≠ (.slice Ao10 x9_1.length co10 : Value).ownBlock) s_.1 t549) ∧ (Kd.R k57 57 w' w.heap.size (fun k_ => some k_ ≠ (s_.1 : Value).ownBlock) (.slice Ao10 x9_1.length co10) x9_1) ∧ (w'.heap[gb532]? = some (.cells #[.int .i64 a1_0, .int .i64 a1_1] 23 (0, 0))) ∧ (w'.heap[gb548]? = some (.cells #[.int .i64 a1_1, .int .i64 a1_0] 23 (0, 0))) ∧ (w'.heap[s_.2]? = some (.cells #[.int .i64 0, .int .i64 0] 23 (0, 0))) ∧ (w.heap.size ≤ s_.2) ∧ (w.heap.size ≤ s_.2) ∧ (gb532 ≠ s_.2) ∧ (s_.2 ≠ gb532) ∧ (gb548 ≠ s_.2) ∧ (s_.2 ≠ gb548) ∧ (Below w.heap.size w w')) ?_ ?_
                rotate_left
                ·intro hCont
                 refine two_ (i := 1) (j := 10) (Ni := some 77) (Nj := some 13) #[true, true, true, true, false, false, false, false, false, false, false, false, false, false, false] #[true, false, true, true, false, false, false, false, false, false, true, false, false, false, false] rfl rfl rfl rfl (two_of HT_.out (by kernel_rfl)) (by decide) (by decide) (fun K hK => ?_) (fun K hK => ?_)
                 ·skip
                  refine goes_ Try.func11 (by kernel_rfl) rfl #[.slice A0 l0.length c0] (by rfl) rfl rfl al_ ?_
                  with_reducible refine (comfitlaw06_Of.calls k1 _ _ l0 t549 _ ?side1 ?side2 A18.out).mono ?_
                  (case side1 => exact kc_ (Kd.C_below HR0.out HB.out))
                  (case side2 => exact HC0.out)
                  rintro e w50 ⟨v550, rfl, ho0, hb⟩
                  refine ⟨_, rfl, ?_⟩
                  have n0_ := Aside0.mk (Kd.R_elder' (kr_ (HO_9.out)) (Kd.R_base ho0) hb)
                  have n1_ := Aside0.mk (Kd.R_lower (Kd.R_new' ho0 (Kd.R_lt (kr_ (HO_9.out)))) (below_size (hb_ HB.out)))
                  have n2_ := Aside0.mk (bkb_ BK532.out hb)
                  have n3_ := Aside0.mk (bkb_ BK548.out hb)
                  have n4_ := Aside0.mk (below_step (hb_ HB.out) hb)
                  clear HO_9
                  clear BK532
                  clear BK548
                  clear HB
                  have HO_9 := n0_
                  have HO551 := n1_
                  have BK532 := n2_
                  have BK548 := n3_
                  have HB := n4_
                  clear n0_ n1_ n2_ n3_ n4_
                  (try clear hb)
                  (try clear hb2)
                  (try clear hk)
                  (try clear hi)
                  (try clear ho0)
                  obtain ⟨Ao51, co51, eo51⟩ := Kd.R_slice HO551.out
                  (first | subst eo51 | (injection eo51 with f1_ f2_ f3_; have f4_ := f1_.symm; have f5_ := f3_.symm; clear f1_ f2_ f3_; subst f4_; subst f5_))
                  refine hK.out _ _ ⟨(blk_cell BK532.out 0).trans rfl, (blk_cell BK532.out 1).trans rfl⟩ (fun hHeld => ?_)
                  clear hK K
                  refine norm_ (a' := ?_) ?_ ?_
                  rotate_left
                  ·show Act.put _ (some 77) _ = _
                   simp only [Act.put, List.setIfInBounds_toArray, List.set_cons_zero, List.set_cons_succ, i64_w, i32_w]
                   rfl
                  refine two_ (i := 4) (j := 10) (Ni := some 80) (Nj := some 13) #[true, true, true, true, true, false, false, false, false, false, false, false, false, false, false] #[true, true, true, true, false, false, false, false, false, false, true, false, false, false, false] rfl rfl rfl rfl (two_of HT_.out (by kernel_rfl)) (by decide) (by decide) (fun K hK => ?_) (fun K hK => ?_)
                  ·skip
                   refine goes_ Try.func10 (by kernel_rfl) rfl #[.slice Ao51 t549.length co51, .agg #[.int .i64 a1_0, .int .i64 a1_1], .int .i64 a2] (by rfl) rfl rfl al_ ?_
                   with_reducible refine (tags_Go.calls k1 _ _ t549 a1_0 a1_1 a2 t552 t553 t554 t555 t556 _ ?side1 ?side2 A19.out).mono ?_
                   (case side1 => exact kc_ (Kd.R_reads' HO551.out).2.2)
                   (case side2 => exact (Kd.R_reads' HO551.out).2.1)
                   rintro e w52 ⟨rfl, hb⟩
                   refine ⟨_, rfl, ?_⟩
                   have n0_ := Aside0.mk (Kd.R_below (kr_ (HO_9.out)) hb)
                   have n1_ := Aside0.mk (Kd.R_below (kr_ (HO551.out)) hb)
                   have n2_ := Aside0.mk (bkb_ BK532.out hb)
                   have n3_ := Aside0.mk (bkb_ BK548.out hb)
                   have n4_ := Aside0.mk (below_step (hb_ HB.out) hb)
                   clear HO_9
                   clear HO551
                   clear BK532
                   clear BK548
                   clear HB
                   have HO_9 := n0_
                   have HO551 := n1_
                   have BK532 := n2_
                   have BK548 := n3_
                   have HB := n4_
                   clear n0_ n1_ n2_ n3_ n4_
                   (try clear hb)
                   (try clear hb2)
                   (try clear hk)
                   (try clear hi)
                   refine hK.out _ _ ⟨(blk_cell BK532.out 0).trans rfl, (blk_cell BK532.out 1).trans rfl⟩ (fun hHeld => ?_)
                   clear hK K
                   refine norm_ (a' := ?_) ?_ ?_
                   rotate_left
                   ·show Act.put _ (some 80) _ = _
                    simp only [Act.put, List.setIfInBounds_toArray, List.set_cons_zero, List.set_cons_succ, i64_w, i32_w]
                    rfl
                   refine pure_ (i := 5) (N := some 75) (v := ?_) (a' := ?_) #[true, true, true, true, true, true, false, false, false, false, false, false, false, false, false] rfl rfl (any_of HT_.out (by kernel_rfl)) (fun _ _ _ h => h) (Or.inl ⟨by rfl, ?_⟩) ?_ ?_
                   rotate_left
                   ·intro w'
                    go_simp
                    with_reducible rfl
                   rotate_left
                   ·simp only [Act.put, List.setIfInBounds_toArray, List.set_cons_zero, List.set_cons_succ, i64_w, i32_w]
                    rfl
                   refine pure_ (i := 6) (N := some 81) (v := ?_) (a' := ?_) #[true, true, true, true, true, true, true, false, false, false, false, false, false, false, false] rfl rfl (any_of HT_.out (by kernel_rfl)) (fun _ _ _ h => h) (Or.inl ⟨by rfl, ?_⟩) ?_ ?_
                   rotate_left
                   ·intro w'
                    go_simp
                    with_reducible rfl
                   rotate_left
                   ·simp only [Act.put, List.setIfInBounds_toArray, List.set_cons_zero, List.set_cons_succ, i64_w, i32_w]
                    rfl
                   refine pure_ (i := 7) (N := some 82) (v := ?_) (a' := ?_) #[true, true, true, true, true, true, true, true, false, false, false, false, false, false, false] rfl rfl (any_of HT_.out (by kernel_rfl)) (fun _ _ _ h => h) (Or.inl ⟨by rfl, ?_⟩) ?_ ?_
                   rotate_left
                   ·intro w'
                    go_simp
                    with_reducible rfl
                   rotate_left
                   ·simp only [Act.put, List.setIfInBounds_toArray, List.set_cons_zero, List.set_cons_succ, i64_w, i32_w]
                    rfl
                   refine pure_ (i := 8) (N := some 83) (v := ?_) (a' := ?_) #[true, true, true, true, true, true, true, true, true, false, false, false, false, false, false] rfl rfl (any_of HT_.out (by kernel_rfl)) (fun _ _ _ h => h) (Or.inl ⟨by rfl, ?_⟩) ?_ ?_
                   rotate_left
                   ·intro w'
                    go_simp
                    with_reducible rfl
                   rotate_left
                   ·simp only [Act.put, List.setIfInBounds_toArray, List.set_cons_zero, List.set_cons_succ, i64_w, i32_w]
                    rfl
                   refine pure_ (i := 9) (N := some 84) (v := ?_) (a' := ?_) #[true, true, true, true, true, true, true, true, true, true, false, false, false, false, false] rfl rfl (any_of HT_.out (by kernel_rfl)) (fun _ _ _ h => h) (Or.inl ⟨by rfl, ?_⟩) ?_ ?_
                   rotate_left
                   ·intro w'
                    go_simp
                    with_reducible rfl
                   rotate_left
                   ·simp only [Act.put, List.setIfInBounds_toArray, List.set_cons_zero, List.set_cons_succ, i64_w, i32_w]
                    rfl
                   refine one_ (i := 10) (N := some 13) #[true, true, true, true, true, true, true, true, true, true, true, false, false, false, false] rfl rfl (one_of HT_.out (by kernel_rfl)) (by decide) (fun K hK => ?_)
                   refine box_step ?hg (N := 13) ?hd (cs := #[.int .i64 0, .int .i64 0]) (t := 23) ?hr ?_; (case hd => rfl); (case hg => rfl); (case hr => first | (go_simp; done) | (go_simp; rfl))
                   intro gb557 hg w53 hbox hb
                   have n0_ := Aside0.mk (Kd.R_below (kr_ (HO_9.out)) hb)
                   have n1_ := Aside0.mk (Kd.R_below (kr_ (HO551.out)) hb)
                   have n2_ := Aside0.mk (bkb_ BK532.out hb)
                   have n3_ := Aside0.mk (bkb_ BK548.out hb)
                   have n4_ := Aside0.mk (below_step (hb_ HB.out) hb)
                   have n5_ := Aside0.mk (hbox)
                   have n6_ := Aside0.mk ((by rw [hg]; exact (below_size (hb_ HB.out)) : w.heap.size ≤ gb557))
                   have n7_ := Aside0.mk ((by rw [hg]; exact (below_size (hb_ HB.out)) : w.heap.size ≤ gb557))
                   have n8_ := Aside0.mk ((by rw [hg]; exact Nat.ne_of_lt (bkl_ BK532.out) : gb532 ≠ gb557))
                   have n9_ := Aside0.mk ((by rw [hg]; exact Nat.ne_of_gt (bkl_ BK532.out) : gb557 ≠ gb532))
                   have n10_ := Aside0.mk ((by rw [hg]; exact Nat.ne_of_lt (bkl_ BK548.out) : gb548 ≠ gb557))
                   have n11_ := Aside0.mk ((by rw [hg]; exact Nat.ne_of_gt (bkl_ BK548.out) : gb557 ≠ gb548))
                   clear HO_9
                   clear HO551
                   clear BK532
                   clear BK548
                   clear HB
                   have HO_9 := n0_
                   have HO551 := n1_
                   have BK532 := n2_
                   have BK548 := n3_
                   have HB := n4_
                   have BK557 := n5_
                   have GW557 := n6_
                   have GE557 := n7_
                   have NB532_557 := n8_
                   have NB557_532 := n9_
                   have NB548_557 := n10_
                   have NB557_548 := n11_
                   clear n0_ n1_ n2_ n3_ n4_ n5_ n6_ n7_ n8_ n9_ n10_ n11_
                   clear hb hbox hg
                   refine hK.out _ _ ⟨(blk_cell BK532.out 0).trans rfl, (blk_cell BK532.out 1).trans rfl⟩ (fun hHeld => ?_)
                   clear hK K
                   refine norm_ (a' := ?_) ?_ ?_
                   rotate_left
                   ·show Act.put _ (some 13) _ = _
                    simp only [Act.put, List.setIfInBounds_toArray, List.set_cons_zero, List.set_cons_succ, i64_w, i32_w]
                    rfl
                   exact norm_ (by simp only [putAll, Act.put, List.setIfInBounds_toArray, List.set_cons_zero, List.set_cons_succ]) (hCont (.slice Ao51 t549.length co51, gb557) _ ⟨hHeld, (by (with_reducible repeat (first | apply Kd.R_alloc | apply Kd.R_drewN | apply Kd.R_drew)); exact Kd.R_mono HO551.out (fun _ hk => hk.2)), (by (with_reducible repeat (first | apply Kd.R_alloc | apply Kd.R_drewN | apply Kd.R_drew)); exact Kd.R_mono HO_9.out (fun _ hk => hk.2)), (bk_ BK532.out), (bk_ BK548.out), (bk_ BK557.out), GW557.out, GE557.out, NB532_557.out, NB557_532.out, NB548_557.out, NB557_548.out, (hb_ HB.out)⟩)
                  ·skip
                   refine box_step ?hg (N := 13) ?hd (cs := #[.int .i64 0, .int .i64 0]) (t := 23) ?hr ?_; (case hd => rfl); (case hg => rfl); (case hr => first | (go_simp; done) | (go_simp; rfl))
                   intro gb557 hg w51 hbox hb
                   have n0_ := Aside0.mk (Kd.R_below (kr_ (HO_9.out)) hb)
                   have n1_ := Aside0.mk (Kd.R_below (kr_ (HO551.out)) hb)
                   have n2_ := Aside0.mk (bkb_ BK532.out hb)
                   have n3_ := Aside0.mk (bkb_ BK548.out hb)
                   have n4_ := Aside0.mk (below_step (hb_ HB.out) hb)
                   have n5_ := Aside0.mk (hbox)
                   have n6_ := Aside0.mk ((by rw [hg]; exact (below_size (hb_ HB.out)) : w.heap.size ≤ gb557))
                   have n7_ := Aside0.mk ((by rw [hg]; exact (below_size (hb_ HB.out)) : w.heap.size ≤ gb557))
                   have n8_ := Aside0.mk ((by rw [hg]; exact Nat.ne_of_lt (bkl_ BK532.out) : gb532 ≠ gb557))
                   have n9_ := Aside0.mk ((by rw [hg]; exact Nat.ne_of_gt (bkl_ BK532.out) : gb557 ≠ gb532))
                   have n10_ := Aside0.mk ((by rw [hg]; exact Nat.ne_of_lt (bkl_ BK548.out) : gb548 ≠ gb557))
                   have n11_ := Aside0.mk ((by rw [hg]; exact Nat.ne_of_gt (bkl_ BK548.out) : gb557 ≠ gb548))
                   clear HO_9
                   clear HO551
                   clear BK532
                   clear BK548
                   clear HB
                   have HO_9 := n0_
                   have HO551 := n1_
                   have BK532 := n2_
                   have BK548 := n3_
                   have HB := n4_
                   have BK557 := n5_
                   have GW557 := n6_
                   have GE557 := n7_
                   have NB532_557 := n8_
                   have NB557_532 := n9_
                   have NB548_557 := n10_
                   have NB557_548 := n11_
                   clear n0_ n1_ n2_ n3_ n4_ n5_ n6_ n7_ n8_ n9_ n10_ n11_
                   clear hb hbox hg
                   obtain ⟨Ao52, co52, eo52⟩ := Kd.R_slice HO551.out
                   (first | subst eo52 | (injection eo52 with f1_ f2_ f3_; have f4_ := f1_.symm; have f5_ := f3_.symm; clear f1_ f2_ f3_; subst f4_; subst f5_))
                   refine hK.out _ _ ⟨(blk_cell BK532.out 0).trans rfl, (blk_cell BK532.out 1).trans rfl⟩ (fun hHeld => ?_)
                   clear hK K
                   refine norm_ (a' := ?_) ?_ ?_
                   rotate_left
                   ·show Act.put _ (some 13) _ = _
                    simp only [Act.put, List.setIfInBounds_toArray, List.set_cons_zero, List.set_cons_succ, i64_w, i32_w]
                    rfl
                   refine one_ (i := 4) (N := some 80) #[true, true, true, true, true, false, false, false, false, false, true, false, false, false, false] rfl rfl (one_of HT_.out (by kernel_rfl)) (by decide) (fun K hK => ?_)
                   refine goes_ Try.func10 (by kernel_rfl) rfl #[.slice Ao52 t549.length co52, .agg #[.int .i64 a1_0, .int .i64 a1_1], .int .i64 a2] (by rfl) rfl rfl al_ ?_
                   with_reducible refine (tags_Go.calls k1 _ _ t549 a1_0 a1_1 a2 t552 t553 t554 t555 t556 _ ?side1 ?side2 A19.out).mono ?_
                   (case side1 => exact kc_ (Kd.R_reads' HO551.out).2.2)
                   (case side2 => exact (Kd.R_reads' HO551.out).2.1)
                   rintro e w53 ⟨rfl, hb⟩
                   refine ⟨_, rfl, ?_⟩
                   have n0_ := Aside0.mk (Kd.R_below (kr_ (HO_9.out)) hb)
                   have n1_ := Aside0.mk (Kd.R_below (kr_ (HO551.out)) hb)
                   have n2_ := Aside0.mk (bkb_ BK532.out hb)
                   have n3_ := Aside0.mk (bkb_ BK548.out hb)
                   have n4_ := Aside0.mk (bkb_ BK557.out hb)
                   have n5_ := Aside0.mk (below_step (hb_ HB.out) hb)
                   clear HO_9
                   clear HO551
                   clear BK532
                   clear BK548
                   clear BK557
                   clear HB
                   have HO_9 := n0_
                   have HO551 := n1_
                   have BK532 := n2_
                   have BK548 := n3_
                   have BK557 := n4_
                   have HB := n5_
                   clear n0_ n1_ n2_ n3_ n4_ n5_
                   (try clear hb)
                   (try clear hb2)
                   (try clear hk)
                   (try clear hi)
                   refine hK.out _ _ ⟨(blk_cell BK532.out 0).trans rfl, (blk_cell BK532.out 1).trans rfl⟩ (fun hHeld => ?_)
                   clear hK K
                   refine norm_ (a' := ?_) ?_ ?_
                   rotate_left
                   ·show Act.put _ (some 80) _ = _
                    simp only [Act.put, List.setIfInBounds_toArray, List.set_cons_zero, List.set_cons_succ, i64_w, i32_w]
                    rfl
                   refine pure_ (i := 5) (N := some 75) (v := ?_) (a' := ?_) #[true, true, true, true, true, true, false, false, false, false, true, false, false, false, false] rfl rfl (any_of HT_.out (by kernel_rfl)) (fun _ _ _ h => h) (Or.inl ⟨by rfl, ?_⟩) ?_ ?_
                   rotate_left
                   ·intro w'
                    go_simp
                    with_reducible rfl
                   rotate_left
                   ·simp only [Act.put, List.setIfInBounds_toArray, List.set_cons_zero, List.set_cons_succ, i64_w, i32_w]
                    rfl
                   refine pure_ (i := 6) (N := some 81) (v := ?_) (a' := ?_) #[true, true, true, true, true, true, true, false, false, false, true, false, false, false, false] rfl rfl (any_of HT_.out (by kernel_rfl)) (fun _ _ _ h => h) (Or.inl ⟨by rfl, ?_⟩) ?_ ?_
                   rotate_left
                   ·intro w'
                    go_simp
                    with_reducible rfl
                   rotate_left
                   ·simp only [Act.put, List.setIfInBounds_toArray, List.set_cons_zero, List.set_cons_succ, i64_w, i32_w]
                    rfl
                   refine pure_ (i := 7) (N := some 82) (v := ?_) (a' := ?_) #[true, true, true, true, true, true, true, true, false, false, true, false, false, false, false] rfl rfl (any_of HT_.out (by kernel_rfl)) (fun _ _ _ h => h) (Or.inl ⟨by rfl, ?_⟩) ?_ ?_
                   rotate_left
                   ·intro w'
                    go_simp
                    with_reducible rfl
                   rotate_left
                   ·simp only [Act.put, List.setIfInBounds_toArray, List.set_cons_zero, List.set_cons_succ, i64_w, i32_w]
                    rfl
                   refine pure_ (i := 8) (N := some 83) (v := ?_) (a' := ?_) #[true, true, true, true, true, true, true, true, true, false, true, false, false, false, false] rfl rfl (any_of HT_.out (by kernel_rfl)) (fun _ _ _ h => h) (Or.inl ⟨by rfl, ?_⟩) ?_ ?_
                   rotate_left
                   ·intro w'
                    go_simp
                    with_reducible rfl
                   rotate_left
                   ·simp only [Act.put, List.setIfInBounds_toArray, List.set_cons_zero, List.set_cons_succ, i64_w, i32_w]
                    rfl
                   refine pure_ (i := 9) (N := some 84) (v := ?_) (a' := ?_) #[true, true, true, true, true, true, true, true, true, true, true, false, false, false, false] rfl rfl (any_of HT_.out (by kernel_rfl)) (fun _ _ _ h => h) (Or.inl ⟨by rfl, ?_⟩) ?_ ?_
                   rotate_left
                   ·intro w'
                    go_simp
                    with_reducible rfl
                   rotate_left
                   ·simp only [Act.put, List.setIfInBounds_toArray, List.set_cons_zero, List.set_cons_succ, i64_w, i32_w]
                    rfl
                   exact norm_ (by simp only [putAll, Act.put, List.setIfInBounds_toArray, List.set_cons_zero, List.set_cons_succ]) (hCont (.slice Ao52 t549.length co52, gb557) _ ⟨hHeld, (by (with_reducible repeat (first | apply Kd.R_alloc | apply Kd.R_drewN | apply Kd.R_drew)); exact Kd.R_mono HO551.out (fun _ hk => hk.2)), (by (with_reducible repeat (first | apply Kd.R_alloc | apply Kd.R_drewN | apply Kd.R_drew)); exact Kd.R_mono HO_9.out (fun _ hk => hk.2)), (bk_ BK532.out), (bk_ BK548.out), (bk_ BK557.out), GW557.out, GE557.out, NB532_557.out, NB557_532.out, NB548_557.out, NB557_548.out, (hb_ HB.out)⟩)
                 ·skip
                  refine box_step ?hg (N := 13) ?hd (cs := #[.int .i64 0, .int .i64 0]) (t := 23) ?hr ?_; (case hd => rfl); (case hg => rfl); (case hr => first | (go_simp; done) | (go_simp; rfl))
                  intro gb557 hg w50 hbox hb
                  have n0_ := Aside0.mk (Kd.R_below (kr_ (HO_9.out)) hb)
                  have n1_ := Aside0.mk (bkb_ BK532.out hb)
                  have n2_ := Aside0.mk (bkb_ BK548.out hb)
                  have n3_ := Aside0.mk (below_step (hb_ HB.out) hb)
                  have n4_ := Aside0.mk (hbox)
                  have n5_ := Aside0.mk ((by rw [hg]; exact (below_size (hb_ HB.out)) : w.heap.size ≤ gb557))
                  have n6_ := Aside0.mk ((by rw [hg]; exact (below_size (hb_ HB.out)) : w.heap.size ≤ gb557))
                  have n7_ := Aside0.mk ((by rw [hg]; exact Nat.ne_of_lt (bkl_ BK532.out) : gb532 ≠ gb557))
                  have n8_ := Aside0.mk ((by rw [hg]; exact Nat.ne_of_gt (bkl_ BK532.out) : gb557 ≠ gb532))
                  have n9_ := Aside0.mk ((by rw [hg]; exact Nat.ne_of_lt (bkl_ BK548.out) : gb548 ≠ gb557))
                  have n10_ := Aside0.mk ((by rw [hg]; exact Nat.ne_of_gt (bkl_ BK548.out) : gb557 ≠ gb548))
                  clear HO_9
                  clear BK532
                  clear BK548
                  clear HB
                  have HO_9 := n0_
                  have BK532 := n1_
                  have BK548 := n2_
                  have HB := n3_
                  have BK557 := n4_
                  have GW557 := n5_
                  have GE557 := n6_
                  have NB532_557 := n7_
                  have NB557_532 := n8_
                  have NB548_557 := n9_
                  have NB557_548 := n10_
                  clear n0_ n1_ n2_ n3_ n4_ n5_ n6_ n7_ n8_ n9_ n10_
                  clear hb hbox hg
                  refine hK.out _ _ ⟨(blk_cell BK532.out 0).trans rfl, (blk_cell BK532.out 1).trans rfl⟩ (fun hHeld => ?_)
                  clear hK K
                  refine norm_ (a' := ?_) ?_ ?_
                  rotate_left
                  ·show Act.put _ (some 13) _ = _
                   simp only [Act.put, List.setIfInBounds_toArray, List.set_cons_zero, List.set_cons_succ, i64_w, i32_w]
                   rfl
                  refine one_ (i := 1) (N := some 77) #[true, true, true, true, false, false, false, false, false, false, true, false, false, false, false] rfl rfl (one_of HT_.out (by kernel_rfl)) (by decide) (fun K hK => ?_)
                  refine goes_ Try.func11 (by kernel_rfl) rfl #[.slice A0 l0.length c0] (by rfl) rfl rfl al_ ?_
                  with_reducible refine (comfitlaw06_Of.calls k1 _ _ l0 t549 _ ?side1 ?side2 A18.out).mono ?_
                  (case side1 => exact kc_ (Kd.C_below HR0.out HB.out))
                  (case side2 => exact HC0.out)
                  rintro e w51 ⟨v550, rfl, ho0, hb⟩
                  refine ⟨_, rfl, ?_⟩
                  have n0_ := Aside0.mk (Kd.R_elder' (kr_ (HO_9.out)) (Kd.R_base ho0) hb)
                  have n1_ := Aside0.mk (Kd.R_lower (Kd.R_new' ho0 (Kd.R_lt (kr_ (HO_9.out)))) (below_size (hb_ HB.out)))
                  have n2_ := Aside0.mk (bkb_ BK532.out hb)
                  have n3_ := Aside0.mk (bkb_ BK548.out hb)
                  have n4_ := Aside0.mk (bkb_ BK557.out hb)
                  have n5_ := Aside0.mk (below_step (hb_ HB.out) hb)
                  clear HO_9
                  clear BK532
                  clear BK548
                  clear BK557
                  clear HB
                  have HO_9 := n0_
                  have HO551 := n1_
                  have BK532 := n2_
                  have BK548 := n3_
                  have BK557 := n4_
                  have HB := n5_
                  clear n0_ n1_ n2_ n3_ n4_ n5_
                  (try clear hb)
                  (try clear hb2)
                  (try clear hk)
                  (try clear hi)
                  (try clear ho0)
                  obtain ⟨Ao52, co52, eo52⟩ := Kd.R_slice HO551.out
                  (first | subst eo52 | (injection eo52 with f1_ f2_ f3_; have f4_ := f1_.symm; have f5_ := f3_.symm; clear f1_ f2_ f3_; subst f4_; subst f5_))
                  refine hK.out _ _ ⟨(blk_cell BK532.out 0).trans rfl, (blk_cell BK532.out 1).trans rfl⟩ (fun hHeld => ?_)
                  clear hK K
                  refine norm_ (a' := ?_) ?_ ?_
                  rotate_left
                  ·show Act.put _ (some 77) _ = _
                   simp only [Act.put, List.setIfInBounds_toArray, List.set_cons_zero, List.set_cons_succ, i64_w, i32_w]
                   rfl
                  refine one_ (i := 4) (N := some 80) #[true, true, true, true, true, false, false, false, false, false, true, false, false, false, false] rfl rfl (one_of HT_.out (by kernel_rfl)) (by decide) (fun K hK => ?_)
                  refine goes_ Try.func10 (by kernel_rfl) rfl #[.slice Ao52 t549.length co52, .agg #[.int .i64 a1_0, .int .i64 a1_1], .int .i64 a2] (by rfl) rfl rfl al_ ?_
                  with_reducible refine (tags_Go.calls k1 _ _ t549 a1_0 a1_1 a2 t552 t553 t554 t555 t556 _ ?side1 ?side2 A19.out).mono ?_
                  (case side1 => exact kc_ (Kd.R_reads' HO551.out).2.2)
                  (case side2 => exact (Kd.R_reads' HO551.out).2.1)
                  rintro e w53 ⟨rfl, hb⟩
                  refine ⟨_, rfl, ?_⟩
                  have n0_ := Aside0.mk (Kd.R_below (kr_ (HO_9.out)) hb)
                  have n1_ := Aside0.mk (Kd.R_below (kr_ (HO551.out)) hb)
                  have n2_ := Aside0.mk (bkb_ BK532.out hb)
                  have n3_ := Aside0.mk (bkb_ BK548.out hb)
                  have n4_ := Aside0.mk (bkb_ BK557.out hb)
                  have n5_ := Aside0.mk (below_step (hb_ HB.out) hb)
                  clear HO_9
                  clear HO551
                  clear BK532
                  clear BK548
                  clear BK557
                  clear HB
                  have HO_9 := n0_
                  have HO551 := n1_
                  have BK532 := n2_
                  have BK548 := n3_
                  have BK557 := n4_
                  have HB := n5_
                  clear n0_ n1_ n2_ n3_ n4_ n5_
                  (try clear hb)
                  (try clear hb2)
                  (try clear hk)
                  (try clear hi)
                  refine hK.out _ _ ⟨(blk_cell BK532.out 0).trans rfl, (blk_cell BK532.out 1).trans rfl⟩ (fun hHeld => ?_)
                  clear hK K
                  refine norm_ (a' := ?_) ?_ ?_
                  rotate_left
                  ·show Act.put _ (some 80) _ = _
                   simp only [Act.put, List.setIfInBounds_toArray, List.set_cons_zero, List.set_cons_succ, i64_w, i32_w]
                   rfl
                  refine pure_ (i := 5) (N := some 75) (v := ?_) (a' := ?_) #[true, true, true, true, true, true, false, false, false, false, true, false, false, false, false] rfl rfl (any_of HT_.out (by kernel_rfl)) (fun _ _ _ h => h) (Or.inl ⟨by rfl, ?_⟩) ?_ ?_
                  rotate_left
                  ·intro w'
                   go_simp
                   with_reducible rfl
                  rotate_left
                  ·simp only [Act.put, List.setIfInBounds_toArray, List.set_cons_zero, List.set_cons_succ, i64_w, i32_w]
                   rfl
                  refine pure_ (i := 6) (N := some 81) (v := ?_) (a' := ?_) #[true, true, true, true, true, true, true, false, false, false, true, false, false, false, false] rfl rfl (any_of HT_.out (by kernel_rfl)) (fun _ _ _ h => h) (Or.inl ⟨by rfl, ?_⟩) ?_ ?_
                  rotate_left
                  ·intro w'
                   go_simp
                   with_reducible rfl
                  rotate_left
                  ·simp only [Act.put, List.setIfInBounds_toArray, List.set_cons_zero, List.set_cons_succ, i64_w, i32_w]
                   rfl
                  refine pure_ (i := 7) (N := some 82) (v := ?_) (a' := ?_) #[true, true, true, true, true, true, true, true, false, false, true, false, false, false, false] rfl rfl (any_of HT_.out (by kernel_rfl)) (fun _ _ _ h => h) (Or.inl ⟨by rfl, ?_⟩) ?_ ?_
                  rotate_left
                  ·intro w'
                   go_simp
                   with_reducible rfl
                  rotate_left
                  ·simp only [Act.put, List.setIfInBounds_toArray, List.set_cons_zero, List.set_cons_succ, i64_w, i32_w]
                   rfl
                  refine pure_ (i := 8) (N := some 83) (v := ?_) (a' := ?_) #[true, true, true, true, true, true, true, true, true, false, true, false, false, false, false] rfl rfl (any_of HT_.out (by kernel_rfl)) (fun _ _ _ h => h) (Or.inl ⟨by rfl, ?_⟩) ?_ ?_
                  rotate_left
                  ·intro w'
                   go_simp
                   with_reducible rfl
                  rotate_left
                  ·simp only [Act.put, List.setIfInBounds_toArray, List.set_cons_zero, List.set_cons_succ, i64_w, i32_w]
                   rfl
                  refine pure_ (i := 9) (N := some 84) (v := ?_) (a' := ?_) #[true, true, true, true, true, true, true, true, true, true, true, false, false, false, false] rfl rfl (any_of HT_.out (by kernel_rfl)) (fun _ _ _ h => h) (Or.inl ⟨by rfl, ?_⟩) ?_ ?_
                  rotate_left
                  ·intro w'
                   go_simp
                   with_reducible rfl
                  rotate_left
                  ·simp only [Act.put, List.setIfInBounds_toArray, List.set_cons_zero, List.set_cons_succ, i64_w, i32_w]
                   rfl
                  exact norm_ (by simp only [putAll, Act.put, List.setIfInBounds_toArray, List.set_cons_zero, List.set_cons_succ]) (hCont (.slice Ao52 t549.length co52, gb557) _ ⟨hHeld, (by (with_reducible repeat (first | apply Kd.R_alloc | apply Kd.R_drewN | apply Kd.R_drew)); exact Kd.R_mono HO551.out (fun _ hk => hk.2)), (by (with_reducible repeat (first | apply Kd.R_alloc | apply Kd.R_drewN | apply Kd.R_drew)); exact Kd.R_mono HO_9.out (fun _ hk => hk.2)), (bk_ BK532.out), (bk_ BK548.out), (bk_ BK557.out), GW557.out, GE557.out, NB532_557.out, NB557_532.out, NB548_557.out, NB557_548.out, (hb_ HB.out)⟩)
                rintro ⟨v550, gb557⟩ w54 ⟨hS_, h0_, h1_, h2_, h3_, h4_, h5_, h6_, h7_, h8_, h9_, h10_, h11_⟩
                have n0_ : Aside0 (Kd.R k57 57 w54 w.heap.size (fun k_ => some k_ ≠ (.slice Ao10 x9_1.length co10 : Value).ownBlock) v550 t549) := ⟨h0_⟩
                have n1_ : Aside0 (Kd.R k57 57 w54 w.heap.size (fun k_ => some k_ ≠ (v550 : Value).ownBlock) (.slice Ao10 x9_1.length co10) x9_1) := ⟨h1_⟩
                have n2_ : Aside0 (w54.heap[gb532]? = some (.cells #[.int .i64 a1_0, .int .i64 a1_1] 23 (0, 0))) := ⟨h2_⟩
                have n3_ : Aside0 (w54.heap[gb548]? = some (.cells #[.int .i64 a1_1, .int .i64 a1_0] 23 (0, 0))) := ⟨h3_⟩
                have n4_ : Aside0 (w54.heap[gb557]? = some (.cells #[.int .i64 0, .int .i64 0] 23 (0, 0))) := ⟨h4_⟩
                have n5_ : Aside0 (w.heap.size ≤ gb557) := ⟨h5_⟩
                have n6_ : Aside0 (w.heap.size ≤ gb557) := ⟨h6_⟩
                have n7_ : Aside0 (gb532 ≠ gb557) := ⟨h7_⟩
                have n8_ : Aside0 (gb557 ≠ gb532) := ⟨h8_⟩
                have n9_ : Aside0 (gb548 ≠ gb557) := ⟨h9_⟩
                have n10_ : Aside0 (gb557 ≠ gb548) := ⟨h10_⟩
                have n11_ : Aside0 (Below w.heap.size w w54) := ⟨h11_⟩
                clear HO_9
                clear BK532
                clear BK548
                clear HB
                clear h0_ h1_ h2_ h3_ h4_ h5_ h6_ h7_ h8_ h9_ h10_ h11_
                have HO551 := n0_
                have HO_9 := n1_
                have BK532 := n2_
                have BK548 := n3_
                have BK557 := n4_
                have GW557 := n5_
                have GE557 := n6_
                have NB532_557 := n7_
                have NB557_532 := n8_
                have NB548_557 := n9_
                have NB557_548 := n10_
                have HB := n11_
                clear n0_ n1_ n2_ n3_ n4_ n5_ n6_ n7_ n8_ n9_ n10_ n11_
                have hHeld : w54.cell? ⟨gb532, 0, none⟩ = some (.int .i64 a1_0) ∧ w54.cell? ⟨gb532, 1, none⟩ = some (.int .i64 a1_1) := hS_
                refine norm_ (a' := ?_) ?_ ?_
                rotate_left
                ·simp only [putAll, Act.put, List.setIfInBounds_toArray, List.set_cons_zero, List.set_cons_succ]
                 rfl
                refine pure_ (i := 11) (N := some 12) (v := ?_) (a' := ?_) #[true, true, true, true, true, true, true, true, true, true, true, true, false, false, false] rfl rfl (any_of HT_.out (by kernel_rfl)) (fun _ _ _ h => h) (Or.inl ⟨by rfl, ?_⟩) ?_ ?_
                rotate_left
                ·intro w'
                 go_simp
                 with_reducible rfl
                rotate_left
                ·simp only [Act.put, List.setIfInBounds_toArray, List.set_cons_zero, List.set_cons_succ, i64_w, i32_w]
                 rfl
                refine one_ (i := 12) (N := none) #[true, true, true, true, true, true, true, true, true, true, true, true, true, false, false] rfl rfl (one_of HT_.out (by kernel_rfl)) (by decide) (fun K hK => ?_)
                have hs55 : w54.cell? ⟨gb557, 0, none⟩ = some (.int .i64 0) := (blk_cell BK557.out 0).trans rfl
                have hfs55 := blk_frozen BK557.out 0
                have hns55_0 := NB532_557.out
                have hns55_1 := NB548_557.out
                have hms55_0 := NB557_532.out
                have hms55_1 := NB557_548.out
                have hs56 : w54.cell? ⟨gb557, 1, none⟩ = some (.int .i64 0) := (blk_cell BK557.out 1).trans rfl
                have hfs56 := blk_frozen BK557.out 1
                have hns56_0 := NB532_557.out
                have hns56_1 := NB548_557.out
                have hms56_0 := NB557_532.out
                have hms56_1 := NB557_548.out
                refine skip_ (w1 := ?_) (by rfl) rfl ?_ ?_
                rotate_left
                ·go_simp
                 rfl
                refine hK.out _ _ ⟨((cell_far (p := ⟨gb557, _, none⟩) NB532_557.out _).trans (((cell_far (p := ⟨gb557, _, none⟩) NB532_557.out _).trans (hHeld.1)))), ((cell_far (p := ⟨gb557, _, none⟩) NB532_557.out _).trans (((cell_far (p := ⟨gb557, _, none⟩) NB532_557.out _).trans (hHeld.2))))⟩ (fun hHeld => ?_)
                clear hK K
                refine pure_ (i := 13) (N := some 14) (v := ?_) (a' := ?_) #[true, true, true, true, true, true, true, true, true, true, true, true, true, true, false] rfl rfl (any_of HT_.out (by kernel_rfl)) (fun _ _ _ h => h) (Or.inl ⟨by rfl, ?_⟩) ?_ ?_
                rotate_left
                ·intro w'
                 go_simp
                 with_reducible rfl
                rotate_left
                ·simp only [Act.put, List.setIfInBounds_toArray, List.set_cons_zero, List.set_cons_succ, i64_w, i32_w]
                 rfl
                refine pure_ (i := 14) (N := some 15) (v := ?_) (a' := ?_) #[true, true, true, true, true, true, true, true, true, true, true, true, true, true, true] rfl rfl (any_of HT_.out (by kernel_rfl)) (fun _ _ _ h => h) (Or.inl ⟨by rfl, ?_⟩) ?_ ?_
                rotate_left
                ·intro w'
                 go_simp
                 with_reducible rfl
                rotate_left
                ·simp only [Act.put, List.setIfInBounds_toArray, List.set_cons_zero, List.set_cons_succ, i64_w, i32_w]
                 rfl
                refine done_ (done_of HT_.out (by kernel_rfl)) ?_
                try go_wp2
                have n0_ : Aside0 (Kd.R k57 57 ((w54.setCell ⟨gb557, 0, none⟩ (.int .i64 t553)).setCell ⟨gb557, 1, none⟩ (.int .i64 t554)) w.heap.size (fun k_ => some k_ ≠ (v550 : Value).ownBlock) (.slice Ao10 x9_1.length co10) x9_1) := ⟨by (with_reducible repeat (first | apply Kd.R_alloc | apply Kd.R_drewN | apply Kd.R_drew)); exact Kd.R_mono (Kd.R_far (p := ⟨gb557, 1, none⟩) (Kd.R_far (p := ⟨gb557, 0, none⟩) (Kd.R_types HO_9.out BK557.out (by decide)) (fun _ hk => hk.2) (.int .i64 t553)) (fun _ hk => hk.2) (.int .i64 t554)) (fun _ hk => hk.1)⟩
                have n1_ : Aside0 (Kd.R k57 57 ((w54.setCell ⟨gb557, 0, none⟩ (.int .i64 t553)).setCell ⟨gb557, 1, none⟩ (.int .i64 t554)) w.heap.size (fun k_ => some k_ ≠ (.slice Ao10 x9_1.length co10 : Value).ownBlock) v550 t549) := ⟨by (with_reducible repeat (first | apply Kd.R_alloc | apply Kd.R_drewN | apply Kd.R_drew)); exact Kd.R_mono (Kd.R_far (p := ⟨gb557, 1, none⟩) (Kd.R_far (p := ⟨gb557, 0, none⟩) (Kd.R_types HO551.out BK557.out (by decide)) (fun _ hk => hk.2) (.int .i64 t553)) (fun _ hk => hk.2) (.int .i64 t554)) (fun _ hk => hk.1)⟩
                have n2_ : Aside0 (((w54.setCell ⟨gb557, 0, none⟩ (.int .i64 t553)).setCell ⟨gb557, 1, none⟩ (.int .i64 t554)).heap[gb532]? = some (.cells #[.int .i64 a1_0, .int .i64 a1_1] 23 (0, 0))) := ⟨by (with_reducible repeat (first | refine blk_drewN ?_ _ | refine blk_drew ?_ | refine blk_alloc ?_ _)); refine blk_far ?_ NB532_557.out _; (with_reducible repeat (first | refine blk_drewN ?_ _ | refine blk_drew ?_ | refine blk_alloc ?_ _)); refine blk_far ?_ NB532_557.out _; (with_reducible repeat (first | refine blk_drewN ?_ _ | refine blk_drew ?_ | refine blk_alloc ?_ _)); exact BK532.out⟩
                have n3_ : Aside0 (((w54.setCell ⟨gb557, 0, none⟩ (.int .i64 t553)).setCell ⟨gb557, 1, none⟩ (.int .i64 t554)).heap[gb548]? = some (.cells #[.int .i64 a1_1, .int .i64 a1_0] 23 (0, 0))) := ⟨by (with_reducible repeat (first | refine blk_drewN ?_ _ | refine blk_drew ?_ | refine blk_alloc ?_ _)); refine blk_far ?_ NB548_557.out _; (with_reducible repeat (first | refine blk_drewN ?_ _ | refine blk_drew ?_ | refine blk_alloc ?_ _)); refine blk_far ?_ NB548_557.out _; (with_reducible repeat (first | refine blk_drewN ?_ _ | refine blk_drew ?_ | refine blk_alloc ?_ _)); exact BK548.out⟩
                have n4_ : Aside0 (((w54.setCell ⟨gb557, 0, none⟩ (.int .i64 t553)).setCell ⟨gb557, 1, none⟩ (.int .i64 t554)).heap[gb557]? = some (.cells #[.int .i64 t553, .int .i64 t554] 23 (0, 0))) := ⟨by (with_reducible repeat (first | refine blk_drewN ?_ _ | refine blk_drew ?_ | refine blk_alloc ?_ _)); refine blk_put (cs := #[.int .i64 t553, .int .i64 0]) ?_ 1 _ rfl; (with_reducible repeat (first | refine blk_drewN ?_ _ | refine blk_drew ?_ | refine blk_alloc ?_ _)); refine blk_put (cs := #[.int .i64 0, .int .i64 0]) ?_ 0 _ rfl; (with_reducible repeat (first | refine blk_drewN ?_ _ | refine blk_drew ?_ | refine blk_alloc ?_ _)); exact BK557.out⟩
                have n5_ : Aside0 (Below w.heap.size w ((w54.setCell ⟨gb557, 0, none⟩ (.int .i64 t553)).setCell ⟨gb557, 1, none⟩ (.int .i64 t554))) := ⟨by repeat (first | (with_reducible first | exact HB.out | apply below_alloc | apply pw_below_drewN | apply below_drew1 | refine below_set ?_ GE532.out | refine below_set ?_ GE548.out | refine below_set ?_ GE557.out) | exact HB.out)⟩
                (try clear HO_9)
                (try clear HO551)
                (try clear BK532)
                (try clear BK548)
                (try clear BK557)
                (try clear HB)
                generalize ((w54.setCell ⟨gb557, 0, none⟩ (.int .i64 t553)).setCell ⟨gb557, 1, none⟩ (.int .i64 t554)) = w57 at n0_ n1_ n2_ n3_ n4_ n5_ ⊢
                have HO_9 := n0_
                have HO551 := n1_
                have BK532 := n2_
                have BK548 := n3_
                have BK557 := n4_
                have HB := n5_
                clear n0_ n1_ n2_ n3_ n4_ n5_
                have n0_ := Aside0.mk (Kd.R_drew HO_9.out)
                have n1_ := Aside0.mk (Kd.R_drew HO551.out)
                have n2_ := Aside0.mk (blk_drew BK532.out)
                have n3_ := Aside0.mk (blk_drew BK548.out)
                have n4_ := Aside0.mk (blk_drew BK557.out)
                have n5_ := Aside0.mk (below_drew1 HB.out)
                clear HO_9
                clear HO551
                clear BK532
                clear BK548
                clear BK557
                clear HB
                have HO_9 := n0_
                have HO551 := n1_
                have BK532 := n2_
                have BK548 := n3_
                have BK557 := n4_
                have HB := n5_
                clear n0_ n1_ n2_ n3_ n4_ n5_
                refine start_ (n := 15) (S := fun w' => w'.cell? ⟨gb548, 0, none⟩ = some (.int .i64 a1_1) ∧ w'.cell? ⟨gb548, 1, none⟩ = some (.int .i64 a1_0)) (ds := []) #[false, false, false, false, false, false, false, false, false, false, false, false, false, false, false] (by kernel_rfl) rfl rfl ⟨(blk_cell BK548.out 0).trans rfl, (blk_cell BK548.out 1).trans rfl⟩ (fun hHeld => ?_); refine with_tabW comfitlaw06_TagsExchanged.tab13 comfitlaw06_TagsExchanged.bits13 (fun HT_ HW_ => ?_)
                generalize w57.drew = w58 at HO_9 HO551 BK532 BK548 BK557 HB hHeld ⊢
                refine pure_ (i := 0) (N := some 86) (v := ?_) (a' := ?_) #[true, false, false, false, false, false, false, false, false, false, false, false, false, false, false] rfl rfl (any_of HT_.out (by kernel_rfl)) (fun _ _ _ h => h) (Or.inl ⟨by rfl, ?_⟩) ?_ ?_
                rotate_left
                ·intro w'
                 go_simp
                 with_reducible rfl
                rotate_left
                ·simp only [Act.put, List.setIfInBounds_toArray, List.set_cons_zero, List.set_cons_succ, i64_w, i32_w]
                 rfl
                refine pure_ (i := 3) (N := some 89) (v := ?_) (a' := ?_) #[true, false, false, true, false, false, false, false, false, false, false, false, false, false, false] rfl rfl (any_of HT_.out (by kernel_rfl)) (fun _ _ _ h => h) (Or.inl ⟨by rfl, ?_⟩) ?_ ?_
                rotate_left
                ·intro w'
                 go_simp
                 with_reducible rfl
                rotate_left
                ·simp only [Act.put, List.setIfInBounds_toArray, List.set_cons_zero, List.set_cons_succ, i64_w, i32_w]
                 rfl
                refine take_ (i := 2) (N := some 88) (v := ?_) (a' := ?_) #[true, false, true, true, false, false, false, false, false, false, false, false, false, false, false] rfl rfl (take_ofW HT_.out HW_.out (by kernel_rfl)) (fun _ _ _ h => h) (Or.inl ⟨by rfl, ?_⟩) hHeld ?_ ?_
                rotate_left
                ·rintro w' ⟨s0, s1⟩
                 go_simp
                 with_reducible rfl
                rotate_left
                ·simp only [Act.put, List.setIfInBounds_toArray, List.set_cons_zero, List.set_cons_succ, i64_w, i32_w]
                 rfl
                refine join_ (σ := Value × Nat) 4 #[true, true, true, true, true, true, true, true, true, true, true, false, false, false, false] (fun s_ => [(87, s_.1), (90, .tuple #[.int .i64 t561, .agg #[.int .i64 t562, .int .i64 t563], .int .i64 t564, .int .i64 t565]), (17, .pointer (some ⟨s_.2, 0, none⟩)), (85, .tuple #[.int .i64 t561, .agg #[.int .i64 t562, .int .i64 t563], .int .i64 t564, .int .i64 t565]), (91, .int .i64 t561), (92, .agg #[.int .i64 t562, .int .i64 t563]), (93, .int .i64 t564), (94, .int .i64 t565)]) (fun s_ w' => (w'.cell? ⟨gb548, 0, none⟩ = some (.int .i64 a1_1) ∧ w'.cell? ⟨gb548, 1, none⟩ = some (.int .i64 a1_0)) ∧ (Kd.R k57 57 w' w.heap.size (fun k_ => some k_ ≠ (s_.1 : Value).ownBlock ∧ some k_ ≠ (.slice Ao10 x9_1.length co10 : Value).ownBlock) v550 t549) ∧ (Kd.R k57 57 w' w.heap.size (fun k_ => some k_ ≠ (v550 : Value).ownBlock ∧ some k_ ≠ (.slice Ao10 x9_1.length co10 : Value).ownBlock) s_.1 t558) ∧ (Kd.R k57 57 w' w.heap.size (fun k_ => some k_ ≠ (v550 : Value).ownBlock ∧ some k_ ≠ (s_.1 : Value).ownBlock) (.slice Ao10 x9_1.length co10) x9_1) ∧ (w'.heap[gb532]? = some (.cells #[.int .i64 a1_0, .int .i64 a1_1] 23 (0, 0))) ∧ (w'.heap[gb548]? = some (.cells #[.int .i64 a1_1, .int .i64 a1_0] 23 (0, 0))) ∧ (w'.heap[gb557]? = some (.cells #[.int .i64 t553, .int .i64 t554] 23 (0, 0))) ∧ (w'.heap[s_.2]? = some (.cells #[.int .i64 0, .int .i64 0] 23 (0, 0))) ∧ (w.heap.size ≤ s_.2) ∧ (w.heap.size ≤ s_.2) ∧ (gb532 ≠ s_.2) ∧ (s_.2 ≠ gb532) ∧ (gb548 ≠ s_.2) ∧ (s_.2 ≠ gb548) ∧ (gb557 ≠ s_.2) ∧ (s_.2 ≠ gb557) ∧ (Below w.heap.size w w')) ?_ ?_
                rotate_left
                ·intro hCont
                 refine two_ (i := 1) (j := 10) (Ni := some 87) (Nj := some 17) #[true, true, true, true, false, false, false, false, false, false, false, false, false, false, false] #[true, false, true, true, false, false, false, false, false, false, true, false, false, false, false] rfl rfl rfl rfl (two_of HT_.out (by kernel_rfl)) (by decide) (by decide) (fun K hK => ?_) (fun K hK => ?_)
                 ·skip
                  refine goes_ Try.func28 (by kernel_rfl) rfl #[.slice Ao10 x9_1.length co10] (by rfl) rfl rfl al_ ?_
                  with_reducible refine (tags_Order_28.calls _ _ x9_1 t558 _ ?side1 ?side2 A20.out).mono ?_
                  (case side1 => exact kc_ (Kd.R_reads' HO_9.out).2.2)
                  (case side2 => exact (Kd.R_reads' HO_9.out).2.1)
                  rintro e w59 ⟨v559, rfl, ho0, hb⟩
                  refine ⟨_, rfl, ?_⟩
                  have n0_ := Aside0.mk (Kd.R_elder' (kr_ (HO_9.out)) (Kd.R_base ho0) hb)
                  have n1_ := Aside0.mk (Kd.R_elder' (kr_ (HO551.out)) (Kd.R_base ho0) hb)
                  have n2_ := Aside0.mk (Kd.R_lower (Kd.R_new' (Kd.R_new' ho0 (Kd.R_lt (kr_ (HO_9.out)))) (Kd.R_lt (kr_ (HO551.out)))) (below_size (hb_ HB.out)))
                  have n3_ := Aside0.mk (bkb_ BK532.out hb)
                  have n4_ := Aside0.mk (bkb_ BK548.out hb)
                  have n5_ := Aside0.mk (bkb_ BK557.out hb)
                  have n6_ := Aside0.mk (below_step (hb_ HB.out) hb)
                  clear HO_9
                  clear HO551
                  clear BK532
                  clear BK548
                  clear BK557
                  clear HB
                  have HO_9 := n0_
                  have HO551 := n1_
                  have HO560 := n2_
                  have BK532 := n3_
                  have BK548 := n4_
                  have BK557 := n5_
                  have HB := n6_
                  clear n0_ n1_ n2_ n3_ n4_ n5_ n6_
                  (try clear hb)
                  (try clear hb2)
                  (try clear hk)
                  (try clear hi)
                  (try clear ho0)
                  obtain ⟨Ao60, co60, eo60⟩ := Kd.R_slice HO560.out
                  (first | subst eo60 | (injection eo60 with f1_ f2_ f3_; have f4_ := f1_.symm; have f5_ := f3_.symm; clear f1_ f2_ f3_; subst f4_; subst f5_))
                  refine hK.out _ _ ⟨(blk_cell BK548.out 0).trans rfl, (blk_cell BK548.out 1).trans rfl⟩ (fun hHeld => ?_)
                  clear hK K
                  refine norm_ (a' := ?_) ?_ ?_
                  rotate_left
                  ·show Act.put _ (some 87) _ = _
                   simp only [Act.put, List.setIfInBounds_toArray, List.set_cons_zero, List.set_cons_succ, i64_w, i32_w]
                   rfl
                  refine two_ (i := 4) (j := 10) (Ni := some 90) (Nj := some 17) #[true, true, true, true, true, false, false, false, false, false, false, false, false, false, false] #[true, true, true, true, false, false, false, false, false, false, true, false, false, false, false] rfl rfl rfl rfl (two_of HT_.out (by kernel_rfl)) (by decide) (by decide) (fun K hK => ?_) (fun K hK => ?_)
                  ·skip
                   refine goes_ Try.func10 (by kernel_rfl) rfl #[.slice Ao60 t558.length co60, .agg #[.int .i64 a1_1, .int .i64 a1_0], .int .i64 a2] (by rfl) rfl rfl al_ ?_
                   with_reducible refine (tags_Go.calls k1 _ _ t558 a1_1 a1_0 a2 t561 t562 t563 t564 t565 _ ?side1 ?side2 A21.out).mono ?_
                   (case side1 => exact kc_ (Kd.R_reads' HO560.out).2.2)
                   (case side2 => exact (Kd.R_reads' HO560.out).2.1)
                   rintro e w61 ⟨rfl, hb⟩
                   refine ⟨_, rfl, ?_⟩
                   have n0_ := Aside0.mk (Kd.R_below (kr_ (HO_9.out)) hb)
                   have n1_ := Aside0.mk (Kd.R_below (kr_ (HO551.out)) hb)
                   have n2_ := Aside0.mk (Kd.R_below (kr_ (HO560.out)) hb)
                   have n3_ := Aside0.mk (bkb_ BK532.out hb)
                   have n4_ := Aside0.mk (bkb_ BK548.out hb)
                   have n5_ := Aside0.mk (bkb_ BK557.out hb)
                   have n6_ := Aside0.mk (below_step (hb_ HB.out) hb)
                   clear HO_9
                   clear HO551
                   clear HO560
                   clear BK532
                   clear BK548
                   clear BK557
                   clear HB
                   have HO_9 := n0_
                   have HO551 := n1_
                   have HO560 := n2_
                   have BK532 := n3_
                   have BK548 := n4_
                   have BK557 := n5_
                   have HB := n6_
                   clear n0_ n1_ n2_ n3_ n4_ n5_ n6_
                   (try clear hb)
                   (try clear hb2)
                   (try clear hk)
                   (try clear hi)
                   refine hK.out _ _ ⟨(blk_cell BK548.out 0).trans rfl, (blk_cell BK548.out 1).trans rfl⟩ (fun hHeld => ?_)
                   clear hK K
                   refine norm_ (a' := ?_) ?_ ?_
                   rotate_left
                   ·show Act.put _ (some 90) _ = _
                    simp only [Act.put, List.setIfInBounds_toArray, List.set_cons_zero, List.set_cons_succ, i64_w, i32_w]
                    rfl
                   refine pure_ (i := 5) (N := some 85) (v := ?_) (a' := ?_) #[true, true, true, true, true, true, false, false, false, false, false, false, false, false, false] rfl rfl (any_of HT_.out (by kernel_rfl)) (fun _ _ _ h => h) (Or.inl ⟨by rfl, ?_⟩) ?_ ?_
                   rotate_left
                   ·intro w'
                    go_simp
                    with_reducible rfl
                   rotate_left
                   ·simp only [Act.put, List.setIfInBounds_toArray, List.set_cons_zero, List.set_cons_succ, i64_w, i32_w]
                    rfl
                   refine pure_ (i := 6) (N := some 91) (v := ?_) (a' := ?_) #[true, true, true, true, true, true, true, false, false, false, false, false, false, false, false] rfl rfl (any_of HT_.out (by kernel_rfl)) (fun _ _ _ h => h) (Or.inl ⟨by rfl, ?_⟩) ?_ ?_
                   rotate_left
                   ·intro w'
                    go_simp
                    with_reducible rfl
                   rotate_left
                   ·simp only [Act.put, List.setIfInBounds_toArray, List.set_cons_zero, List.set_cons_succ, i64_w, i32_w]
                    rfl
                   refine pure_ (i := 7) (N := some 92) (v := ?_) (a' := ?_) #[true, true, true, true, true, true, true, true, false, false, false, false, false, false, false] rfl rfl (any_of HT_.out (by kernel_rfl)) (fun _ _ _ h => h) (Or.inl ⟨by rfl, ?_⟩) ?_ ?_
                   rotate_left
                   ·intro w'
                    go_simp
                    with_reducible rfl
                   rotate_left
                   ·simp only [Act.put, List.setIfInBounds_toArray, List.set_cons_zero, List.set_cons_succ, i64_w, i32_w]
                    rfl
                   refine pure_ (i := 8) (N := some 93) (v := ?_) (a' := ?_) #[true, true, true, true, true, true, true, true, true, false, false, false, false, false, false] rfl rfl (any_of HT_.out (by kernel_rfl)) (fun _ _ _ h => h) (Or.inl ⟨by rfl, ?_⟩) ?_ ?_
                   rotate_left
                   ·intro w'
                    go_simp
                    with_reducible rfl
                   rotate_left
                   ·simp only [Act.put, List.setIfInBounds_toArray, List.set_cons_zero, List.set_cons_succ, i64_w, i32_w]
                    rfl
                   refine pure_ (i := 9) (N := some 94) (v := ?_) (a' := ?_) #[true, true, true, true, true, true, true, true, true, true, false, false, false, false, false] rfl rfl (any_of HT_.out (by kernel_rfl)) (fun _ _ _ h => h) (Or.inl ⟨by rfl, ?_⟩) ?_ ?_
                   rotate_left
                   ·intro w'
                    go_simp
                    with_reducible rfl
                   rotate_left
                   ·simp only [Act.put, List.setIfInBounds_toArray, List.set_cons_zero, List.set_cons_succ, i64_w, i32_w]
                    rfl
                   refine one_ (i := 10) (N := some 17) #[true, true, true, true, true, true, true, true, true, true, true, false, false, false, false] rfl rfl (one_of HT_.out (by kernel_rfl)) (by decide) (fun K hK => ?_)
                   refine box_step ?hg (N := 17) ?hd (cs := #[.int .i64 0, .int .i64 0]) (t := 23) ?hr ?_; (case hd => rfl); (case hg => rfl); (case hr => first | (go_simp; done) | (go_simp; rfl))
                   intro gb566 hg w62 hbox hb
                   have n0_ := Aside0.mk (Kd.R_below (kr_ (HO_9.out)) hb)
                   have n1_ := Aside0.mk (Kd.R_below (kr_ (HO551.out)) hb)
                   have n2_ := Aside0.mk (Kd.R_below (kr_ (HO560.out)) hb)
                   have n3_ := Aside0.mk (bkb_ BK532.out hb)
                   have n4_ := Aside0.mk (bkb_ BK548.out hb)
                   have n5_ := Aside0.mk (bkb_ BK557.out hb)
                   have n6_ := Aside0.mk (below_step (hb_ HB.out) hb)
                   have n7_ := Aside0.mk (hbox)
                   have n8_ := Aside0.mk ((by rw [hg]; exact (below_size (hb_ HB.out)) : w.heap.size ≤ gb566))
                   have n9_ := Aside0.mk ((by rw [hg]; exact (below_size (hb_ HB.out)) : w.heap.size ≤ gb566))
                   have n10_ := Aside0.mk ((by rw [hg]; exact Nat.ne_of_lt (bkl_ BK532.out) : gb532 ≠ gb566))
                   have n11_ := Aside0.mk ((by rw [hg]; exact Nat.ne_of_gt (bkl_ BK532.out) : gb566 ≠ gb532))
                   have n12_ := Aside0.mk ((by rw [hg]; exact Nat.ne_of_lt (bkl_ BK548.out) : gb548 ≠ gb566))
                   have n13_ := Aside0.mk ((by rw [hg]; exact Nat.ne_of_gt (bkl_ BK548.out) : gb566 ≠ gb548))
                   have n14_ := Aside0.mk ((by rw [hg]; exact Nat.ne_of_lt (bkl_ BK557.out) : gb557 ≠ gb566))
                   have n15_ := Aside0.mk ((by rw [hg]; exact Nat.ne_of_gt (bkl_ BK557.out) : gb566 ≠ gb557))
                   clear HO_9
                   clear HO551
                   clear HO560
                   clear BK532
                   clear BK548
                   clear BK557
                   clear HB
                   have HO_9 := n0_
                   have HO551 := n1_
                   have HO560 := n2_
                   have BK532 := n3_
                   have BK548 := n4_
                   have BK557 := n5_
                   have HB := n6_
                   have BK566 := n7_
                   have GW566 := n8_
                   have GE566 := n9_
                   have NB532_566 := n10_
                   have NB566_532 := n11_
                   have NB548_566 := n12_
                   have NB566_548 := n13_
                   have NB557_566 := n14_
                   have NB566_557 := n15_
                   clear n0_ n1_ n2_ n3_ n4_ n5_ n6_ n7_ n8_ n9_ n10_ n11_ n12_ n13_ n14_ n15_
                   clear hb hbox hg
                   refine hK.out _ _ ⟨(blk_cell BK548.out 0).trans rfl, (blk_cell BK548.out 1).trans rfl⟩ (fun hHeld => ?_)
                   clear hK K
                   refine norm_ (a' := ?_) ?_ ?_
                   rotate_left
                   ·show Act.put _ (some 17) _ = _
                    simp only [Act.put, List.setIfInBounds_toArray, List.set_cons_zero, List.set_cons_succ, i64_w, i32_w]
                    rfl
                   exact norm_ (by simp only [putAll, Act.put, List.setIfInBounds_toArray, List.set_cons_zero, List.set_cons_succ]) (hCont (.slice Ao60 t558.length co60, gb566) _ ⟨hHeld, (by (with_reducible repeat (first | apply Kd.R_alloc | apply Kd.R_drewN | apply Kd.R_drew)); exact Kd.R_mono HO551.out (fun _ hk => ⟨hk.2, hk.1⟩)), (by (with_reducible repeat (first | apply Kd.R_alloc | apply Kd.R_drewN | apply Kd.R_drew)); exact Kd.R_mono HO560.out (fun _ hk => ⟨hk.2, hk.1.2⟩)), (kr_ (HO_9.out)), (bk_ BK532.out), (bk_ BK548.out), (bk_ BK557.out), (bk_ BK566.out), GW566.out, GE566.out, NB532_566.out, NB566_532.out, NB548_566.out, NB566_548.out, NB557_566.out, NB566_557.out, (hb_ HB.out)⟩)
                  ·skip
                   refine box_step ?hg (N := 17) ?hd (cs := #[.int .i64 0, .int .i64 0]) (t := 23) ?hr ?_; (case hd => rfl); (case hg => rfl); (case hr => first | (go_simp; done) | (go_simp; rfl))
                   intro gb566 hg w60 hbox hb
                   have n0_ := Aside0.mk (Kd.R_below (kr_ (HO_9.out)) hb)
                   have n1_ := Aside0.mk (Kd.R_below (kr_ (HO551.out)) hb)
                   have n2_ := Aside0.mk (Kd.R_below (kr_ (HO560.out)) hb)
                   have n3_ := Aside0.mk (bkb_ BK532.out hb)
                   have n4_ := Aside0.mk (bkb_ BK548.out hb)
                   have n5_ := Aside0.mk (bkb_ BK557.out hb)
                   have n6_ := Aside0.mk (below_step (hb_ HB.out) hb)
                   have n7_ := Aside0.mk (hbox)
                   have n8_ := Aside0.mk ((by rw [hg]; exact (below_size (hb_ HB.out)) : w.heap.size ≤ gb566))
                   have n9_ := Aside0.mk ((by rw [hg]; exact (below_size (hb_ HB.out)) : w.heap.size ≤ gb566))
                   have n10_ := Aside0.mk ((by rw [hg]; exact Nat.ne_of_lt (bkl_ BK532.out) : gb532 ≠ gb566))
                   have n11_ := Aside0.mk ((by rw [hg]; exact Nat.ne_of_gt (bkl_ BK532.out) : gb566 ≠ gb532))
                   have n12_ := Aside0.mk ((by rw [hg]; exact Nat.ne_of_lt (bkl_ BK548.out) : gb548 ≠ gb566))
                   have n13_ := Aside0.mk ((by rw [hg]; exact Nat.ne_of_gt (bkl_ BK548.out) : gb566 ≠ gb548))
                   have n14_ := Aside0.mk ((by rw [hg]; exact Nat.ne_of_lt (bkl_ BK557.out) : gb557 ≠ gb566))
                   have n15_ := Aside0.mk ((by rw [hg]; exact Nat.ne_of_gt (bkl_ BK557.out) : gb566 ≠ gb557))
                   clear HO_9
                   clear HO551
                   clear HO560
                   clear BK532
                   clear BK548
                   clear BK557
                   clear HB
                   have HO_9 := n0_
                   have HO551 := n1_
                   have HO560 := n2_
                   have BK532 := n3_
                   have BK548 := n4_
                   have BK557 := n5_
                   have HB := n6_
                   have BK566 := n7_
                   have GW566 := n8_
                   have GE566 := n9_
                   have NB532_566 := n10_
                   have NB566_532 := n11_
                   have NB548_566 := n12_
                   have NB566_548 := n13_
                   have NB557_566 := n14_
                   have NB566_557 := n15_
                   clear n0_ n1_ n2_ n3_ n4_ n5_ n6_ n7_ n8_ n9_ n10_ n11_ n12_ n13_ n14_ n15_
                   clear hb hbox hg
                   obtain ⟨Ao61, co61, eo61⟩ := Kd.R_slice HO560.out
                   (first | subst eo61 | (injection eo61 with f1_ f2_ f3_; have f4_ := f1_.symm; have f5_ := f3_.symm; clear f1_ f2_ f3_; subst f4_; subst f5_))
                   refine hK.out _ _ ⟨(blk_cell BK548.out 0).trans rfl, (blk_cell BK548.out 1).trans rfl⟩ (fun hHeld => ?_)
                   clear hK K
                   refine norm_ (a' := ?_) ?_ ?_
                   rotate_left
                   ·show Act.put _ (some 17) _ = _
                    simp only [Act.put, List.setIfInBounds_toArray, List.set_cons_zero, List.set_cons_succ, i64_w, i32_w]
                    rfl
                   refine one_ (i := 4) (N := some 90) #[true, true, true, true, true, false, false, false, false, false, true, false, false, false, false] rfl rfl (one_of HT_.out (by kernel_rfl)) (by decide) (fun K hK => ?_)
                   refine goes_ Try.func10 (by kernel_rfl) rfl #[.slice Ao61 t558.length co61, .agg #[.int .i64 a1_1, .int .i64 a1_0], .int .i64 a2] (by rfl) rfl rfl al_ ?_
                   with_reducible refine (tags_Go.calls k1 _ _ t558 a1_1 a1_0 a2 t561 t562 t563 t564 t565 _ ?side1 ?side2 A21.out).mono ?_
                   (case side1 => exact kc_ (Kd.R_reads' HO560.out).2.2)
                   (case side2 => exact (Kd.R_reads' HO560.out).2.1)
                   rintro e w62 ⟨rfl, hb⟩
                   refine ⟨_, rfl, ?_⟩
                   have n0_ := Aside0.mk (Kd.R_below (kr_ (HO_9.out)) hb)
                   have n1_ := Aside0.mk (Kd.R_below (kr_ (HO551.out)) hb)
                   have n2_ := Aside0.mk (Kd.R_below (kr_ (HO560.out)) hb)
                   have n3_ := Aside0.mk (bkb_ BK532.out hb)
                   have n4_ := Aside0.mk (bkb_ BK548.out hb)
                   have n5_ := Aside0.mk (bkb_ BK557.out hb)
                   have n6_ := Aside0.mk (bkb_ BK566.out hb)
                   have n7_ := Aside0.mk (below_step (hb_ HB.out) hb)
                   clear HO_9
                   clear HO551
                   clear HO560
                   clear BK532
                   clear BK548
                   clear BK557
                   clear BK566
                   clear HB
                   have HO_9 := n0_
                   have HO551 := n1_
                   have HO560 := n2_
                   have BK532 := n3_
                   have BK548 := n4_
                   have BK557 := n5_
                   have BK566 := n6_
                   have HB := n7_
                   clear n0_ n1_ n2_ n3_ n4_ n5_ n6_ n7_
                   (try clear hb)
                   (try clear hb2)
                   (try clear hk)
                   (try clear hi)
                   refine hK.out _ _ ⟨(blk_cell BK548.out 0).trans rfl, (blk_cell BK548.out 1).trans rfl⟩ (fun hHeld => ?_)
                   clear hK K
                   refine norm_ (a' := ?_) ?_ ?_
                   rotate_left
                   ·show Act.put _ (some 90) _ = _
                    simp only [Act.put, List.setIfInBounds_toArray, List.set_cons_zero, List.set_cons_succ, i64_w, i32_w]
                    rfl
                   refine pure_ (i := 5) (N := some 85) (v := ?_) (a' := ?_) #[true, true, true, true, true, true, false, false, false, false, true, false, false, false, false] rfl rfl (any_of HT_.out (by kernel_rfl)) (fun _ _ _ h => h) (Or.inl ⟨by rfl, ?_⟩) ?_ ?_
                   rotate_left
                   ·intro w'
                    go_simp
                    with_reducible rfl
                   rotate_left
                   ·simp only [Act.put, List.setIfInBounds_toArray, List.set_cons_zero, List.set_cons_succ, i64_w, i32_w]
                    rfl
                   refine pure_ (i := 6) (N := some 91) (v := ?_) (a' := ?_) #[true, true, true, true, true, true, true, false, false, false, true, false, false, false, false] rfl rfl (any_of HT_.out (by kernel_rfl)) (fun _ _ _ h => h) (Or.inl ⟨by rfl, ?_⟩) ?_ ?_
                   rotate_left
                   ·intro w'
                    go_simp
                    with_reducible rfl
                   rotate_left
                   ·simp only [Act.put, List.setIfInBounds_toArray, List.set_cons_zero, List.set_cons_succ, i64_w, i32_w]
                    rfl
                   refine pure_ (i := 7) (N := some 92) (v := ?_) (a' := ?_) #[true, true, true, true, true, true, true, true, false, false, true, false, false, false, false] rfl rfl (any_of HT_.out (by kernel_rfl)) (fun _ _ _ h => h) (Or.inl ⟨by rfl, ?_⟩) ?_ ?_
                   rotate_left
                   ·intro w'
                    go_simp
                    with_reducible rfl
                   rotate_left
                   ·simp only [Act.put, List.setIfInBounds_toArray, List.set_cons_zero, List.set_cons_succ, i64_w, i32_w]
                    rfl
                   refine pure_ (i := 8) (N := some 93) (v := ?_) (a' := ?_) #[true, true, true, true, true, true, true, true, true, false, true, false, false, false, false] rfl rfl (any_of HT_.out (by kernel_rfl)) (fun _ _ _ h => h) (Or.inl ⟨by rfl, ?_⟩) ?_ ?_
                   rotate_left
                   ·intro w'
                    go_simp
                    with_reducible rfl
                   rotate_left
                   ·simp only [Act.put, List.setIfInBounds_toArray, List.set_cons_zero, List.set_cons_succ, i64_w, i32_w]
                    rfl
                   refine pure_ (i := 9) (N := some 94) (v := ?_) (a' := ?_) #[true, true, true, true, true, true, true, true, true, true, true, false, false, false, false] rfl rfl (any_of HT_.out (by kernel_rfl)) (fun _ _ _ h => h) (Or.inl ⟨by rfl, ?_⟩) ?_ ?_
                   rotate_left
                   ·intro w'
                    go_simp
                    with_reducible rfl
                   rotate_left
                   ·simp only [Act.put, List.setIfInBounds_toArray, List.set_cons_zero, List.set_cons_succ, i64_w, i32_w]
                    rfl
                   exact norm_ (by simp only [putAll, Act.put, List.setIfInBounds_toArray, List.set_cons_zero, List.set_cons_succ]) (hCont (.slice Ao61 t558.length co61, gb566) _ ⟨hHeld, (by (with_reducible repeat (first | apply Kd.R_alloc | apply Kd.R_drewN | apply Kd.R_drew)); exact Kd.R_mono HO551.out (fun _ hk => ⟨hk.2, hk.1⟩)), (by (with_reducible repeat (first | apply Kd.R_alloc | apply Kd.R_drewN | apply Kd.R_drew)); exact Kd.R_mono HO560.out (fun _ hk => ⟨hk.2, hk.1.2⟩)), (kr_ (HO_9.out)), (bk_ BK532.out), (bk_ BK548.out), (bk_ BK557.out), (bk_ BK566.out), GW566.out, GE566.out, NB532_566.out, NB566_532.out, NB548_566.out, NB566_548.out, NB557_566.out, NB566_557.out, (hb_ HB.out)⟩)
                 ·skip
                  refine box_step ?hg (N := 17) ?hd (cs := #[.int .i64 0, .int .i64 0]) (t := 23) ?hr ?_; (case hd => rfl); (case hg => rfl); (case hr => first | (go_simp; done) | (go_simp; rfl))
                  intro gb566 hg w59 hbox hb
                  have n0_ := Aside0.mk (Kd.R_below (kr_ (HO_9.out)) hb)
                  have n1_ := Aside0.mk (Kd.R_below (kr_ (HO551.out)) hb)
                  have n2_ := Aside0.mk (bkb_ BK532.out hb)
                  have n3_ := Aside0.mk (bkb_ BK548.out hb)
                  have n4_ := Aside0.mk (bkb_ BK557.out hb)
                  have n5_ := Aside0.mk (below_step (hb_ HB.out) hb)
                  have n6_ := Aside0.mk (hbox)
                  have n7_ := Aside0.mk ((by rw [hg]; exact (below_size (hb_ HB.out)) : w.heap.size ≤ gb566))
                  have n8_ := Aside0.mk ((by rw [hg]; exact (below_size (hb_ HB.out)) : w.heap.size ≤ gb566))
                  have n9_ := Aside0.mk ((by rw [hg]; exact Nat.ne_of_lt (bkl_ BK532.out) : gb532 ≠ gb566))
                  have n10_ := Aside0.mk ((by rw [hg]; exact Nat.ne_of_gt (bkl_ BK532.out) : gb566 ≠ gb532))
                  have n11_ := Aside0.mk ((by rw [hg]; exact Nat.ne_of_lt (bkl_ BK548.out) : gb548 ≠ gb566))
                  have n12_ := Aside0.mk ((by rw [hg]; exact Nat.ne_of_gt (bkl_ BK548.out) : gb566 ≠ gb548))
                  have n13_ := Aside0.mk ((by rw [hg]; exact Nat.ne_of_lt (bkl_ BK557.out) : gb557 ≠ gb566))
                  have n14_ := Aside0.mk ((by rw [hg]; exact Nat.ne_of_gt (bkl_ BK557.out) : gb566 ≠ gb557))
                  clear HO_9
                  clear HO551
                  clear BK532
                  clear BK548
                  clear BK557
                  clear HB
                  have HO_9 := n0_
                  have HO551 := n1_
                  have BK532 := n2_
                  have BK548 := n3_
                  have BK557 := n4_
                  have HB := n5_
                  have BK566 := n6_
                  have GW566 := n7_
                  have GE566 := n8_
                  have NB532_566 := n9_
                  have NB566_532 := n10_
                  have NB548_566 := n11_
                  have NB566_548 := n12_
                  have NB557_566 := n13_
                  have NB566_557 := n14_
                  clear n0_ n1_ n2_ n3_ n4_ n5_ n6_ n7_ n8_ n9_ n10_ n11_ n12_ n13_ n14_
                  clear hb hbox hg
                  refine hK.out _ _ ⟨(blk_cell BK548.out 0).trans rfl, (blk_cell BK548.out 1).trans rfl⟩ (fun hHeld => ?_)
                  clear hK K
                  refine norm_ (a' := ?_) ?_ ?_
                  rotate_left
                  ·show Act.put _ (some 17) _ = _
                   simp only [Act.put, List.setIfInBounds_toArray, List.set_cons_zero, List.set_cons_succ, i64_w, i32_w]
                   rfl
                  refine one_ (i := 1) (N := some 87) #[true, true, true, true, false, false, false, false, false, false, true, false, false, false, false] rfl rfl (one_of HT_.out (by kernel_rfl)) (by decide) (fun K hK => ?_)
                  refine goes_ Try.func28 (by kernel_rfl) rfl #[.slice Ao10 x9_1.length co10] (by rfl) rfl rfl al_ ?_
                  with_reducible refine (tags_Order_28.calls _ _ x9_1 t558 _ ?side1 ?side2 A20.out).mono ?_
                  (case side1 => exact kc_ (Kd.R_reads' HO_9.out).2.2)
                  (case side2 => exact (Kd.R_reads' HO_9.out).2.1)
                  rintro e w60 ⟨v559, rfl, ho0, hb⟩
                  refine ⟨_, rfl, ?_⟩
                  have n0_ := Aside0.mk (Kd.R_elder' (kr_ (HO_9.out)) (Kd.R_base ho0) hb)
                  have n1_ := Aside0.mk (Kd.R_elder' (kr_ (HO551.out)) (Kd.R_base ho0) hb)
                  have n2_ := Aside0.mk (Kd.R_lower (Kd.R_new' (Kd.R_new' ho0 (Kd.R_lt (kr_ (HO_9.out)))) (Kd.R_lt (kr_ (HO551.out)))) (below_size (hb_ HB.out)))
                  have n3_ := Aside0.mk (bkb_ BK532.out hb)
                  have n4_ := Aside0.mk (bkb_ BK548.out hb)
                  have n5_ := Aside0.mk (bkb_ BK557.out hb)
                  have n6_ := Aside0.mk (bkb_ BK566.out hb)
                  have n7_ := Aside0.mk (below_step (hb_ HB.out) hb)
                  clear HO_9
                  clear HO551
                  clear BK532
                  clear BK548
                  clear BK557
                  clear BK566
                  clear HB
                  have HO_9 := n0_
                  have HO551 := n1_
                  have HO560 := n2_
                  have BK532 := n3_
                  have BK548 := n4_
                  have BK557 := n5_
                  have BK566 := n6_
                  have HB := n7_
                  clear n0_ n1_ n2_ n3_ n4_ n5_ n6_ n7_
                  (try clear hb)
                  (try clear hb2)
                  (try clear hk)
                  (try clear hi)
                  (try clear ho0)
                  obtain ⟨Ao61, co61, eo61⟩ := Kd.R_slice HO560.out
                  (first | subst eo61 | (injection eo61 with f1_ f2_ f3_; have f4_ := f1_.symm; have f5_ := f3_.symm; clear f1_ f2_ f3_; subst f4_; subst f5_))
                  refine hK.out _ _ ⟨(blk_cell BK548.out 0).trans rfl, (blk_cell BK548.out 1).trans rfl⟩ (fun hHeld => ?_)
                  clear hK K
                  refine norm_ (a' := ?_) ?_ ?_
                  rotate_left
                  ·show Act.put _ (some 87) _ = _
                   simp only [Act.put, List.setIfInBounds_toArray, List.set_cons_zero, List.set_cons_succ, i64_w, i32_w]
                   rfl
                  refine one_ (i := 4) (N := some 90) #[true, true, true, true, true, false, false, false, false, false, true, false, false, false, false] rfl rfl (one_of HT_.out (by kernel_rfl)) (by decide) (fun K hK => ?_)
                  refine goes_ Try.func10 (by kernel_rfl) rfl #[.slice Ao61 t558.length co61, .agg #[.int .i64 a1_1, .int .i64 a1_0], .int .i64 a2] (by rfl) rfl rfl al_ ?_
                  with_reducible refine (tags_Go.calls k1 _ _ t558 a1_1 a1_0 a2 t561 t562 t563 t564 t565 _ ?side1 ?side2 A21.out).mono ?_
                  (case side1 => exact kc_ (Kd.R_reads' HO560.out).2.2)
                  (case side2 => exact (Kd.R_reads' HO560.out).2.1)
                  rintro e w62 ⟨rfl, hb⟩
                  refine ⟨_, rfl, ?_⟩
                  have n0_ := Aside0.mk (Kd.R_below (kr_ (HO_9.out)) hb)
                  have n1_ := Aside0.mk (Kd.R_below (kr_ (HO551.out)) hb)
                  have n2_ := Aside0.mk (Kd.R_below (kr_ (HO560.out)) hb)
                  have n3_ := Aside0.mk (bkb_ BK532.out hb)
                  have n4_ := Aside0.mk (bkb_ BK548.out hb)
                  have n5_ := Aside0.mk (bkb_ BK557.out hb)
                  have n6_ := Aside0.mk (bkb_ BK566.out hb)
                  have n7_ := Aside0.mk (below_step (hb_ HB.out) hb)
                  clear HO_9
                  clear HO551
                  clear HO560
                  clear BK532
                  clear BK548
                  clear BK557
                  clear BK566
                  clear HB
                  have HO_9 := n0_
                  have HO551 := n1_
                  have HO560 := n2_
                  have BK532 := n3_
                  have BK548 := n4_
                  have BK557 := n5_
                  have BK566 := n6_
                  have HB := n7_
                  clear n0_ n1_ n2_ n3_ n4_ n5_ n6_ n7_
                  (try clear hb)
                  (try clear hb2)
                  (try clear hk)
                  (try clear hi)
                  refine hK.out _ _ ⟨(blk_cell BK548.out 0).trans rfl, (blk_cell BK548.out 1).trans rfl⟩ (fun hHeld => ?_)
                  clear hK K
                  refine norm_ (a' := ?_) ?_ ?_
                  rotate_left
                  ·show Act.put _ (some 90) _ = _
                   simp only [Act.put, List.setIfInBounds_toArray, List.set_cons_zero, List.set_cons_succ, i64_w, i32_w]
                   rfl
                  refine pure_ (i := 5) (N := some 85) (v := ?_) (a' := ?_) #[true, true, true, true, true, true, false, false, false, false, true, false, false, false, false] rfl rfl (any_of HT_.out (by kernel_rfl)) (fun _ _ _ h => h) (Or.inl ⟨by rfl, ?_⟩) ?_ ?_
                  rotate_left
                  ·intro w'
                   go_simp
                   with_reducible rfl
                  rotate_left
                  ·simp only [Act.put, List.setIfInBounds_toArray, List.set_cons_zero, List.set_cons_succ, i64_w, i32_w]
                   rfl
                  refine pure_ (i := 6) (N := some 91) (v := ?_) (a' := ?_) #[true, true, true, true, true, true, true, false, false, false, true, false, false, false, false] rfl rfl (any_of HT_.out (by kernel_rfl)) (fun _ _ _ h => h) (Or.inl ⟨by rfl, ?_⟩) ?_ ?_
                  rotate_left
                  ·intro w'
                   go_simp
                   with_reducible rfl
                  rotate_left
                  ·simp only [Act.put, List.setIfInBounds_toArray, List.set_cons_zero, List.set_cons_succ, i64_w, i32_w]
                   rfl
                  refine pure_ (i := 7) (N := some 92) (v := ?_) (a' := ?_) #[true, true, true, true, true, true, true, true, false, false, true, false, false, false, false] rfl rfl (any_of HT_.out (by kernel_rfl)) (fun _ _ _ h => h) (Or.inl ⟨by rfl, ?_⟩) ?_ ?_
                  rotate_left
                  ·intro w'
                   go_simp
                   with_reducible rfl
                  rotate_left
                  ·simp only [Act.put, List.setIfInBounds_toArray, List.set_cons_zero, List.set_cons_succ, i64_w, i32_w]
                   rfl
                  refine pure_ (i := 8) (N := some 93) (v := ?_) (a' := ?_) #[true, true, true, true, true, true, true, true, true, false, true, false, false, false, false] rfl rfl (any_of HT_.out (by kernel_rfl)) (fun _ _ _ h => h) (Or.inl ⟨by rfl, ?_⟩) ?_ ?_
                  rotate_left
                  ·intro w'
                   go_simp
                   with_reducible rfl
                  rotate_left
                  ·simp only [Act.put, List.setIfInBounds_toArray, List.set_cons_zero, List.set_cons_succ, i64_w, i32_w]
                   rfl
                  refine pure_ (i := 9) (N := some 94) (v := ?_) (a' := ?_) #[true, true, true, true, true, true, true, true, true, true, true, false, false, false, false] rfl rfl (any_of HT_.out (by kernel_rfl)) (fun _ _ _ h => h) (Or.inl ⟨by rfl, ?_⟩) ?_ ?_
                  rotate_left
                  ·intro w'
                   go_simp
                   with_reducible rfl
                  rotate_left
                  ·simp only [Act.put, List.setIfInBounds_toArray, List.set_cons_zero, List.set_cons_succ, i64_w, i32_w]
                   rfl
                  exact norm_ (by simp only [putAll, Act.put, List.setIfInBounds_toArray, List.set_cons_zero, List.set_cons_succ]) (hCont (.slice Ao61 t558.length co61, gb566) _ ⟨hHeld, (by (with_reducible repeat (first | apply Kd.R_alloc | apply Kd.R_drewN | apply Kd.R_drew)); exact Kd.R_mono HO551.out (fun _ hk => ⟨hk.2, hk.1⟩)), (by (with_reducible repeat (first | apply Kd.R_alloc | apply Kd.R_drewN | apply Kd.R_drew)); exact Kd.R_mono HO560.out (fun _ hk => ⟨hk.2, hk.1.2⟩)), (kr_ (HO_9.out)), (bk_ BK532.out), (bk_ BK548.out), (bk_ BK557.out), (bk_ BK566.out), GW566.out, GE566.out, NB532_566.out, NB566_532.out, NB548_566.out, NB566_548.out, NB557_566.out, NB566_557.out, (hb_ HB.out)⟩)
                rintro ⟨v559, gb566⟩ w63 ⟨hS_, h0_, h1_, h2_, h3_, h4_, h5_, h6_, h7_, h8_, h9_, h10_, h11_, h12_, h13_, h14_, h15_⟩
                have n0_ : Aside0 (Kd.R k57 57 w63 w.heap.size (fun k_ => some k_ ≠ (v559 : Value).ownBlock ∧ some k_ ≠ (.slice Ao10 x9_1.length co10 : Value).ownBlock) v550 t549) := ⟨h0_⟩
                have n1_ : Aside0 (Kd.R k57 57 w63 w.heap.size (fun k_ => some k_ ≠ (v550 : Value).ownBlock ∧ some k_ ≠ (.slice Ao10 x9_1.length co10 : Value).ownBlock) v559 t558) := ⟨h1_⟩
                have n2_ : Aside0 (Kd.R k57 57 w63 w.heap.size (fun k_ => some k_ ≠ (v550 : Value).ownBlock ∧ some k_ ≠ (v559 : Value).ownBlock) (.slice Ao10 x9_1.length co10) x9_1) := ⟨h2_⟩
                have n3_ : Aside0 (w63.heap[gb532]? = some (.cells #[.int .i64 a1_0, .int .i64 a1_1] 23 (0, 0))) := ⟨h3_⟩
                have n4_ : Aside0 (w63.heap[gb548]? = some (.cells #[.int .i64 a1_1, .int .i64 a1_0] 23 (0, 0))) := ⟨h4_⟩
                have n5_ : Aside0 (w63.heap[gb557]? = some (.cells #[.int .i64 t553, .int .i64 t554] 23 (0, 0))) := ⟨h5_⟩
                have n6_ : Aside0 (w63.heap[gb566]? = some (.cells #[.int .i64 0, .int .i64 0] 23 (0, 0))) := ⟨h6_⟩
                have n7_ : Aside0 (w.heap.size ≤ gb566) := ⟨h7_⟩
                have n8_ : Aside0 (w.heap.size ≤ gb566) := ⟨h8_⟩
                have n9_ : Aside0 (gb532 ≠ gb566) := ⟨h9_⟩
                have n10_ : Aside0 (gb566 ≠ gb532) := ⟨h10_⟩
                have n11_ : Aside0 (gb548 ≠ gb566) := ⟨h11_⟩
                have n12_ : Aside0 (gb566 ≠ gb548) := ⟨h12_⟩
                have n13_ : Aside0 (gb557 ≠ gb566) := ⟨h13_⟩
                have n14_ : Aside0 (gb566 ≠ gb557) := ⟨h14_⟩
                have n15_ : Aside0 (Below w.heap.size w w63) := ⟨h15_⟩
                clear HO_9
                clear HO551
                clear BK532
                clear BK548
                clear BK557
                clear HB
                clear h0_ h1_ h2_ h3_ h4_ h5_ h6_ h7_ h8_ h9_ h10_ h11_ h12_ h13_ h14_ h15_
                have HO551 := n0_
                have HO560 := n1_
                have HO_9 := n2_
                have BK532 := n3_
                have BK548 := n4_
                have BK557 := n5_
                have BK566 := n6_
                have GW566 := n7_
                have GE566 := n8_
                have NB532_566 := n9_
                have NB566_532 := n10_
                have NB548_566 := n11_
                have NB566_548 := n12_
                have NB557_566 := n13_
                have NB566_557 := n14_
                have HB := n15_
                clear n0_ n1_ n2_ n3_ n4_ n5_ n6_ n7_ n8_ n9_ n10_ n11_ n12_ n13_ n14_ n15_
                have hHeld : w63.cell? ⟨gb548, 0, none⟩ = some (.int .i64 a1_1) ∧ w63.cell? ⟨gb548, 1, none⟩ = some (.int .i64 a1_0) := hS_
                refine norm_ (a' := ?_) ?_ ?_
                rotate_left
                ·simp only [putAll, Act.put, List.setIfInBounds_toArray, List.set_cons_zero, List.set_cons_succ]
                 rfl
                refine pure_ (i := 11) (N := some 16) (v := ?_) (a' := ?_) #[true, true, true, true, true, true, true, true, true, true, true, true, false, false, false] rfl rfl (any_of HT_.out (by kernel_rfl)) (fun _ _ _ h => h) (Or.inl ⟨by rfl, ?_⟩) ?_ ?_
                rotate_left
                ·intro w'
                 go_simp
                 with_reducible rfl
                rotate_left
                ·simp only [Act.put, List.setIfInBounds_toArray, List.set_cons_zero, List.set_cons_succ, i64_w, i32_w]
                 rfl
                refine one_ (i := 12) (N := none) #[true, true, true, true, true, true, true, true, true, true, true, true, true, false, false] rfl rfl (one_of HT_.out (by kernel_rfl)) (by decide) (fun K hK => ?_)
                have hs64 : w63.cell? ⟨gb566, 0, none⟩ = some (.int .i64 0) := (blk_cell BK566.out 0).trans rfl
                have hfs64 := blk_frozen BK566.out 0
                have hns64_0 := NB532_566.out
                have hns64_1 := NB548_566.out
                have hns64_2 := NB557_566.out
                have hms64_0 := NB566_532.out
                have hms64_1 := NB566_548.out
                have hms64_2 := NB566_557.out
                have hs65 : w63.cell? ⟨gb566, 1, none⟩ = some (.int .i64 0) := (blk_cell BK566.out 1).trans rfl
                have hfs65 := blk_frozen BK566.out 1
                have hns65_0 := NB532_566.out
                have hns65_1 := NB548_566.out
                have hns65_2 := NB557_566.out
                have hms65_0 := NB566_532.out
                have hms65_1 := NB566_548.out
                have hms65_2 := NB566_557.out
                refine skip_ (w1 := ?_) (by rfl) rfl ?_ ?_
                rotate_left
                ·go_simp
                 rfl
                refine hK.out _ _ ⟨((cell_far (p := ⟨gb566, _, none⟩) NB548_566.out _).trans (((cell_far (p := ⟨gb566, _, none⟩) NB548_566.out _).trans (hHeld.1)))), ((cell_far (p := ⟨gb566, _, none⟩) NB548_566.out _).trans (((cell_far (p := ⟨gb566, _, none⟩) NB548_566.out _).trans (hHeld.2))))⟩ (fun hHeld => ?_)
                clear hK K
                refine pure_ (i := 13) (N := some 18) (v := ?_) (a' := ?_) #[true, true, true, true, true, true, true, true, true, true, true, true, true, true, false] rfl rfl (any_of HT_.out (by kernel_rfl)) (fun _ _ _ h => h) (Or.inl ⟨by rfl, ?_⟩) ?_ ?_
                rotate_left
                ·intro w'
                 go_simp
                 with_reducible rfl
                rotate_left
                ·simp only [Act.put, List.setIfInBounds_toArray, List.set_cons_zero, List.set_cons_succ, i64_w, i32_w]
                 rfl
                refine pure_ (i := 14) (N := some 19) (v := ?_) (a' := ?_) #[true, true, true, true, true, true, true, true, true, true, true, true, true, true, true] rfl rfl (any_of HT_.out (by kernel_rfl)) (fun _ _ _ h => h) (Or.inl ⟨by rfl, ?_⟩) ?_ ?_
                rotate_left
                ·intro w'
                 go_simp
                 with_reducible rfl
                rotate_left
                ·simp only [Act.put, List.setIfInBounds_toArray, List.set_cons_zero, List.set_cons_succ, i64_w, i32_w]
                 rfl
                refine done_ (done_of HT_.out (by kernel_rfl)) ?_
                try go_wp2
                have n0_ : Aside0 (Kd.R k57 57 ((w63.setCell ⟨gb566, 0, none⟩ (.int .i64 t562)).setCell ⟨gb566, 1, none⟩ (.int .i64 t563)) w.heap.size (fun k_ => some k_ ≠ (v550 : Value).ownBlock ∧ some k_ ≠ (v559 : Value).ownBlock) (.slice Ao10 x9_1.length co10) x9_1) := ⟨by (with_reducible repeat (first | apply Kd.R_alloc | apply Kd.R_drewN | apply Kd.R_drew)); exact Kd.R_mono (Kd.R_far (p := ⟨gb566, 1, none⟩) (Kd.R_far (p := ⟨gb566, 0, none⟩) (Kd.R_types HO_9.out BK566.out (by decide)) (fun _ hk => hk.2) (.int .i64 t562)) (fun _ hk => hk.2) (.int .i64 t563)) (fun _ hk => ⟨hk.1.1, hk.1.2⟩)⟩
                have n1_ : Aside0 (Kd.R k57 57 ((w63.setCell ⟨gb566, 0, none⟩ (.int .i64 t562)).setCell ⟨gb566, 1, none⟩ (.int .i64 t563)) w.heap.size (fun k_ => some k_ ≠ (.slice Ao10 x9_1.length co10 : Value).ownBlock ∧ some k_ ≠ (v559 : Value).ownBlock) v550 t549) := ⟨by (with_reducible repeat (first | apply Kd.R_alloc | apply Kd.R_drewN | apply Kd.R_drew)); exact Kd.R_mono (Kd.R_far (p := ⟨gb566, 1, none⟩) (Kd.R_far (p := ⟨gb566, 0, none⟩) (Kd.R_types HO551.out BK566.out (by decide)) (fun _ hk => hk.2) (.int .i64 t562)) (fun _ hk => hk.2) (.int .i64 t563)) (fun _ hk => ⟨hk.1.2, hk.1.1⟩)⟩
                have n2_ : Aside0 (Kd.R k57 57 ((w63.setCell ⟨gb566, 0, none⟩ (.int .i64 t562)).setCell ⟨gb566, 1, none⟩ (.int .i64 t563)) w.heap.size (fun k_ => some k_ ≠ (.slice Ao10 x9_1.length co10 : Value).ownBlock ∧ some k_ ≠ (v550 : Value).ownBlock) v559 t558) := ⟨by (with_reducible repeat (first | apply Kd.R_alloc | apply Kd.R_drewN | apply Kd.R_drew)); exact Kd.R_mono (Kd.R_far (p := ⟨gb566, 1, none⟩) (Kd.R_far (p := ⟨gb566, 0, none⟩) (Kd.R_types HO560.out BK566.out (by decide)) (fun _ hk => hk.2) (.int .i64 t562)) (fun _ hk => hk.2) (.int .i64 t563)) (fun _ hk => ⟨hk.1.2, hk.1.1⟩)⟩
                have n3_ : Aside0 (((w63.setCell ⟨gb566, 0, none⟩ (.int .i64 t562)).setCell ⟨gb566, 1, none⟩ (.int .i64 t563)).heap[gb532]? = some (.cells #[.int .i64 a1_0, .int .i64 a1_1] 23 (0, 0))) := ⟨by (with_reducible repeat (first | refine blk_drewN ?_ _ | refine blk_drew ?_ | refine blk_alloc ?_ _)); refine blk_far ?_ NB532_566.out _; (with_reducible repeat (first | refine blk_drewN ?_ _ | refine blk_drew ?_ | refine blk_alloc ?_ _)); refine blk_far ?_ NB532_566.out _; (with_reducible repeat (first | refine blk_drewN ?_ _ | refine blk_drew ?_ | refine blk_alloc ?_ _)); exact BK532.out⟩
                have n4_ : Aside0 (((w63.setCell ⟨gb566, 0, none⟩ (.int .i64 t562)).setCell ⟨gb566, 1, none⟩ (.int .i64 t563)).heap[gb548]? = some (.cells #[.int .i64 a1_1, .int .i64 a1_0] 23 (0, 0))) := ⟨by (with_reducible repeat (first | refine blk_drewN ?_ _ | refine blk_drew ?_ | refine blk_alloc ?_ _)); refine blk_far ?_ NB548_566.out _; (with_reducible repeat (first | refine blk_drewN ?_ _ | refine blk_drew ?_ | refine blk_alloc ?_ _)); refine blk_far ?_ NB548_566.out _; (with_reducible repeat (first | refine blk_drewN ?_ _ | refine blk_drew ?_ | refine blk_alloc ?_ _)); exact BK548.out⟩
                have n5_ : Aside0 (((w63.setCell ⟨gb566, 0, none⟩ (.int .i64 t562)).setCell ⟨gb566, 1, none⟩ (.int .i64 t563)).heap[gb557]? = some (.cells #[.int .i64 t553, .int .i64 t554] 23 (0, 0))) := ⟨by (with_reducible repeat (first | refine blk_drewN ?_ _ | refine blk_drew ?_ | refine blk_alloc ?_ _)); refine blk_far ?_ NB557_566.out _; (with_reducible repeat (first | refine blk_drewN ?_ _ | refine blk_drew ?_ | refine blk_alloc ?_ _)); refine blk_far ?_ NB557_566.out _; (with_reducible repeat (first | refine blk_drewN ?_ _ | refine blk_drew ?_ | refine blk_alloc ?_ _)); exact BK557.out⟩
                have n6_ : Aside0 (((w63.setCell ⟨gb566, 0, none⟩ (.int .i64 t562)).setCell ⟨gb566, 1, none⟩ (.int .i64 t563)).heap[gb566]? = some (.cells #[.int .i64 t562, .int .i64 t563] 23 (0, 0))) := ⟨by (with_reducible repeat (first | refine blk_drewN ?_ _ | refine blk_drew ?_ | refine blk_alloc ?_ _)); refine blk_put (cs := #[.int .i64 t562, .int .i64 0]) ?_ 1 _ rfl; (with_reducible repeat (first | refine blk_drewN ?_ _ | refine blk_drew ?_ | refine blk_alloc ?_ _)); refine blk_put (cs := #[.int .i64 0, .int .i64 0]) ?_ 0 _ rfl; (with_reducible repeat (first | refine blk_drewN ?_ _ | refine blk_drew ?_ | refine blk_alloc ?_ _)); exact BK566.out⟩
                have n7_ : Aside0 (Below w.heap.size w ((w63.setCell ⟨gb566, 0, none⟩ (.int .i64 t562)).setCell ⟨gb566, 1, none⟩ (.int .i64 t563))) := ⟨by repeat (first | (with_reducible first | exact HB.out | apply below_alloc | apply pw_below_drewN | apply below_drew1 | refine below_set ?_ GE532.out | refine below_set ?_ GE548.out | refine below_set ?_ GE557.out | refine below_set ?_ GE566.out) | exact HB.out)⟩
                (try clear HO_9)
                (try clear HO551)
                (try clear HO560)
                (try clear BK532)
                (try clear BK548)
                (try clear BK557)
                (try clear BK566)
                (try clear HB)
                generalize ((w63.setCell ⟨gb566, 0, none⟩ (.int .i64 t562)).setCell ⟨gb566, 1, none⟩ (.int .i64 t563)) = w66 at n0_ n1_ n2_ n3_ n4_ n5_ n6_ n7_ ⊢
                have HO_9 := n0_
                have HO551 := n1_
                have HO560 := n2_
                have BK532 := n3_
                have BK548 := n4_
                have BK557 := n5_
                have BK566 := n6_
                have HB := n7_
                clear n0_ n1_ n2_ n3_ n4_ n5_ n6_ n7_
                have n0_ := Aside0.mk (Kd.R_drew HO_9.out)
                have n1_ := Aside0.mk (Kd.R_drew HO551.out)
                have n2_ := Aside0.mk (Kd.R_drew HO560.out)
                have n3_ := Aside0.mk (blk_drew BK532.out)
                have n4_ := Aside0.mk (blk_drew BK548.out)
                have n5_ := Aside0.mk (blk_drew BK557.out)
                have n6_ := Aside0.mk (blk_drew BK566.out)
                have n7_ := Aside0.mk (below_drew1 HB.out)
                clear HO_9
                clear HO551
                clear HO560
                clear BK532
                clear BK548
                clear BK557
                clear BK566
                clear HB
                have HO_9 := n0_
                have HO551 := n1_
                have HO560 := n2_
                have BK532 := n3_
                have BK548 := n4_
                have BK557 := n5_
                have BK566 := n6_
                have HB := n7_
                clear n0_ n1_ n2_ n3_ n4_ n5_ n6_ n7_
                refine start_ (n := 9) (S := fun w' => w'.cell? ⟨gb532, 0, none⟩ = some (.int .i64 a1_0) ∧ w'.cell? ⟨gb532, 1, none⟩ = some (.int .i64 a1_1)) (ds := []) #[false, false, false, false, false, false, false, false, false] (by kernel_rfl) rfl rfl ⟨(blk_cell BK532.out 0).trans rfl, (blk_cell BK532.out 1).trans rfl⟩ (fun hHeld => ?_); refine with_tabW comfitlaw06_TagsExchanged.tab14 comfitlaw06_TagsExchanged.bits14 (fun HT_ HW_ => ?_)
                generalize w66.drew = w67 at HO_9 HO551 HO560 BK532 BK548 BK557 BK566 HB hHeld ⊢
                refine pure_ (i := 0) (N := some 96) (v := ?_) (a' := ?_) #[true, false, false, false, false, false, false, false, false] rfl rfl (any_of HT_.out (by kernel_rfl)) (fun _ _ _ h => h) (Or.inl ⟨by rfl, ?_⟩) ?_ ?_
                rotate_left
                ·intro w'
                 go_simp
                 with_reducible rfl
                rotate_left
                ·simp only [Act.put, List.setIfInBounds_toArray, List.set_cons_zero, List.set_cons_succ, i64_w, i32_w]
                 rfl
                refine take_ (i := 2) (N := some 98) (v := ?_) (a' := ?_) #[true, false, true, false, false, false, false, false, false] rfl rfl (take_ofW HT_.out HW_.out (by kernel_rfl)) (fun _ _ _ h => h) (Or.inl ⟨by rfl, ?_⟩) hHeld ?_ ?_
                rotate_left
                ·rintro w' ⟨s0, s1⟩
                 go_simp
                 with_reducible rfl
                rotate_left
                ·simp only [Act.put, List.setIfInBounds_toArray, List.set_cons_zero, List.set_cons_succ, i64_w, i32_w]
                 rfl
                refine one_ (i := 1) (N := some 97) #[true, true, true, false, false, false, false, false, false] rfl rfl (one_of HT_.out (by kernel_rfl)) (by decide) (fun K hK => ?_)
                refine goes_ Try.func11 (by kernel_rfl) rfl #[.slice A0 l0.length c0] (by rfl) rfl rfl al_ ?_
                with_reducible refine (comfitlaw06_Of.calls k1 _ _ l0 t567 _ ?side1 ?side2 A22.out).mono ?_
                (case side1 => exact kc_ (Kd.C_below HR0.out HB.out))
                (case side2 => exact HC0.out)
                rintro e w68 ⟨v568, rfl, ho0, hb⟩
                refine ⟨_, rfl, ?_⟩
                have n0_ := Aside0.mk (Kd.R_elder' (kr_ (HO_9.out)) (Kd.R_base ho0) hb)
                have n1_ := Aside0.mk (Kd.R_elder' (kr_ (HO551.out)) (Kd.R_base ho0) hb)
                have n2_ := Aside0.mk (Kd.R_elder' (kr_ (HO560.out)) (Kd.R_base ho0) hb)
                have n3_ := Aside0.mk (Kd.R_lower (Kd.R_new' (Kd.R_new' (Kd.R_new' ho0 (Kd.R_lt (kr_ (HO_9.out)))) (Kd.R_lt (kr_ (HO551.out)))) (Kd.R_lt (kr_ (HO560.out)))) (below_size (hb_ HB.out)))
                have n4_ := Aside0.mk (bkb_ BK532.out hb)
                have n5_ := Aside0.mk (bkb_ BK548.out hb)
                have n6_ := Aside0.mk (bkb_ BK557.out hb)
                have n7_ := Aside0.mk (bkb_ BK566.out hb)
                have n8_ := Aside0.mk (below_step (hb_ HB.out) hb)
                clear HO_9
                clear HO551
                clear HO560
                clear BK532
                clear BK548
                clear BK557
                clear BK566
                clear HB
                have HO_9 := n0_
                have HO551 := n1_
                have HO560 := n2_
                have HO569 := n3_
                have BK532 := n4_
                have BK548 := n5_
                have BK557 := n6_
                have BK566 := n7_
                have HB := n8_
                clear n0_ n1_ n2_ n3_ n4_ n5_ n6_ n7_ n8_
                (try clear hb)
                (try clear hb2)
                (try clear hk)
                (try clear hi)
                (try clear ho0)
                obtain ⟨Ao69, co69, eo69⟩ := Kd.R_slice HO569.out
                (first | subst eo69 | (injection eo69 with f1_ f2_ f3_; have f4_ := f1_.symm; have f5_ := f3_.symm; clear f1_ f2_ f3_; subst f4_; subst f5_))
                refine hK.out _ _ ⟨(blk_cell BK532.out 0).trans rfl, (blk_cell BK532.out 1).trans rfl⟩ (fun hHeld => ?_)
                clear hK K
                refine norm_ (a' := ?_) ?_ ?_
                rotate_left
                ·show Act.put _ (some 97) _ = _
                 simp only [Act.put, List.setIfInBounds_toArray, List.set_cons_zero, List.set_cons_succ, i64_w, i32_w]
                 rfl
                refine one_ (i := 3) (N := some 99) #[true, true, true, true, false, false, false, false, false] rfl rfl (one_of HT_.out (by kernel_rfl)) (by decide) (fun K hK => ?_)
                refine goes_ Try.func16 (by kernel_rfl) rfl #[.slice Ao69 t567.length co69, .agg #[.int .i64 a1_0, .int .i64 a1_1]] (by rfl) rfl rfl al_ ?_
                with_reducible refine (tags_Ends.calls k1 _ _ t567 a1_0 a1_1 t570 t571 _ ?side1 ?side2 A23.out).mono ?_
                (case side1 => exact kc_ (Kd.R_reads' HO569.out).2.2)
                (case side2 => exact (Kd.R_reads' HO569.out).2.1)
                rintro e w70 ⟨rfl, hb⟩
                refine ⟨_, rfl, ?_⟩
                have n0_ := Aside0.mk (Kd.R_below (kr_ (HO_9.out)) hb)
                have n1_ := Aside0.mk (Kd.R_below (kr_ (HO551.out)) hb)
                have n2_ := Aside0.mk (Kd.R_below (kr_ (HO560.out)) hb)
                have n3_ := Aside0.mk (Kd.R_below (kr_ (HO569.out)) hb)
                have n4_ := Aside0.mk (bkb_ BK532.out hb)
                have n5_ := Aside0.mk (bkb_ BK548.out hb)
                have n6_ := Aside0.mk (bkb_ BK557.out hb)
                have n7_ := Aside0.mk (bkb_ BK566.out hb)
                have n8_ := Aside0.mk (below_step (hb_ HB.out) hb)
                clear HO_9
                clear HO551
                clear HO560
                clear HO569
                clear BK532
                clear BK548
                clear BK557
                clear BK566
                clear HB
                have HO_9 := n0_
                have HO551 := n1_
                have HO560 := n2_
                have HO569 := n3_
                have BK532 := n4_
                have BK548 := n5_
                have BK557 := n6_
                have BK566 := n7_
                have HB := n8_
                clear n0_ n1_ n2_ n3_ n4_ n5_ n6_ n7_ n8_
                (try clear hb)
                (try clear hb2)
                (try clear hk)
                (try clear hi)
                refine hK.out _ _ ⟨(blk_cell BK532.out 0).trans rfl, (blk_cell BK532.out 1).trans rfl⟩ (fun hHeld => ?_)
                clear hK K
                refine norm_ (a' := ?_) ?_ ?_
                rotate_left
                ·show Act.put _ (some 99) _ = _
                 simp only [Act.put, List.setIfInBounds_toArray, List.set_cons_zero, List.set_cons_succ, i64_w, i32_w]
                 rfl
                refine pure_ (i := 4) (N := some 95) (v := ?_) (a' := ?_) #[true, true, true, true, true, false, false, false, false] rfl rfl (any_of HT_.out (by kernel_rfl)) (fun _ _ _ h => h) (Or.inl ⟨by rfl, ?_⟩) ?_ ?_
                rotate_left
                ·intro w'
                 go_simp
                 with_reducible rfl
                rotate_left
                ·simp only [Act.put, List.setIfInBounds_toArray, List.set_cons_zero, List.set_cons_succ, i64_w, i32_w]
                 rfl
                refine pure_ (i := 5) (N := some 100) (v := ?_) (a' := ?_) #[true, true, true, true, true, true, false, false, false] rfl rfl (any_of HT_.out (by kernel_rfl)) (fun _ _ _ h => h) (Or.inl ⟨by rfl, ?_⟩) ?_ ?_
                rotate_left
                ·intro w'
                 go_simp
                 with_reducible rfl
                rotate_left
                ·simp only [Act.put, List.setIfInBounds_toArray, List.set_cons_zero, List.set_cons_succ, i64_w, i32_w]
                 rfl
                refine pure_ (i := 6) (N := some 101) (v := ?_) (a' := ?_) #[true, true, true, true, true, true, true, false, false] rfl rfl (any_of HT_.out (by kernel_rfl)) (fun _ _ _ h => h) (Or.inl ⟨by rfl, ?_⟩) ?_ ?_
                rotate_left
                ·intro w'
                 go_simp
                 with_reducible rfl
                rotate_left
                ·simp only [Act.put, List.setIfInBounds_toArray, List.set_cons_zero, List.set_cons_succ, i64_w, i32_w]
                 rfl
                refine pure_ (i := 7) (N := some 20) (v := ?_) (a' := ?_) #[true, true, true, true, true, true, true, true, false] rfl rfl (any_of HT_.out (by kernel_rfl)) (fun _ _ _ h => h) (Or.inl ⟨by rfl, ?_⟩) ?_ ?_
                rotate_left
                ·intro w'
                 go_simp
                 with_reducible rfl
                rotate_left
                ·simp only [Act.put, List.setIfInBounds_toArray, List.set_cons_zero, List.set_cons_succ, i64_w, i32_w]
                 rfl
                refine pure_ (i := 8) (N := some 21) (v := ?_) (a' := ?_) #[true, true, true, true, true, true, true, true, true] rfl rfl (any_of HT_.out (by kernel_rfl)) (fun _ _ _ h => h) (Or.inl ⟨by rfl, ?_⟩) ?_ ?_
                rotate_left
                ·intro w'
                 go_simp
                 with_reducible rfl
                rotate_left
                ·simp only [Act.put, List.setIfInBounds_toArray, List.set_cons_zero, List.set_cons_succ, i64_w, i32_w]
                 rfl
                refine done_ (done_of HT_.out (by kernel_rfl)) ?_
                try go_wp2
                have n0_ := Aside0.mk (Kd.R_drew HO_9.out)
                have n1_ := Aside0.mk (Kd.R_drew HO551.out)
                have n2_ := Aside0.mk (Kd.R_drew HO560.out)
                have n3_ := Aside0.mk (Kd.R_drew HO569.out)
                have n4_ := Aside0.mk (blk_drew BK532.out)
                have n5_ := Aside0.mk (blk_drew BK548.out)
                have n6_ := Aside0.mk (blk_drew BK557.out)
                have n7_ := Aside0.mk (blk_drew BK566.out)
                have n8_ := Aside0.mk (below_drew1 HB.out)
                clear HO_9
                clear HO551
                clear HO560
                clear HO569
                clear BK532
                clear BK548
                clear BK557
                clear BK566
                clear HB
                have HO_9 := n0_
                have HO551 := n1_
                have HO560 := n2_
                have HO569 := n3_
                have BK532 := n4_
                have BK548 := n5_
                have BK557 := n6_
                have BK566 := n7_
                have HB := n8_
                clear n0_ n1_ n2_ n3_ n4_ n5_ n6_ n7_ n8_
                refine start_ (n := 9) (S := fun w' => w'.cell? ⟨gb548, 0, none⟩ = some (.int .i64 a1_1) ∧ w'.cell? ⟨gb548, 1, none⟩ = some (.int .i64 a1_0)) (ds := []) #[false, false, false, false, false, false, false, false, false] (by kernel_rfl) rfl rfl ⟨(blk_cell BK548.out 0).trans rfl, (blk_cell BK548.out 1).trans rfl⟩ (fun hHeld => ?_); refine with_tabW comfitlaw06_TagsExchanged.tab15 comfitlaw06_TagsExchanged.bits15 (fun HT_ HW_ => ?_)
                generalize w70.drew = w71 at HO_9 HO551 HO560 HO569 BK532 BK548 BK557 BK566 HB hHeld ⊢
                refine pure_ (i := 0) (N := some 103) (v := ?_) (a' := ?_) #[true, false, false, false, false, false, false, false, false] rfl rfl (any_of HT_.out (by kernel_rfl)) (fun _ _ _ h => h) (Or.inl ⟨by rfl, ?_⟩) ?_ ?_
                rotate_left
                ·intro w'
                 go_simp
                 with_reducible rfl
                rotate_left
                ·simp only [Act.put, List.setIfInBounds_toArray, List.set_cons_zero, List.set_cons_succ, i64_w, i32_w]
                 rfl
                refine take_ (i := 2) (N := some 105) (v := ?_) (a' := ?_) #[true, false, true, false, false, false, false, false, false] rfl rfl (take_ofW HT_.out HW_.out (by kernel_rfl)) (fun _ _ _ h => h) (Or.inl ⟨by rfl, ?_⟩) hHeld ?_ ?_
                rotate_left
                ·rintro w' ⟨s0, s1⟩
                 go_simp
                 with_reducible rfl
                rotate_left
                ·simp only [Act.put, List.setIfInBounds_toArray, List.set_cons_zero, List.set_cons_succ, i64_w, i32_w]
                 rfl
                refine one_ (i := 1) (N := some 104) #[true, true, true, false, false, false, false, false, false] rfl rfl (one_of HT_.out (by kernel_rfl)) (by decide) (fun K hK => ?_)
                refine goes_ Try.func28 (by kernel_rfl) rfl #[.slice Ao10 x9_1.length co10] (by rfl) rfl rfl al_ ?_
                with_reducible refine (tags_Order_28.calls _ _ x9_1 t572 _ ?side1 ?side2 A24.out).mono ?_
                (case side1 => exact kc_ (Kd.R_reads' HO_9.out).2.2)
                (case side2 => exact (Kd.R_reads' HO_9.out).2.1)
                rintro e w72 ⟨v573, rfl, ho0, hb⟩
                refine ⟨_, rfl, ?_⟩
                have n0_ := Aside0.mk (Kd.R_elder' (kr_ (HO_9.out)) (Kd.R_base ho0) hb)
                have n1_ := Aside0.mk (Kd.R_elder' (kr_ (HO551.out)) (Kd.R_base ho0) hb)
                have n2_ := Aside0.mk (Kd.R_elder' (kr_ (HO560.out)) (Kd.R_base ho0) hb)
                have n3_ := Aside0.mk (Kd.R_elder' (kr_ (HO569.out)) (Kd.R_base ho0) hb)
                have n4_ := Aside0.mk (Kd.R_lower (Kd.R_new' (Kd.R_new' (Kd.R_new' (Kd.R_new' ho0 (Kd.R_lt (kr_ (HO_9.out)))) (Kd.R_lt (kr_ (HO551.out)))) (Kd.R_lt (kr_ (HO560.out)))) (Kd.R_lt (kr_ (HO569.out)))) (below_size (hb_ HB.out)))
                have n5_ := Aside0.mk (bkb_ BK532.out hb)
                have n6_ := Aside0.mk (bkb_ BK548.out hb)
                have n7_ := Aside0.mk (bkb_ BK557.out hb)
                have n8_ := Aside0.mk (bkb_ BK566.out hb)
                have n9_ := Aside0.mk (below_step (hb_ HB.out) hb)
                clear HO_9
                clear HO551
                clear HO560
                clear HO569
                clear BK532
                clear BK548
                clear BK557
                clear BK566
                clear HB
                have HO_9 := n0_
                have HO551 := n1_
                have HO560 := n2_
                have HO569 := n3_
                have HO574 := n4_
                have BK532 := n5_
                have BK548 := n6_
                have BK557 := n7_
                have BK566 := n8_
                have HB := n9_
                clear n0_ n1_ n2_ n3_ n4_ n5_ n6_ n7_ n8_ n9_
                (try clear hb)
                (try clear hb2)
                (try clear hk)
                (try clear hi)
                (try clear ho0)
                obtain ⟨Ao73, co73, eo73⟩ := Kd.R_slice HO574.out
                (first | subst eo73 | (injection eo73 with f1_ f2_ f3_; have f4_ := f1_.symm; have f5_ := f3_.symm; clear f1_ f2_ f3_; subst f4_; subst f5_))
                refine hK.out _ _ ⟨(blk_cell BK548.out 0).trans rfl, (blk_cell BK548.out 1).trans rfl⟩ (fun hHeld => ?_)
                clear hK K
                refine norm_ (a' := ?_) ?_ ?_
                rotate_left
                ·show Act.put _ (some 104) _ = _
                 simp only [Act.put, List.setIfInBounds_toArray, List.set_cons_zero, List.set_cons_succ, i64_w, i32_w]
                 rfl
                refine one_ (i := 3) (N := some 106) #[true, true, true, true, false, false, false, false, false] rfl rfl (one_of HT_.out (by kernel_rfl)) (by decide) (fun K hK => ?_)
                refine goes_ Try.func16 (by kernel_rfl) rfl #[.slice Ao73 t572.length co73, .agg #[.int .i64 a1_1, .int .i64 a1_0]] (by rfl) rfl rfl al_ ?_
                with_reducible refine (tags_Ends.calls k1 _ _ t572 a1_1 a1_0 t575 t576 _ ?side1 ?side2 A25.out).mono ?_
                (case side1 => exact kc_ (Kd.R_reads' HO574.out).2.2)
                (case side2 => exact (Kd.R_reads' HO574.out).2.1)
                rintro e w74 ⟨rfl, hb⟩
                refine ⟨_, rfl, ?_⟩
                have n0_ := Aside0.mk (Kd.R_below (kr_ (HO_9.out)) hb)
                have n1_ := Aside0.mk (Kd.R_below (kr_ (HO551.out)) hb)
                have n2_ := Aside0.mk (Kd.R_below (kr_ (HO560.out)) hb)
                have n3_ := Aside0.mk (Kd.R_below (kr_ (HO569.out)) hb)
                have n4_ := Aside0.mk (Kd.R_below (kr_ (HO574.out)) hb)
                have n5_ := Aside0.mk (bkb_ BK532.out hb)
                have n6_ := Aside0.mk (bkb_ BK548.out hb)
                have n7_ := Aside0.mk (bkb_ BK557.out hb)
                have n8_ := Aside0.mk (bkb_ BK566.out hb)
                have n9_ := Aside0.mk (below_step (hb_ HB.out) hb)
                clear HO_9
                clear HO551
                clear HO560
                clear HO569
                clear HO574
                clear BK532
                clear BK548
                clear BK557
                clear BK566
                clear HB
                have HO_9 := n0_
                have HO551 := n1_
                have HO560 := n2_
                have HO569 := n3_
                have HO574 := n4_
                have BK532 := n5_
                have BK548 := n6_
                have BK557 := n7_
                have BK566 := n8_
                have HB := n9_
                clear n0_ n1_ n2_ n3_ n4_ n5_ n6_ n7_ n8_ n9_
                (try clear hb)
                (try clear hb2)
                (try clear hk)
                (try clear hi)
                refine hK.out _ _ ⟨(blk_cell BK548.out 0).trans rfl, (blk_cell BK548.out 1).trans rfl⟩ (fun hHeld => ?_)
                clear hK K
                refine norm_ (a' := ?_) ?_ ?_
                rotate_left
                ·show Act.put _ (some 106) _ = _
                 simp only [Act.put, List.setIfInBounds_toArray, List.set_cons_zero, List.set_cons_succ, i64_w, i32_w]
                 rfl
                refine pure_ (i := 4) (N := some 102) (v := ?_) (a' := ?_) #[true, true, true, true, true, false, false, false, false] rfl rfl (any_of HT_.out (by kernel_rfl)) (fun _ _ _ h => h) (Or.inl ⟨by rfl, ?_⟩) ?_ ?_
                rotate_left
                ·intro w'
                 go_simp
                 with_reducible rfl
                rotate_left
                ·simp only [Act.put, List.setIfInBounds_toArray, List.set_cons_zero, List.set_cons_succ, i64_w, i32_w]
                 rfl
                refine pure_ (i := 5) (N := some 107) (v := ?_) (a' := ?_) #[true, true, true, true, true, true, false, false, false] rfl rfl (any_of HT_.out (by kernel_rfl)) (fun _ _ _ h => h) (Or.inl ⟨by rfl, ?_⟩) ?_ ?_
                rotate_left
                ·intro w'
                 go_simp
                 with_reducible rfl
                rotate_left
                ·simp only [Act.put, List.setIfInBounds_toArray, List.set_cons_zero, List.set_cons_succ, i64_w, i32_w]
                 rfl
                refine pure_ (i := 6) (N := some 108) (v := ?_) (a' := ?_) #[true, true, true, true, true, true, true, false, false] rfl rfl (any_of HT_.out (by kernel_rfl)) (fun _ _ _ h => h) (Or.inl ⟨by rfl, ?_⟩) ?_ ?_
                rotate_left
                ·intro w'
                 go_simp
                 with_reducible rfl
                rotate_left
                ·simp only [Act.put, List.setIfInBounds_toArray, List.set_cons_zero, List.set_cons_succ, i64_w, i32_w]
                 rfl
                refine pure_ (i := 7) (N := some 22) (v := ?_) (a' := ?_) #[true, true, true, true, true, true, true, true, false] rfl rfl (any_of HT_.out (by kernel_rfl)) (fun _ _ _ h => h) (Or.inl ⟨by rfl, ?_⟩) ?_ ?_
                rotate_left
                ·intro w'
                 go_simp
                 with_reducible rfl
                rotate_left
                ·simp only [Act.put, List.setIfInBounds_toArray, List.set_cons_zero, List.set_cons_succ, i64_w, i32_w]
                 rfl
                refine pure_ (i := 8) (N := some 23) (v := ?_) (a' := ?_) #[true, true, true, true, true, true, true, true, true] rfl rfl (any_of HT_.out (by kernel_rfl)) (fun _ _ _ h => h) (Or.inl ⟨by rfl, ?_⟩) ?_ ?_
                rotate_left
                ·intro w'
                 go_simp
                 with_reducible rfl
                rotate_left
                ·simp only [Act.put, List.setIfInBounds_toArray, List.set_cons_zero, List.set_cons_succ, i64_w, i32_w]
                 rfl
                refine done_ (done_of HT_.out (by kernel_rfl)) ?_
                try go_wp2
                have n0_ := Aside0.mk (Kd.R_drew HO_9.out)
                have n1_ := Aside0.mk (Kd.R_drew HO551.out)
                have n2_ := Aside0.mk (Kd.R_drew HO560.out)
                have n3_ := Aside0.mk (Kd.R_drew HO569.out)
                have n4_ := Aside0.mk (Kd.R_drew HO574.out)
                have n5_ := Aside0.mk (blk_drew BK532.out)
                have n6_ := Aside0.mk (blk_drew BK548.out)
                have n7_ := Aside0.mk (blk_drew BK557.out)
                have n8_ := Aside0.mk (blk_drew BK566.out)
                have n9_ := Aside0.mk (below_drew1 HB.out)
                clear HO_9
                clear HO551
                clear HO560
                clear HO569
                clear HO574
                clear BK532
                clear BK548
                clear BK557
                clear BK566
                clear HB
                have HO_9 := n0_
                have HO551 := n1_
                have HO560 := n2_
                have HO569 := n3_
                have HO574 := n4_
                have BK532 := n5_
                have BK548 := n6_
                have BK557 := n7_
                have BK566 := n8_
                have HB := n9_
                clear n0_ n1_ n2_ n3_ n4_ n5_ n6_ n7_ n8_ n9_
                refine start_ (n := 10) (S := fun w' => w'.cell? ⟨gb532, 0, none⟩ = some (.int .i64 a1_0) ∧ w'.cell? ⟨gb532, 1, none⟩ = some (.int .i64 a1_1)) (ds := []) #[false, false, false, false, false, false, false, false, false, false] (by kernel_rfl) rfl rfl ⟨(blk_cell BK532.out 0).trans rfl, (blk_cell BK532.out 1).trans rfl⟩ (fun hHeld => ?_); refine with_tabW comfitlaw06_TagsExchanged.tab16 comfitlaw06_TagsExchanged.bits16 (fun HT_ HW_ => ?_)
                generalize w74.drew = w75 at HO_9 HO551 HO560 HO569 HO574 BK532 BK548 BK557 BK566 HB hHeld ⊢
                refine pure_ (i := 0) (N := some 110) (v := ?_) (a' := ?_) #[true, false, false, false, false, false, false, false, false, false] rfl rfl (any_of HT_.out (by kernel_rfl)) (fun _ _ _ h => h) (Or.inl ⟨by rfl, ?_⟩) ?_ ?_
                rotate_left
                ·intro w'
                 go_simp
                 with_reducible rfl
                rotate_left
                ·simp only [Act.put, List.setIfInBounds_toArray, List.set_cons_zero, List.set_cons_succ, i64_w, i32_w]
                 rfl
                refine take_ (i := 2) (N := some 112) (v := ?_) (a' := ?_) #[true, false, true, false, false, false, false, false, false, false] rfl rfl (take_ofW HT_.out HW_.out (by kernel_rfl)) (fun _ _ _ h => h) (Or.inl ⟨by rfl, ?_⟩) hHeld ?_ ?_
                rotate_left
                ·rintro w' ⟨s0, s1⟩
                 go_simp
                 with_reducible rfl
                rotate_left
                ·simp only [Act.put, List.setIfInBounds_toArray, List.set_cons_zero, List.set_cons_succ, i64_w, i32_w]
                 rfl
                refine join_ (σ := Value × Nat) 2 #[true, true, true, true, true, true, true, true, false, false] (fun s_ => [(111, s_.1), (113, .tuple #[.agg #[.int .i64 t580, .int .i64 t581], .int .i64 t582]), (24, .pointer (some ⟨s_.2, 0, none⟩)), (109, .tuple #[.agg #[.int .i64 t580, .int .i64 t581], .int .i64 t582]), (114, .agg #[.int .i64 t580, .int .i64 t581]), (115, .int .i64 t582)]) (fun s_ w' => (w'.cell? ⟨gb532, 0, none⟩ = some (.int .i64 a1_0) ∧ w'.cell? ⟨gb532, 1, none⟩ = some (.int .i64 a1_1)) ∧ (Kd.R k57 57 w' w.heap.size (fun k_ => some k_ ≠ (v559 : Value).ownBlock ∧ some k_ ≠ (.slice Ao69 t567.length co69 : Value).ownBlock ∧ some k_ ≠ (.slice Ao73 t572.length co73 : Value).ownBlock ∧ some k_ ≠ (s_.1 : Value).ownBlock ∧ some k_ ≠ (.slice Ao10 x9_1.length co10 : Value).ownBlock) v550 t549) ∧ (Kd.R k57 57 w' w.heap.size (fun k_ => some k_ ≠ (v550 : Value).ownBlock ∧ some k_ ≠ (.slice Ao69 t567.length co69 : Value).ownBlock ∧ some k_ ≠ (.slice Ao73 t572.length co73 : Value).ownBlock ∧ some k_ ≠ (s_.1 : Value).ownBlock ∧ some k_ ≠ (.slice Ao10 x9_1.length co10 : Value).ownBlock) v559 t558) ∧ (Kd.R k57 57 w' w.heap.size (fun k_ => some k_ ≠ (v550 : Value).ownBlock ∧ some k_ ≠ (v559 : Value).ownBlock ∧ some k_ ≠ (.slice Ao73 t572.length co73 : Value).ownBlock ∧ some k_ ≠ (s_.1 : Value).ownBlock ∧ some k_ ≠ (.slice Ao10 x9_1.length co10 : Value).ownBlock) (.slice Ao69 t567.length co69) t567) ∧ (Kd.R k57 57 w' w.heap.size (fun k_ => some k_ ≠ (v550 : Value).ownBlock ∧ some k_ ≠ (v559 : Value).ownBlock ∧ some k_ ≠ (.slice Ao69 t567.length co69 : Value).ownBlock ∧ some k_ ≠ (s_.1 : Value).ownBlock ∧ some k_ ≠ (.slice Ao10 x9_1.length co10 : Value).ownBlock) (.slice Ao73 t572.length co73) t572) ∧ (Kd.R k57 57 w' w.heap.size (fun k_ => some k_ ≠ (v550 : Value).ownBlock ∧ some k_ ≠ (v559 : Value).ownBlock ∧ some k_ ≠ (.slice Ao69 t567.length co69 : Value).ownBlock ∧ some k_ ≠ (.slice Ao73 t572.length co73 : Value).ownBlock ∧ some k_ ≠ (.slice Ao10 x9_1.length co10 : Value).ownBlock) s_.1 t577) ∧ (Kd.R k57 57 w' w.heap.size (fun k_ => some k_ ≠ (v550 : Value).ownBlock ∧ some k_ ≠ (v559 : Value).ownBlock ∧ some k_ ≠ (.slice Ao69 t567.length co69 : Value).ownBlock ∧ some k_ ≠ (.slice Ao73 t572.length co73 : Value).ownBlock ∧ some k_ ≠ (s_.1 : Value).ownBlock) (.slice Ao10 x9_1.length co10) x9_1) ∧ (w'.heap[gb532]? = some (.cells #[.int .i64 a1_0, .int .i64 a1_1] 23 (0, 0))) ∧ (w'.heap[gb548]? = some (.cells #[.int .i64 a1_1, .int .i64 a1_0] 23 (0, 0))) ∧ (w'.heap[gb557]? = some (.cells #[.int .i64 t553, .int .i64 t554] 23 (0, 0))) ∧ (w'.heap[gb566]? = some (.cells #[.int .i64 t562, .int .i64 t563] 23 (0, 0))) ∧ (w'.heap[s_.2]? = some (.cells #[.int .i64 0, .int .i64 0] 23 (0, 0))) ∧ (w.heap.size ≤ s_.2) ∧ (w.heap.size ≤ s_.2) ∧ (gb532 ≠ s_.2) ∧ (s_.2 ≠ gb532) ∧ (gb548 ≠ s_.2) ∧ (s_.2 ≠ gb548) ∧ (gb557 ≠ s_.2) ∧ (s_.2 ≠ gb557) ∧ (gb566 ≠ s_.2) ∧ (s_.2 ≠ gb566) ∧ (Below w.heap.size w w')) ?_ ?_
                rotate_left
                ·intro hCont
                 refine two_ (i := 1) (j := 7) (Ni := some 111) (Nj := some 24) #[true, true, true, false, false, false, false, false, false, false] #[true, false, true, false, false, false, false, true, false, false] rfl rfl rfl rfl (two_of HT_.out (by kernel_rfl)) (by decide) (by decide) (fun K hK => ?_) (fun K hK => ?_)
                 ·skip
                  refine goes_ Try.func11 (by kernel_rfl) rfl #[.slice A0 l0.length c0] (by rfl) rfl rfl al_ ?_
                  with_reducible refine (comfitlaw06_Of.calls k1 _ _ l0 t577 _ ?side1 ?side2 A26.out).mono ?_
                  (case side1 => exact kc_ (Kd.C_below HR0.out HB.out))
                  (case side2 => exact HC0.out)
                  rintro e w76 ⟨v578, rfl, ho0, hb⟩
                  refine ⟨_, rfl, ?_⟩
                  have n0_ := Aside0.mk (Kd.R_elder' (kr_ (HO_9.out)) (Kd.R_base ho0) hb)
                  have n1_ := Aside0.mk (Kd.R_elder' (kr_ (HO551.out)) (Kd.R_base ho0) hb)
                  have n2_ := Aside0.mk (Kd.R_elder' (kr_ (HO560.out)) (Kd.R_base ho0) hb)
                  have n3_ := Aside0.mk (Kd.R_elder' (kr_ (HO569.out)) (Kd.R_base ho0) hb)
                  have n4_ := Aside0.mk (Kd.R_elder' (kr_ (HO574.out)) (Kd.R_base ho0) hb)
                  have n5_ := Aside0.mk (Kd.R_lower (Kd.R_new' (Kd.R_new' (Kd.R_new' (Kd.R_new' (Kd.R_new' ho0 (Kd.R_lt (kr_ (HO_9.out)))) (Kd.R_lt (kr_ (HO551.out)))) (Kd.R_lt (kr_ (HO560.out)))) (Kd.R_lt (kr_ (HO569.out)))) (Kd.R_lt (kr_ (HO574.out)))) (below_size (hb_ HB.out)))
                  have n6_ := Aside0.mk (bkb_ BK532.out hb)
                  have n7_ := Aside0.mk (bkb_ BK548.out hb)
                  have n8_ := Aside0.mk (bkb_ BK557.out hb)
                  have n9_ := Aside0.mk (bkb_ BK566.out hb)
                  have n10_ := Aside0.mk (below_step (hb_ HB.out) hb)
                  clear HO_9
                  clear HO551
                  clear HO560
                  clear HO569
                  clear HO574
                  clear BK532
                  clear BK548
                  clear BK557
                  clear BK566
                  clear HB
                  have HO_9 := n0_
                  have HO551 := n1_
                  have HO560 := n2_
                  have HO569 := n3_
                  have HO574 := n4_
                  have HO579 := n5_
                  have BK532 := n6_
                  have BK548 := n7_
                  have BK557 := n8_
                  have BK566 := n9_
                  have HB := n10_
                  clear n0_ n1_ n2_ n3_ n4_ n5_ n6_ n7_ n8_ n9_ n10_
                  (try clear hb)
                  (try clear hb2)
                  (try clear hk)
                  (try clear hi)
                  (try clear ho0)
                  obtain ⟨Ao77, co77, eo77⟩ := Kd.R_slice HO579.out
                  (first | subst eo77 | (injection eo77 with f1_ f2_ f3_; have f4_ := f1_.symm; have f5_ := f3_.symm; clear f1_ f2_ f3_; subst f4_; subst f5_))
                  refine hK.out _ _ ⟨(blk_cell BK532.out 0).trans rfl, (blk_cell BK532.out 1).trans rfl⟩ (fun hHeld => ?_)
                  clear hK K
                  refine norm_ (a' := ?_) ?_ ?_
                  rotate_left
                  ·show Act.put _ (some 111) _ = _
                   simp only [Act.put, List.setIfInBounds_toArray, List.set_cons_zero, List.set_cons_succ, i64_w, i32_w]
                   rfl
                  refine two_ (i := 3) (j := 7) (Ni := some 113) (Nj := some 24) #[true, true, true, true, false, false, false, false, false, false] #[true, true, true, false, false, false, false, true, false, false] rfl rfl rfl rfl (two_of HT_.out (by kernel_rfl)) (by decide) (by decide) (fun K hK => ?_) (fun K hK => ?_)
                  ·skip
                   refine goes_ Try.func17 (by kernel_rfl) rfl #[.slice Ao77 t577.length co77, .agg #[.int .i64 a1_0, .int .i64 a1_1]] (by rfl) rfl rfl al_ ?_
                   with_reducible refine (tags_Circle.calls k1 _ _ t577 a1_0 a1_1 t580 t581 t582 _ ?side1 ?side2 A27.out).mono ?_
                   (case side1 => exact kc_ (Kd.R_reads' HO579.out).2.2)
                   (case side2 => exact (Kd.R_reads' HO579.out).2.1)
                   rintro e w78 ⟨rfl, hb⟩
                   refine ⟨_, rfl, ?_⟩
                   have n0_ := Aside0.mk (Kd.R_below (kr_ (HO_9.out)) hb)
                   have n1_ := Aside0.mk (Kd.R_below (kr_ (HO551.out)) hb)
                   have n2_ := Aside0.mk (Kd.R_below (kr_ (HO560.out)) hb)
                   have n3_ := Aside0.mk (Kd.R_below (kr_ (HO569.out)) hb)
                   have n4_ := Aside0.mk (Kd.R_below (kr_ (HO574.out)) hb)
                   have n5_ := Aside0.mk (Kd.R_below (kr_ (HO579.out)) hb)
                   have n6_ := Aside0.mk (bkb_ BK532.out hb)
                   have n7_ := Aside0.mk (bkb_ BK548.out hb)
                   have n8_ := Aside0.mk (bkb_ BK557.out hb)
                   have n9_ := Aside0.mk (bkb_ BK566.out hb)
                   have n10_ := Aside0.mk (below_step (hb_ HB.out) hb)
                   clear HO_9
                   clear HO551
                   clear HO560
                   clear HO569
                   clear HO574
                   clear HO579
                   clear BK532
                   clear BK548
                   clear BK557
                   clear BK566
                   clear HB
                   have HO_9 := n0_
                   have HO551 := n1_
                   have HO560 := n2_
                   have HO569 := n3_
                   have HO574 := n4_
                   have HO579 := n5_
                   have BK532 := n6_
                   have BK548 := n7_
                   have BK557 := n8_
                   have BK566 := n9_
                   have HB := n10_
                   clear n0_ n1_ n2_ n3_ n4_ n5_ n6_ n7_ n8_ n9_ n10_
                   (try clear hb)
                   (try clear hb2)
                   (try clear hk)
                   (try clear hi)
                   refine hK.out _ _ ⟨(blk_cell BK532.out 0).trans rfl, (blk_cell BK532.out 1).trans rfl⟩ (fun hHeld => ?_)
                   clear hK K
                   refine norm_ (a' := ?_) ?_ ?_
                   rotate_left
                   ·show Act.put _ (some 113) _ = _
                    simp only [Act.put, List.setIfInBounds_toArray, List.set_cons_zero, List.set_cons_succ, i64_w, i32_w]
                    rfl
                   refine pure_ (i := 4) (N := some 109) (v := ?_) (a' := ?_) #[true, true, true, true, true, false, false, false, false, false] rfl rfl (any_of HT_.out (by kernel_rfl)) (fun _ _ _ h => h) (Or.inl ⟨by rfl, ?_⟩) ?_ ?_
                   rotate_left
                   ·intro w'
                    go_simp
                    with_reducible rfl
                   rotate_left
                   ·simp only [Act.put, List.setIfInBounds_toArray, List.set_cons_zero, List.set_cons_succ, i64_w, i32_w]
                    rfl
                   refine pure_ (i := 5) (N := some 114) (v := ?_) (a' := ?_) #[true, true, true, true, true, true, false, false, false, false] rfl rfl (any_of HT_.out (by kernel_rfl)) (fun _ _ _ h => h) (Or.inl ⟨by rfl, ?_⟩) ?_ ?_
                   rotate_left
                   ·intro w'
                    go_simp
                    with_reducible rfl
                   rotate_left
                   ·simp only [Act.put, List.setIfInBounds_toArray, List.set_cons_zero, List.set_cons_succ, i64_w, i32_w]
                    rfl
                   refine pure_ (i := 6) (N := some 115) (v := ?_) (a' := ?_) #[true, true, true, true, true, true, true, false, false, false] rfl rfl (any_of HT_.out (by kernel_rfl)) (fun _ _ _ h => h) (Or.inl ⟨by rfl, ?_⟩) ?_ ?_
                   rotate_left
                   ·intro w'
                    go_simp
                    with_reducible rfl
                   rotate_left
                   ·simp only [Act.put, List.setIfInBounds_toArray, List.set_cons_zero, List.set_cons_succ, i64_w, i32_w]
                    rfl
                   refine one_ (i := 7) (N := some 24) #[true, true, true, true, true, true, true, true, false, false] rfl rfl (one_of HT_.out (by kernel_rfl)) (by decide) (fun K hK => ?_)
                   refine box_step ?hg (N := 24) ?hd (cs := #[.int .i64 0, .int .i64 0]) (t := 23) ?hr ?_; (case hd => rfl); (case hg => rfl); (case hr => first | (go_simp; done) | (go_simp; rfl))
                   intro gb583 hg w79 hbox hb
                   have n0_ := Aside0.mk (Kd.R_below (kr_ (HO_9.out)) hb)
                   have n1_ := Aside0.mk (Kd.R_below (kr_ (HO551.out)) hb)
                   have n2_ := Aside0.mk (Kd.R_below (kr_ (HO560.out)) hb)
                   have n3_ := Aside0.mk (Kd.R_below (kr_ (HO569.out)) hb)
                   have n4_ := Aside0.mk (Kd.R_below (kr_ (HO574.out)) hb)
                   have n5_ := Aside0.mk (Kd.R_below (kr_ (HO579.out)) hb)
                   have n6_ := Aside0.mk (bkb_ BK532.out hb)
                   have n7_ := Aside0.mk (bkb_ BK548.out hb)
                   have n8_ := Aside0.mk (bkb_ BK557.out hb)
                   have n9_ := Aside0.mk (bkb_ BK566.out hb)
                   have n10_ := Aside0.mk (below_step (hb_ HB.out) hb)
                   have n11_ := Aside0.mk (hbox)
                   have n12_ := Aside0.mk ((by rw [hg]; exact (below_size (hb_ HB.out)) : w.heap.size ≤ gb583))
                   have n13_ := Aside0.mk ((by rw [hg]; exact (below_size (hb_ HB.out)) : w.heap.size ≤ gb583))
                   have n14_ := Aside0.mk ((by rw [hg]; exact Nat.ne_of_lt (bkl_ BK532.out) : gb532 ≠ gb583))
                   have n15_ := Aside0.mk ((by rw [hg]; exact Nat.ne_of_gt (bkl_ BK532.out) : gb583 ≠ gb532))
                   have n16_ := Aside0.mk ((by rw [hg]; exact Nat.ne_of_lt (bkl_ BK548.out) : gb548 ≠ gb583))
                   have n17_ := Aside0.mk ((by rw [hg]; exact Nat.ne_of_gt (bkl_ BK548.out) : gb583 ≠ gb548))
                   have n18_ := Aside0.mk ((by rw [hg]; exact Nat.ne_of_lt (bkl_ BK557.out) : gb557 ≠ gb583))
                   have n19_ := Aside0.mk ((by rw [hg]; exact Nat.ne_of_gt (bkl_ BK557.out) : gb583 ≠ gb557))
                   have n20_ := Aside0.mk ((by rw [hg]; exact Nat.ne_of_lt (bkl_ BK566.out) : gb566 ≠ gb583))
                   have n21_ := Aside0.mk ((by rw [hg]; exact Nat.ne_of_gt (bkl_ BK566.out) : gb583 ≠ gb566))
                   clear HO_9
                   clear HO551
                   clear HO560
                   clear HO569
                   clear HO574
                   clear HO579
                   clear BK532
                   clear BK548
                   clear BK557
                   clear BK566
                   clear HB
                   have HO_9 := n0_
                   have HO551 := n1_
                   have HO560 := n2_
                   have HO569 := n3_
                   have HO574 := n4_
                   have HO579 := n5_
                   have BK532 := n6_
                   have BK548 := n7_
                   have BK557 := n8_
                   have BK566 := n9_
                   have HB := n10_
                   have BK583 := n11_
                   have GW583 := n12_
                   have GE583 := n13_
                   have NB532_583 := n14_
                   have NB583_532 := n15_
                   have NB548_583 := n16_
                   have NB583_548 := n17_
                   have NB557_583 := n18_
                   have NB583_557 := n19_
                   have NB566_583 := n20_
                   have NB583_566 := n21_
                   clear n0_ n1_ n2_ n3_ n4_ n5_ n6_ n7_ n8_ n9_ n10_ n11_ n12_ n13_ n14_ n15_ n16_ n17_ n18_ n19_ n20_ n21_
                   clear hb hbox hg
                   refine hK.out _ _ ⟨(blk_cell BK532.out 0).trans rfl, (blk_cell BK532.out 1).trans rfl⟩ (fun hHeld => ?_)
                   clear hK K
                   refine norm_ (a' := ?_) ?_ ?_
                   rotate_left
                   ·show Act.put _ (some 24) _ = _
                    simp only [Act.put, List.setIfInBounds_toArray, List.set_cons_zero, List.set_cons_succ, i64_w, i32_w]
                    rfl
                   exact norm_ (by simp only [putAll, Act.put, List.setIfInBounds_toArray, List.set_cons_zero, List.set_cons_succ]) (hCont (.slice Ao77 t577.length co77, gb583) _ ⟨hHeld, (by (with_reducible repeat (first | apply Kd.R_alloc | apply Kd.R_drewN | apply Kd.R_drew)); exact Kd.R_mono HO551.out (fun _ hk => ⟨hk.1.1.1.2, ⟨hk.1.1.2, ⟨hk.1.2, ⟨hk.2, hk.1.1.1.1⟩⟩⟩⟩)), (by (with_reducible repeat (first | apply Kd.R_alloc | apply Kd.R_drewN | apply Kd.R_drew)); exact Kd.R_mono HO560.out (fun _ hk => ⟨hk.1.1.1.2, ⟨hk.1.1.2, ⟨hk.1.2, ⟨hk.2, hk.1.1.1.1⟩⟩⟩⟩)), (by (with_reducible repeat (first | apply Kd.R_alloc | apply Kd.R_drewN | apply Kd.R_drew)); exact Kd.R_mono HO569.out (fun _ hk => ⟨hk.1.1.1.2, ⟨hk.1.1.2, ⟨hk.1.2, ⟨hk.2, hk.1.1.1.1.2⟩⟩⟩⟩)), (by (with_reducible repeat (first | apply Kd.R_alloc | apply Kd.R_drewN | apply Kd.R_drew)); exact Kd.R_mono HO574.out (fun _ hk => ⟨hk.1.1.1.2, ⟨hk.1.1.2, ⟨hk.1.2, ⟨hk.2, hk.1.1.1.1.2⟩⟩⟩⟩)), (by (with_reducible repeat (first | apply Kd.R_alloc | apply Kd.R_drewN | apply Kd.R_drew)); exact Kd.R_mono HO579.out (fun _ hk => ⟨hk.1.1.1.2, ⟨hk.1.1.2, ⟨hk.1.2, ⟨hk.2, hk.1.1.1.1.2⟩⟩⟩⟩)), (by (with_reducible repeat (first | apply Kd.R_alloc | apply Kd.R_drewN | apply Kd.R_drew)); exact Kd.R_mono HO_9.out (fun _ hk => ⟨hk.1.1.1.1, ⟨hk.1.1.1.2, ⟨hk.1.1.2, ⟨hk.1.2, hk.2⟩⟩⟩⟩)), (bk_ BK532.out), (bk_ BK548.out), (bk_ BK557.out), (bk_ BK566.out), (bk_ BK583.out), GW583.out, GE583.out, NB532_583.out, NB583_532.out, NB548_583.out, NB583_548.out, NB557_583.out, NB583_557.out, NB566_583.out, NB583_566.out, (hb_ HB.out)⟩)
                  ·skip
                   refine box_step ?hg (N := 24) ?hd (cs := #[.int .i64 0, .int .i64 0]) (t := 23) ?hr ?_; (case hd => rfl); (case hg => rfl); (case hr => first | (go_simp; done) | (go_simp; rfl))
                   intro gb583 hg w77 hbox hb
                   have n0_ := Aside0.mk (Kd.R_below (kr_ (HO_9.out)) hb)
                   have n1_ := Aside0.mk (Kd.R_below (kr_ (HO551.out)) hb)
                   have n2_ := Aside0.mk (Kd.R_below (kr_ (HO560.out)) hb)
                   have n3_ := Aside0.mk (Kd.R_below (kr_ (HO569.out)) hb)
                   have n4_ := Aside0.mk (Kd.R_below (kr_ (HO574.out)) hb)
                   have n5_ := Aside0.mk (Kd.R_below (kr_ (HO579.out)) hb)
                   have n6_ := Aside0.mk (bkb_ BK532.out hb)
                   have n7_ := Aside0.mk (bkb_ BK548.out hb)
                   have n8_ := Aside0.mk (bkb_ BK557.out hb)
                   have n9_ := Aside0.mk (bkb_ BK566.out hb)
                   have n10_ := Aside0.mk (below_step (hb_ HB.out) hb)
                   have n11_ := Aside0.mk (hbox)
                   have n12_ := Aside0.mk ((by rw [hg]; exact (below_size (hb_ HB.out)) : w.heap.size ≤ gb583))
                   have n13_ := Aside0.mk ((by rw [hg]; exact (below_size (hb_ HB.out)) : w.heap.size ≤ gb583))
                   have n14_ := Aside0.mk ((by rw [hg]; exact Nat.ne_of_lt (bkl_ BK532.out) : gb532 ≠ gb583))
                   have n15_ := Aside0.mk ((by rw [hg]; exact Nat.ne_of_gt (bkl_ BK532.out) : gb583 ≠ gb532))
                   have n16_ := Aside0.mk ((by rw [hg]; exact Nat.ne_of_lt (bkl_ BK548.out) : gb548 ≠ gb583))
                   have n17_ := Aside0.mk ((by rw [hg]; exact Nat.ne_of_gt (bkl_ BK548.out) : gb583 ≠ gb548))
                   have n18_ := Aside0.mk ((by rw [hg]; exact Nat.ne_of_lt (bkl_ BK557.out) : gb557 ≠ gb583))
                   have n19_ := Aside0.mk ((by rw [hg]; exact Nat.ne_of_gt (bkl_ BK557.out) : gb583 ≠ gb557))
                   have n20_ := Aside0.mk ((by rw [hg]; exact Nat.ne_of_lt (bkl_ BK566.out) : gb566 ≠ gb583))
                   have n21_ := Aside0.mk ((by rw [hg]; exact Nat.ne_of_gt (bkl_ BK566.out) : gb583 ≠ gb566))
                   clear HO_9
                   clear HO551
                   clear HO560
                   clear HO569
                   clear HO574
                   clear HO579
                   clear BK532
                   clear BK548
                   clear BK557
                   clear BK566
                   clear HB
                   have HO_9 := n0_
                   have HO551 := n1_
                   have HO560 := n2_
                   have HO569 := n3_
                   have HO574 := n4_
                   have HO579 := n5_
                   have BK532 := n6_
                   have BK548 := n7_
                   have BK557 := n8_
                   have BK566 := n9_
                   have HB := n10_
                   have BK583 := n11_
                   have GW583 := n12_
                   have GE583 := n13_
                   have NB532_583 := n14_
                   have NB583_532 := n15_
                   have NB548_583 := n16_
                   have NB583_548 := n17_
                   have NB557_583 := n18_
                   have NB583_557 := n19_
                   have NB566_583 := n20_
                   have NB583_566 := n21_
                   clear n0_ n1_ n2_ n3_ n4_ n5_ n6_ n7_ n8_ n9_ n10_ n11_ n12_ n13_ n14_ n15_ n16_ n17_ n18_ n19_ n20_ n21_
                   clear hb hbox hg
                   obtain ⟨Ao78, co78, eo78⟩ := Kd.R_slice HO579.out
                   (first | subst eo78 | (injection eo78 with f1_ f2_ f3_; have f4_ := f1_.symm; have f5_ := f3_.symm; clear f1_ f2_ f3_; subst f4_; subst f5_))
                   refine hK.out _ _ ⟨(blk_cell BK532.out 0).trans rfl, (blk_cell BK532.out 1).trans rfl⟩ (fun hHeld => ?_)
                   clear hK K
                   refine norm_ (a' := ?_) ?_ ?_
                   rotate_left
                   ·show Act.put _ (some 24) _ = _
                    simp only [Act.put, List.setIfInBounds_toArray, List.set_cons_zero, List.set_cons_succ, i64_w, i32_w]
                    rfl
                   refine one_ (i := 3) (N := some 113) #[true, true, true, true, false, false, false, true, false, false] rfl rfl (one_of HT_.out (by kernel_rfl)) (by decide) (fun K hK => ?_)
                   refine goes_ Try.func17 (by kernel_rfl) rfl #[.slice Ao78 t577.length co78, .agg #[.int .i64 a1_0, .int .i64 a1_1]] (by rfl) rfl rfl al_ ?_
                   with_reducible refine (tags_Circle.calls k1 _ _ t577 a1_0 a1_1 t580 t581 t582 _ ?side1 ?side2 A27.out).mono ?_
                   (case side1 => exact kc_ (Kd.R_reads' HO579.out).2.2)
                   (case side2 => exact (Kd.R_reads' HO579.out).2.1)
                   rintro e w79 ⟨rfl, hb⟩
                   refine ⟨_, rfl, ?_⟩
                   have n0_ := Aside0.mk (Kd.R_below (kr_ (HO_9.out)) hb)
                   have n1_ := Aside0.mk (Kd.R_below (kr_ (HO551.out)) hb)
                   have n2_ := Aside0.mk (Kd.R_below (kr_ (HO560.out)) hb)
                   have n3_ := Aside0.mk (Kd.R_below (kr_ (HO569.out)) hb)
                   have n4_ := Aside0.mk (Kd.R_below (kr_ (HO574.out)) hb)
                   have n5_ := Aside0.mk (Kd.R_below (kr_ (HO579.out)) hb)
                   have n6_ := Aside0.mk (bkb_ BK532.out hb)
                   have n7_ := Aside0.mk (bkb_ BK548.out hb)
                   have n8_ := Aside0.mk (bkb_ BK557.out hb)
                   have n9_ := Aside0.mk (bkb_ BK566.out hb)
                   have n10_ := Aside0.mk (bkb_ BK583.out hb)
                   have n11_ := Aside0.mk (below_step (hb_ HB.out) hb)
                   clear HO_9
                   clear HO551
                   clear HO560
                   clear HO569
                   clear HO574
                   clear HO579
                   clear BK532
                   clear BK548
                   clear BK557
                   clear BK566
                   clear BK583
                   clear HB
                   have HO_9 := n0_
                   have HO551 := n1_
                   have HO560 := n2_
                   have HO569 := n3_
                   have HO574 := n4_
                   have HO579 := n5_
                   have BK532 := n6_
                   have BK548 := n7_
                   have BK557 := n8_
                   have BK566 := n9_
                   have BK583 := n10_
                   have HB := n11_
                   clear n0_ n1_ n2_ n3_ n4_ n5_ n6_ n7_ n8_ n9_ n10_ n11_
                   (try clear hb)
                   (try clear hb2)
                   (try clear hk)
                   (try clear hi)
                   refine hK.out _ _ ⟨(blk_cell BK532.out 0).trans rfl, (blk_cell BK532.out 1).trans rfl⟩ (fun hHeld => ?_)
                   clear hK K
                   refine norm_ (a' := ?_) ?_ ?_
                   rotate_left
                   ·show Act.put _ (some 113) _ = _
                    simp only [Act.put, List.setIfInBounds_toArray, List.set_cons_zero, List.set_cons_succ, i64_w, i32_w]
                    rfl
                   refine pure_ (i := 4) (N := some 109) (v := ?_) (a' := ?_) #[true, true, true, true, true, false, false, true, false, false] rfl rfl (any_of HT_.out (by kernel_rfl)) (fun _ _ _ h => h) (Or.inl ⟨by rfl, ?_⟩) ?_ ?_
                   rotate_left
                   ·intro w'
                    go_simp
                    with_reducible rfl
                   rotate_left
                   ·simp only [Act.put, List.setIfInBounds_toArray, List.set_cons_zero, List.set_cons_succ, i64_w, i32_w]
                    rfl
                   refine pure_ (i := 5) (N := some 114) (v := ?_) (a' := ?_) #[true, true, true, true, true, true, false, true, false, false] rfl rfl (any_of HT_.out (by kernel_rfl)) (fun _ _ _ h => h) (Or.inl ⟨by rfl, ?_⟩) ?_ ?_
                   rotate_left
                   ·intro w'
                    go_simp
                    with_reducible rfl
                   rotate_left
                   ·simp only [Act.put, List.setIfInBounds_toArray, List.set_cons_zero, List.set_cons_succ, i64_w, i32_w]
                    rfl
                   refine pure_ (i := 6) (N := some 115) (v := ?_) (a' := ?_) #[true, true, true, true, true, true, true, true, false, false] rfl rfl (any_of HT_.out (by kernel_rfl)) (fun _ _ _ h => h) (Or.inl ⟨by rfl, ?_⟩) ?_ ?_
                   rotate_left
                   ·intro w'
                    go_simp
                    with_reducible rfl
                   rotate_left
                   ·simp only [Act.put, List.setIfInBounds_toArray, List.set_cons_zero, List.set_cons_succ, i64_w, i32_w]
                    rfl
                   exact norm_ (by simp only [putAll, Act.put, List.setIfInBounds_toArray, List.set_cons_zero, List.set_cons_succ]) (hCont (.slice Ao78 t577.length co78, gb583) _ ⟨hHeld, (by (with_reducible repeat (first | apply Kd.R_alloc | apply Kd.R_drewN | apply Kd.R_drew)); exact Kd.R_mono HO551.out (fun _ hk => ⟨hk.1.1.1.2, ⟨hk.1.1.2, ⟨hk.1.2, ⟨hk.2, hk.1.1.1.1⟩⟩⟩⟩)), (by (with_reducible repeat (first | apply Kd.R_alloc | apply Kd.R_drewN | apply Kd.R_drew)); exact Kd.R_mono HO560.out (fun _ hk => ⟨hk.1.1.1.2, ⟨hk.1.1.2, ⟨hk.1.2, ⟨hk.2, hk.1.1.1.1⟩⟩⟩⟩)), (by (with_reducible repeat (first | apply Kd.R_alloc | apply Kd.R_drewN | apply Kd.R_drew)); exact Kd.R_mono HO569.out (fun _ hk => ⟨hk.1.1.1.2, ⟨hk.1.1.2, ⟨hk.1.2, ⟨hk.2, hk.1.1.1.1.2⟩⟩⟩⟩)), (by (with_reducible repeat (first | apply Kd.R_alloc | apply Kd.R_drewN | apply Kd.R_drew)); exact Kd.R_mono HO574.out (fun _ hk => ⟨hk.1.1.1.2, ⟨hk.1.1.2, ⟨hk.1.2, ⟨hk.2, hk.1.1.1.1.2⟩⟩⟩⟩)), (by (with_reducible repeat (first | apply Kd.R_alloc | apply Kd.R_drewN | apply Kd.R_drew)); exact Kd.R_mono HO579.out (fun _ hk => ⟨hk.1.1.1.2, ⟨hk.1.1.2, ⟨hk.1.2, ⟨hk.2, hk.1.1.1.1.2⟩⟩⟩⟩)), (by (with_reducible repeat (first | apply Kd.R_alloc | apply Kd.R_drewN | apply Kd.R_drew)); exact Kd.R_mono HO_9.out (fun _ hk => ⟨hk.1.1.1.1, ⟨hk.1.1.1.2, ⟨hk.1.1.2, ⟨hk.1.2, hk.2⟩⟩⟩⟩)), (bk_ BK532.out), (bk_ BK548.out), (bk_ BK557.out), (bk_ BK566.out), (bk_ BK583.out), GW583.out, GE583.out, NB532_583.out, NB583_532.out, NB548_583.out, NB583_548.out, NB557_583.out, NB583_557.out, NB566_583.out, NB583_566.out, (hb_ HB.out)⟩)
                 ·skip
                  refine box_step ?hg (N := 24) ?hd (cs := #[.int .i64 0, .int .i64 0]) (t := 23) ?hr ?_; (case hd => rfl); (case hg => rfl); (case hr => first | (go_simp; done) | (go_simp; rfl))
                  intro gb583 hg w76 hbox hb
                  have n0_ := Aside0.mk (Kd.R_below (kr_ (HO_9.out)) hb)
                  have n1_ := Aside0.mk (Kd.R_below (kr_ (HO551.out)) hb)
                  have n2_ := Aside0.mk (Kd.R_below (kr_ (HO560.out)) hb)
                  have n3_ := Aside0.mk (Kd.R_below (kr_ (HO569.out)) hb)
                  have n4_ := Aside0.mk (Kd.R_below (kr_ (HO574.out)) hb)
                  have n5_ := Aside0.mk (bkb_ BK532.out hb)
                  have n6_ := Aside0.mk (bkb_ BK548.out hb)
                  have n7_ := Aside0.mk (bkb_ BK557.out hb)
                  have n8_ := Aside0.mk (bkb_ BK566.out hb)
                  have n9_ := Aside0.mk (below_step (hb_ HB.out) hb)
                  have n10_ := Aside0.mk (hbox)
                  have n11_ := Aside0.mk ((by rw [hg]; exact (below_size (hb_ HB.out)) : w.heap.size ≤ gb583))
                  have n12_ := Aside0.mk ((by rw [hg]; exact (below_size (hb_ HB.out)) : w.heap.size ≤ gb583))
                  have n13_ := Aside0.mk ((by rw [hg]; exact Nat.ne_of_lt (bkl_ BK532.out) : gb532 ≠ gb583))
                  have n14_ := Aside0.mk ((by rw [hg]; exact Nat.ne_of_gt (bkl_ BK532.out) : gb583 ≠ gb532))
                  have n15_ := Aside0.mk ((by rw [hg]; exact Nat.ne_of_lt (bkl_ BK548.out) : gb548 ≠ gb583))
                  have n16_ := Aside0.mk ((by rw [hg]; exact Nat.ne_of_gt (bkl_ BK548.out) : gb583 ≠ gb548))
                  have n17_ := Aside0.mk ((by rw [hg]; exact Nat.ne_of_lt (bkl_ BK557.out) : gb557 ≠ gb583))
                  have n18_ := Aside0.mk ((by rw [hg]; exact Nat.ne_of_gt (bkl_ BK557.out) : gb583 ≠ gb557))
                  have n19_ := Aside0.mk ((by rw [hg]; exact Nat.ne_of_lt (bkl_ BK566.out) : gb566 ≠ gb583))
                  have n20_ := Aside0.mk ((by rw [hg]; exact Nat.ne_of_gt (bkl_ BK566.out) : gb583 ≠ gb566))
                  clear HO_9
                  clear HO551
                  clear HO560
                  clear HO569
                  clear HO574
                  clear BK532
                  clear BK548
                  clear BK557
                  clear BK566
                  clear HB
                  have HO_9 := n0_
                  have HO551 := n1_
                  have HO560 := n2_
                  have HO569 := n3_
                  have HO574 := n4_
                  have BK532 := n5_
                  have BK548 := n6_
                  have BK557 := n7_
                  have BK566 := n8_
                  have HB := n9_
                  have BK583 := n10_
                  have GW583 := n11_
                  have GE583 := n12_
                  have NB532_583 := n13_
                  have NB583_532 := n14_
                  have NB548_583 := n15_
                  have NB583_548 := n16_
                  have NB557_583 := n17_
                  have NB583_557 := n18_
                  have NB566_583 := n19_
                  have NB583_566 := n20_
                  clear n0_ n1_ n2_ n3_ n4_ n5_ n6_ n7_ n8_ n9_ n10_ n11_ n12_ n13_ n14_ n15_ n16_ n17_ n18_ n19_ n20_
                  clear hb hbox hg
                  refine hK.out _ _ ⟨(blk_cell BK532.out 0).trans rfl, (blk_cell BK532.out 1).trans rfl⟩ (fun hHeld => ?_)
                  clear hK K
                  refine norm_ (a' := ?_) ?_ ?_
                  rotate_left
                  ·show Act.put _ (some 24) _ = _
                   simp only [Act.put, List.setIfInBounds_toArray, List.set_cons_zero, List.set_cons_succ, i64_w, i32_w]
                   rfl
                  refine one_ (i := 1) (N := some 111) #[true, true, true, false, false, false, false, true, false, false] rfl rfl (one_of HT_.out (by kernel_rfl)) (by decide) (fun K hK => ?_)
                  refine goes_ Try.func11 (by kernel_rfl) rfl #[.slice A0 l0.length c0] (by rfl) rfl rfl al_ ?_
                  with_reducible refine (comfitlaw06_Of.calls k1 _ _ l0 t577 _ ?side1 ?side2 A26.out).mono ?_
                  (case side1 => exact kc_ (Kd.C_below HR0.out HB.out))
                  (case side2 => exact HC0.out)
                  rintro e w77 ⟨v578, rfl, ho0, hb⟩
                  refine ⟨_, rfl, ?_⟩
                  have n0_ := Aside0.mk (Kd.R_elder' (kr_ (HO_9.out)) (Kd.R_base ho0) hb)
                  have n1_ := Aside0.mk (Kd.R_elder' (kr_ (HO551.out)) (Kd.R_base ho0) hb)
                  have n2_ := Aside0.mk (Kd.R_elder' (kr_ (HO560.out)) (Kd.R_base ho0) hb)
                  have n3_ := Aside0.mk (Kd.R_elder' (kr_ (HO569.out)) (Kd.R_base ho0) hb)
                  have n4_ := Aside0.mk (Kd.R_elder' (kr_ (HO574.out)) (Kd.R_base ho0) hb)
                  have n5_ := Aside0.mk (Kd.R_lower (Kd.R_new' (Kd.R_new' (Kd.R_new' (Kd.R_new' (Kd.R_new' ho0 (Kd.R_lt (kr_ (HO_9.out)))) (Kd.R_lt (kr_ (HO551.out)))) (Kd.R_lt (kr_ (HO560.out)))) (Kd.R_lt (kr_ (HO569.out)))) (Kd.R_lt (kr_ (HO574.out)))) (below_size (hb_ HB.out)))
                  have n6_ := Aside0.mk (bkb_ BK532.out hb)
                  have n7_ := Aside0.mk (bkb_ BK548.out hb)
                  have n8_ := Aside0.mk (bkb_ BK557.out hb)
                  have n9_ := Aside0.mk (bkb_ BK566.out hb)
                  have n10_ := Aside0.mk (bkb_ BK583.out hb)
                  have n11_ := Aside0.mk (below_step (hb_ HB.out) hb)
                  clear HO_9
                  clear HO551
                  clear HO560
                  clear HO569
                  clear HO574
                  clear BK532
                  clear BK548
                  clear BK557
                  clear BK566
                  clear BK583
                  clear HB
                  have HO_9 := n0_
                  have HO551 := n1_
                  have HO560 := n2_
                  have HO569 := n3_
                  have HO574 := n4_
                  have HO579 := n5_
                  have BK532 := n6_
                  have BK548 := n7_
                  have BK557 := n8_
                  have BK566 := n9_
                  have BK583 := n10_
                  have HB := n11_
                  clear n0_ n1_ n2_ n3_ n4_ n5_ n6_ n7_ n8_ n9_ n10_ n11_
                  (try clear hb)
                  (try clear hb2)
                  (try clear hk)
                  (try clear hi)
                  (try clear ho0)
                  obtain ⟨Ao78, co78, eo78⟩ := Kd.R_slice HO579.out
                  (first | subst eo78 | (injection eo78 with f1_ f2_ f3_; have f4_ := f1_.symm; have f5_ := f3_.symm; clear f1_ f2_ f3_; subst f4_; subst f5_))
                  refine hK.out _ _ ⟨(blk_cell BK532.out 0).trans rfl, (blk_cell BK532.out 1).trans rfl⟩ (fun hHeld => ?_)
                  clear hK K
                  refine norm_ (a' := ?_) ?_ ?_
                  rotate_left
                  ·show Act.put _ (some 111) _ = _
                   simp only [Act.put, List.setIfInBounds_toArray, List.set_cons_zero, List.set_cons_succ, i64_w, i32_w]
                   rfl
                  refine one_ (i := 3) (N := some 113) #[true, true, true, true, false, false, false, true, false, false] rfl rfl (one_of HT_.out (by kernel_rfl)) (by decide) (fun K hK => ?_)
                  refine goes_ Try.func17 (by kernel_rfl) rfl #[.slice Ao78 t577.length co78, .agg #[.int .i64 a1_0, .int .i64 a1_1]] (by rfl) rfl rfl al_ ?_
                  with_reducible refine (tags_Circle.calls k1 _ _ t577 a1_0 a1_1 t580 t581 t582 _ ?side1 ?side2 A27.out).mono ?_
                  (case side1 => exact kc_ (Kd.R_reads' HO579.out).2.2)
                  (case side2 => exact (Kd.R_reads' HO579.out).2.1)
                  rintro e w79 ⟨rfl, hb⟩
                  refine ⟨_, rfl, ?_⟩
                  have n0_ := Aside0.mk (Kd.R_below (kr_ (HO_9.out)) hb)
                  have n1_ := Aside0.mk (Kd.R_below (kr_ (HO551.out)) hb)
                  have n2_ := Aside0.mk (Kd.R_below (kr_ (HO560.out)) hb)
                  have n3_ := Aside0.mk (Kd.R_below (kr_ (HO569.out)) hb)
                  have n4_ := Aside0.mk (Kd.R_below (kr_ (HO574.out)) hb)
                  have n5_ := Aside0.mk (Kd.R_below (kr_ (HO579.out)) hb)
                  have n6_ := Aside0.mk (bkb_ BK532.out hb)
                  have n7_ := Aside0.mk (bkb_ BK548.out hb)
                  have n8_ := Aside0.mk (bkb_ BK557.out hb)
                  have n9_ := Aside0.mk (bkb_ BK566.out hb)
                  have n10_ := Aside0.mk (bkb_ BK583.out hb)
                  have n11_ := Aside0.mk (below_step (hb_ HB.out) hb)
                  clear HO_9
                  clear HO551
                  clear HO560
                  clear HO569
                  clear HO574
                  clear HO579
                  clear BK532
                  clear BK548
                  clear BK557
                  clear BK566
                  clear BK583
                  clear HB
                  have HO_9 := n0_
                  have HO551 := n1_
                  have HO560 := n2_
                  have HO569 := n3_
                  have HO574 := n4_
                  have HO579 := n5_
                  have BK532 := n6_
                  have BK548 := n7_
                  have BK557 := n8_
                  have BK566 := n9_
                  have BK583 := n10_
                  have HB := n11_
                  clear n0_ n1_ n2_ n3_ n4_ n5_ n6_ n7_ n8_ n9_ n10_ n11_
                  (try clear hb)
                  (try clear hb2)
                  (try clear hk)
                  (try clear hi)
                  refine hK.out _ _ ⟨(blk_cell BK532.out 0).trans rfl, (blk_cell BK532.out 1).trans rfl⟩ (fun hHeld => ?_)
                  clear hK K
                  refine norm_ (a' := ?_) ?_ ?_
                  rotate_left
                  ·show Act.put _ (some 113) _ = _
                   simp only [Act.put, List.setIfInBounds_toArray, List.set_cons_zero, List.set_cons_succ, i64_w, i32_w]
                   rfl
                  refine pure_ (i := 4) (N := some 109) (v := ?_) (a' := ?_) #[true, true, true, true, true, false, false, true, false, false] rfl rfl (any_of HT_.out (by kernel_rfl)) (fun _ _ _ h => h) (Or.inl ⟨by rfl, ?_⟩) ?_ ?_
                  rotate_left
                  ·intro w'
                   go_simp
                   with_reducible rfl
                  rotate_left
                  ·simp only [Act.put, List.setIfInBounds_toArray, List.set_cons_zero, List.set_cons_succ, i64_w, i32_w]
                   rfl
                  refine pure_ (i := 5) (N := some 114) (v := ?_) (a' := ?_) #[true, true, true, true, true, true, false, true, false, false] rfl rfl (any_of HT_.out (by kernel_rfl)) (fun _ _ _ h => h) (Or.inl ⟨by rfl, ?_⟩) ?_ ?_
                  rotate_left
                  ·intro w'
                   go_simp
                   with_reducible rfl
                  rotate_left
                  ·simp only [Act.put, List.setIfInBounds_toArray, List.set_cons_zero, List.set_cons_succ, i64_w, i32_w]
                   rfl
                  refine pure_ (i := 6) (N := some 115) (v := ?_) (a' := ?_) #[true, true, true, true, true, true, true, true, false, false] rfl rfl (any_of HT_.out (by kernel_rfl)) (fun _ _ _ h => h) (Or.inl ⟨by rfl, ?_⟩) ?_ ?_
                  rotate_left
                  ·intro w'
                   go_simp
                   with_reducible rfl
                  rotate_left
                  ·simp only [Act.put, List.setIfInBounds_toArray, List.set_cons_zero, List.set_cons_succ, i64_w, i32_w]
                   rfl
                  exact norm_ (by simp only [putAll, Act.put, List.setIfInBounds_toArray, List.set_cons_zero, List.set_cons_succ]) (hCont (.slice Ao78 t577.length co78, gb583) _ ⟨hHeld, (by (with_reducible repeat (first | apply Kd.R_alloc | apply Kd.R_drewN | apply Kd.R_drew)); exact Kd.R_mono HO551.out (fun _ hk => ⟨hk.1.1.1.2, ⟨hk.1.1.2, ⟨hk.1.2, ⟨hk.2, hk.1.1.1.1⟩⟩⟩⟩)), (by (with_reducible repeat (first | apply Kd.R_alloc | apply Kd.R_drewN | apply Kd.R_drew)); exact Kd.R_mono HO560.out (fun _ hk => ⟨hk.1.1.1.2, ⟨hk.1.1.2, ⟨hk.1.2, ⟨hk.2, hk.1.1.1.1⟩⟩⟩⟩)), (by (with_reducible repeat (first | apply Kd.R_alloc | apply Kd.R_drewN | apply Kd.R_drew)); exact Kd.R_mono HO569.out (fun _ hk => ⟨hk.1.1.1.2, ⟨hk.1.1.2, ⟨hk.1.2, ⟨hk.2, hk.1.1.1.1.2⟩⟩⟩⟩)), (by (with_reducible repeat (first | apply Kd.R_alloc | apply Kd.R_drewN | apply Kd.R_drew)); exact Kd.R_mono HO574.out (fun _ hk => ⟨hk.1.1.1.2, ⟨hk.1.1.2, ⟨hk.1.2, ⟨hk.2, hk.1.1.1.1.2⟩⟩⟩⟩)), (by (with_reducible repeat (first | apply Kd.R_alloc | apply Kd.R_drewN | apply Kd.R_drew)); exact Kd.R_mono HO579.out (fun _ hk => ⟨hk.1.1.1.2, ⟨hk.1.1.2, ⟨hk.1.2, ⟨hk.2, hk.1.1.1.1.2⟩⟩⟩⟩)), (by (with_reducible repeat (first | apply Kd.R_alloc | apply Kd.R_drewN | apply Kd.R_drew)); exact Kd.R_mono HO_9.out (fun _ hk => ⟨hk.1.1.1.1, ⟨hk.1.1.1.2, ⟨hk.1.1.2, ⟨hk.1.2, hk.2⟩⟩⟩⟩)), (bk_ BK532.out), (bk_ BK548.out), (bk_ BK557.out), (bk_ BK566.out), (bk_ BK583.out), GW583.out, GE583.out, NB532_583.out, NB583_532.out, NB548_583.out, NB583_548.out, NB557_583.out, NB583_557.out, NB566_583.out, NB583_566.out, (hb_ HB.out)⟩)
                rintro ⟨v578, gb583⟩ w80 ⟨hS_, h0_, h1_, h2_, h3_, h4_, h5_, h6_, h7_, h8_, h9_, h10_, h11_, h12_, h13_, h14_, h15_, h16_, h17_, h18_, h19_, h20_, h21_⟩
                have n0_ : Aside0 (Kd.R k57 57 w80 w.heap.size (fun k_ => some k_ ≠ (v559 : Value).ownBlock ∧ some k_ ≠ (.slice Ao69 t567.length co69 : Value).ownBlock ∧ some k_ ≠ (.slice Ao73 t572.length co73 : Value).ownBlock ∧ some k_ ≠ (v578 : Value).ownBlock ∧ some k_ ≠ (.slice Ao10 x9_1.length co10 : Value).ownBlock) v550 t549) := ⟨h0_⟩
                have n1_ : Aside0 (Kd.R k57 57 w80 w.heap.size (fun k_ => some k_ ≠ (v550 : Value).ownBlock ∧ some k_ ≠ (.slice Ao69 t567.length co69 : Value).ownBlock ∧ some k_ ≠ (.slice Ao73 t572.length co73 : Value).ownBlock ∧ some k_ ≠ (v578 : Value).ownBlock ∧ some k_ ≠ (.slice Ao10 x9_1.length co10 : Value).ownBlock) v559 t558) := ⟨h1_⟩
                have n2_ : Aside0 (Kd.R k57 57 w80 w.heap.size (fun k_ => some k_ ≠ (v550 : Value).ownBlock ∧ some k_ ≠ (v559 : Value).ownBlock ∧ some k_ ≠ (.slice Ao73 t572.length co73 : Value).ownBlock ∧ some k_ ≠ (v578 : Value).ownBlock ∧ some k_ ≠ (.slice Ao10 x9_1.length co10 : Value).ownBlock) (.slice Ao69 t567.length co69) t567) := ⟨h2_⟩
                have n3_ : Aside0 (Kd.R k57 57 w80 w.heap.size (fun k_ => some k_ ≠ (v550 : Value).ownBlock ∧ some k_ ≠ (v559 : Value).ownBlock ∧ some k_ ≠ (.slice Ao69 t567.length co69 : Value).ownBlock ∧ some k_ ≠ (v578 : Value).ownBlock ∧ some k_ ≠ (.slice Ao10 x9_1.length co10 : Value).ownBlock) (.slice Ao73 t572.length co73) t572) := ⟨h3_⟩
                have n4_ : Aside0 (Kd.R k57 57 w80 w.heap.size (fun k_ => some k_ ≠ (v550 : Value).ownBlock ∧ some k_ ≠ (v559 : Value).ownBlock ∧ some k_ ≠ (.slice Ao69 t567.length co69 : Value).ownBlock ∧ some k_ ≠ (.slice Ao73 t572.length co73 : Value).ownBlock ∧ some k_ ≠ (.slice Ao10 x9_1.length co10 : Value).ownBlock) v578 t577) := ⟨h4_⟩
                have n5_ : Aside0 (Kd.R k57 57 w80 w.heap.size (fun k_ => some k_ ≠ (v550 : Value).ownBlock ∧ some k_ ≠ (v559 : Value).ownBlock ∧ some k_ ≠ (.slice Ao69 t567.length co69 : Value).ownBlock ∧ some k_ ≠ (.slice Ao73 t572.length co73 : Value).ownBlock ∧ some k_ ≠ (v578 : Value).ownBlock) (.slice Ao10 x9_1.length co10) x9_1) := ⟨h5_⟩
                have n6_ : Aside0 (w80.heap[gb532]? = some (.cells #[.int .i64 a1_0, .int .i64 a1_1] 23 (0, 0))) := ⟨h6_⟩
                have n7_ : Aside0 (w80.heap[gb548]? = some (.cells #[.int .i64 a1_1, .int .i64 a1_0] 23 (0, 0))) := ⟨h7_⟩
                have n8_ : Aside0 (w80.heap[gb557]? = some (.cells #[.int .i64 t553, .int .i64 t554] 23 (0, 0))) := ⟨h8_⟩
                have n9_ : Aside0 (w80.heap[gb566]? = some (.cells #[.int .i64 t562, .int .i64 t563] 23 (0, 0))) := ⟨h9_⟩
                have n10_ : Aside0 (w80.heap[gb583]? = some (.cells #[.int .i64 0, .int .i64 0] 23 (0, 0))) := ⟨h10_⟩
                have n11_ : Aside0 (w.heap.size ≤ gb583) := ⟨h11_⟩
                have n12_ : Aside0 (w.heap.size ≤ gb583) := ⟨h12_⟩
                have n13_ : Aside0 (gb532 ≠ gb583) := ⟨h13_⟩
                have n14_ : Aside0 (gb583 ≠ gb532) := ⟨h14_⟩
                have n15_ : Aside0 (gb548 ≠ gb583) := ⟨h15_⟩
                have n16_ : Aside0 (gb583 ≠ gb548) := ⟨h16_⟩
                have n17_ : Aside0 (gb557 ≠ gb583) := ⟨h17_⟩
                have n18_ : Aside0 (gb583 ≠ gb557) := ⟨h18_⟩
                have n19_ : Aside0 (gb566 ≠ gb583) := ⟨h19_⟩
                have n20_ : Aside0 (gb583 ≠ gb566) := ⟨h20_⟩
                have n21_ : Aside0 (Below w.heap.size w w80) := ⟨h21_⟩
                clear HO_9
                clear HO551
                clear HO560
                clear HO569
                clear HO574
                clear BK532
                clear BK548
                clear BK557
                clear BK566
                clear HB
                clear h0_ h1_ h2_ h3_ h4_ h5_ h6_ h7_ h8_ h9_ h10_ h11_ h12_ h13_ h14_ h15_ h16_ h17_ h18_ h19_ h20_ h21_
                have HO551 := n0_
                have HO560 := n1_
                have HO569 := n2_
                have HO574 := n3_
                have HO579 := n4_
                have HO_9 := n5_
                have BK532 := n6_
                have BK548 := n7_
                have BK557 := n8_
                have BK566 := n9_
                have BK583 := n10_
                have GW583 := n11_
                have GE583 := n12_
                have NB532_583 := n13_
                have NB583_532 := n14_
                have NB548_583 := n15_
                have NB583_548 := n16_
                have NB557_583 := n17_
                have NB583_557 := n18_
                have NB566_583 := n19_
                have NB583_566 := n20_
                have HB := n21_
                clear n0_ n1_ n2_ n3_ n4_ n5_ n6_ n7_ n8_ n9_ n10_ n11_ n12_ n13_ n14_ n15_ n16_ n17_ n18_ n19_ n20_ n21_
                have hHeld : w80.cell? ⟨gb532, 0, none⟩ = some (.int .i64 a1_0) ∧ w80.cell? ⟨gb532, 1, none⟩ = some (.int .i64 a1_1) := hS_
                refine norm_ (a' := ?_) ?_ ?_
                rotate_left
                ·simp only [putAll, Act.put, List.setIfInBounds_toArray, List.set_cons_zero, List.set_cons_succ]
                 rfl
                refine one_ (i := 8) (N := none) #[true, true, true, true, true, true, true, true, true, false] rfl rfl (one_of HT_.out (by kernel_rfl)) (by decide) (fun K hK => ?_)
                have hs81 : w80.cell? ⟨gb583, 0, none⟩ = some (.int .i64 0) := (blk_cell BK583.out 0).trans rfl
                have hfs81 := blk_frozen BK583.out 0
                have hns81_0 := NB532_583.out
                have hns81_1 := NB548_583.out
                have hns81_2 := NB557_583.out
                have hns81_3 := NB566_583.out
                have hms81_0 := NB583_532.out
                have hms81_1 := NB583_548.out
                have hms81_2 := NB583_557.out
                have hms81_3 := NB583_566.out
                have hs82 : w80.cell? ⟨gb583, 1, none⟩ = some (.int .i64 0) := (blk_cell BK583.out 1).trans rfl
                have hfs82 := blk_frozen BK583.out 1
                have hns82_0 := NB532_583.out
                have hns82_1 := NB548_583.out
                have hns82_2 := NB557_583.out
                have hns82_3 := NB566_583.out
                have hms82_0 := NB583_532.out
                have hms82_1 := NB583_548.out
                have hms82_2 := NB583_557.out
                have hms82_3 := NB583_566.out
                refine skip_ (w1 := ?_) (by rfl) rfl ?_ ?_
                rotate_left
                ·go_simp
                 rfl
                refine hK.out _ _ ⟨((cell_far (p := ⟨gb583, _, none⟩) NB532_583.out _).trans (((cell_far (p := ⟨gb583, _, none⟩) NB532_583.out _).trans (hHeld.1)))), ((cell_far (p := ⟨gb583, _, none⟩) NB532_583.out _).trans (((cell_far (p := ⟨gb583, _, none⟩) NB532_583.out _).trans (hHeld.2))))⟩ (fun hHeld => ?_)
                clear hK K
                refine pure_ (i := 9) (N := some 25) (v := ?_) (a' := ?_) #[true, true, true, true, true, true, true, true, true, true] rfl rfl (any_of HT_.out (by kernel_rfl)) (fun _ _ _ h => h) (Or.inl ⟨by rfl, ?_⟩) ?_ ?_
                rotate_left
                ·intro w'
                 go_simp
                 with_reducible rfl
                rotate_left
                ·simp only [Act.put, List.setIfInBounds_toArray, List.set_cons_zero, List.set_cons_succ, i64_w, i32_w]
                 rfl
                refine done_ (done_of HT_.out (by kernel_rfl)) ?_
                try go_wp2
                have n0_ : Aside0 (Kd.R k57 57 ((w80.setCell ⟨gb583, 0, none⟩ (.int .i64 t580)).setCell ⟨gb583, 1, none⟩ (.int .i64 t581)) w.heap.size (fun k_ => some k_ ≠ (v550 : Value).ownBlock ∧ some k_ ≠ (v559 : Value).ownBlock ∧ some k_ ≠ (.slice Ao69 t567.length co69 : Value).ownBlock ∧ some k_ ≠ (.slice Ao73 t572.length co73 : Value).ownBlock ∧ some k_ ≠ (v578 : Value).ownBlock) (.slice Ao10 x9_1.length co10) x9_1) := ⟨by (with_reducible repeat (first | apply Kd.R_alloc | apply Kd.R_drewN | apply Kd.R_drew)); exact Kd.R_mono (Kd.R_far (p := ⟨gb583, 1, none⟩) (Kd.R_far (p := ⟨gb583, 0, none⟩) (Kd.R_types HO_9.out BK583.out (by decide)) (fun _ hk => hk.2) (.int .i64 t580)) (fun _ hk => hk.2) (.int .i64 t581)) (fun _ hk => ⟨hk.1.1, ⟨hk.1.2.1, ⟨hk.1.2.2.1, ⟨hk.1.2.2.2.1, hk.1.2.2.2.2⟩⟩⟩⟩)⟩
                have n1_ : Aside0 (Kd.R k57 57 ((w80.setCell ⟨gb583, 0, none⟩ (.int .i64 t580)).setCell ⟨gb583, 1, none⟩ (.int .i64 t581)) w.heap.size (fun k_ => some k_ ≠ (.slice Ao10 x9_1.length co10 : Value).ownBlock ∧ some k_ ≠ (v559 : Value).ownBlock ∧ some k_ ≠ (.slice Ao69 t567.length co69 : Value).ownBlock ∧ some k_ ≠ (.slice Ao73 t572.length co73 : Value).ownBlock ∧ some k_ ≠ (v578 : Value).ownBlock) v550 t549) := ⟨by (with_reducible repeat (first | apply Kd.R_alloc | apply Kd.R_drewN | apply Kd.R_drew)); exact Kd.R_mono (Kd.R_far (p := ⟨gb583, 1, none⟩) (Kd.R_far (p := ⟨gb583, 0, none⟩) (Kd.R_types HO551.out BK583.out (by decide)) (fun _ hk => hk.2) (.int .i64 t580)) (fun _ hk => hk.2) (.int .i64 t581)) (fun _ hk => ⟨hk.1.2.2.2.2, ⟨hk.1.1, ⟨hk.1.2.1, ⟨hk.1.2.2.1, hk.1.2.2.2.1⟩⟩⟩⟩)⟩
                have n2_ : Aside0 (Kd.R k57 57 ((w80.setCell ⟨gb583, 0, none⟩ (.int .i64 t580)).setCell ⟨gb583, 1, none⟩ (.int .i64 t581)) w.heap.size (fun k_ => some k_ ≠ (.slice Ao10 x9_1.length co10 : Value).ownBlock ∧ some k_ ≠ (v550 : Value).ownBlock ∧ some k_ ≠ (.slice Ao69 t567.length co69 : Value).ownBlock ∧ some k_ ≠ (.slice Ao73 t572.length co73 : Value).ownBlock ∧ some k_ ≠ (v578 : Value).ownBlock) v559 t558) := ⟨by (with_reducible repeat (first | apply Kd.R_alloc | apply Kd.R_drewN | apply Kd.R_drew)); exact Kd.R_mono (Kd.R_far (p := ⟨gb583, 1, none⟩) (Kd.R_far (p := ⟨gb583, 0, none⟩) (Kd.R_types HO560.out BK583.out (by decide)) (fun _ hk => hk.2) (.int .i64 t580)) (fun _ hk => hk.2) (.int .i64 t581)) (fun _ hk => ⟨hk.1.2.2.2.2, ⟨hk.1.1, ⟨hk.1.2.1, ⟨hk.1.2.2.1, hk.1.2.2.2.1⟩⟩⟩⟩)⟩
                have n3_ : Aside0 (Kd.R k57 57 ((w80.setCell ⟨gb583, 0, none⟩ (.int .i64 t580)).setCell ⟨gb583, 1, none⟩ (.int .i64 t581)) w.heap.size (fun k_ => some k_ ≠ (.slice Ao10 x9_1.length co10 : Value).ownBlock ∧ some k_ ≠ (v550 : Value).ownBlock ∧ some k_ ≠ (v559 : Value).ownBlock ∧ some k_ ≠ (.slice Ao73 t572.length co73 : Value).ownBlock ∧ some k_ ≠ (v578 : Value).ownBlock) (.slice Ao69 t567.length co69) t567) := ⟨by (with_reducible repeat (first | apply Kd.R_alloc | apply Kd.R_drewN | apply Kd.R_drew)); exact Kd.R_mono (Kd.R_far (p := ⟨gb583, 1, none⟩) (Kd.R_far (p := ⟨gb583, 0, none⟩) (Kd.R_types HO569.out BK583.out (by decide)) (fun _ hk => hk.2) (.int .i64 t580)) (fun _ hk => hk.2) (.int .i64 t581)) (fun _ hk => ⟨hk.1.2.2.2.2, ⟨hk.1.1, ⟨hk.1.2.1, ⟨hk.1.2.2.1, hk.1.2.2.2.1⟩⟩⟩⟩)⟩
                have n4_ : Aside0 (Kd.R k57 57 ((w80.setCell ⟨gb583, 0, none⟩ (.int .i64 t580)).setCell ⟨gb583, 1, none⟩ (.int .i64 t581)) w.heap.size (fun k_ => some k_ ≠ (.slice Ao10 x9_1.length co10 : Value).ownBlock ∧ some k_ ≠ (v550 : Value).ownBlock ∧ some k_ ≠ (v559 : Value).ownBlock ∧ some k_ ≠ (.slice Ao69 t567.length co69 : Value).ownBlock ∧ some k_ ≠ (v578 : Value).ownBlock) (.slice Ao73 t572.length co73) t572) := ⟨by (with_reducible repeat (first | apply Kd.R_alloc | apply Kd.R_drewN | apply Kd.R_drew)); exact Kd.R_mono (Kd.R_far (p := ⟨gb583, 1, none⟩) (Kd.R_far (p := ⟨gb583, 0, none⟩) (Kd.R_types HO574.out BK583.out (by decide)) (fun _ hk => hk.2) (.int .i64 t580)) (fun _ hk => hk.2) (.int .i64 t581)) (fun _ hk => ⟨hk.1.2.2.2.2, ⟨hk.1.1, ⟨hk.1.2.1, ⟨hk.1.2.2.1, hk.1.2.2.2.1⟩⟩⟩⟩)⟩
                have n5_ : Aside0 (Kd.R k57 57 ((w80.setCell ⟨gb583, 0, none⟩ (.int .i64 t580)).setCell ⟨gb583, 1, none⟩ (.int .i64 t581)) w.heap.size (fun k_ => some k_ ≠ (.slice Ao10 x9_1.length co10 : Value).ownBlock ∧ some k_ ≠ (v550 : Value).ownBlock ∧ some k_ ≠ (v559 : Value).ownBlock ∧ some k_ ≠ (.slice Ao69 t567.length co69 : Value).ownBlock ∧ some k_ ≠ (.slice Ao73 t572.length co73 : Value).ownBlock) v578 t577) := ⟨by (with_reducible repeat (first | apply Kd.R_alloc | apply Kd.R_drewN | apply Kd.R_drew)); exact Kd.R_mono (Kd.R_far (p := ⟨gb583, 1, none⟩) (Kd.R_far (p := ⟨gb583, 0, none⟩) (Kd.R_types HO579.out BK583.out (by decide)) (fun _ hk => hk.2) (.int .i64 t580)) (fun _ hk => hk.2) (.int .i64 t581)) (fun _ hk => ⟨hk.1.2.2.2.2, ⟨hk.1.1, ⟨hk.1.2.1, ⟨hk.1.2.2.1, hk.1.2.2.2.1⟩⟩⟩⟩)⟩
                have n6_ : Aside0 (((w80.setCell ⟨gb583, 0, none⟩ (.int .i64 t580)).setCell ⟨gb583, 1, none⟩ (.int .i64 t581)).heap[gb532]? = some (.cells #[.int .i64 a1_0, .int .i64 a1_1] 23 (0, 0))) := ⟨by (with_reducible repeat (first | refine blk_drewN ?_ _ | refine blk_drew ?_ | refine blk_alloc ?_ _)); refine blk_far ?_ NB532_583.out _; (with_reducible repeat (first | refine blk_drewN ?_ _ | refine blk_drew ?_ | refine blk_alloc ?_ _)); refine blk_far ?_ NB532_583.out _; (with_reducible repeat (first | refine blk_drewN ?_ _ | refine blk_drew ?_ | refine blk_alloc ?_ _)); exact BK532.out⟩
                have n7_ : Aside0 (((w80.setCell ⟨gb583, 0, none⟩ (.int .i64 t580)).setCell ⟨gb583, 1, none⟩ (.int .i64 t581)).heap[gb548]? = some (.cells #[.int .i64 a1_1, .int .i64 a1_0] 23 (0, 0))) := ⟨by (with_reducible repeat (first | refine blk_drewN ?_ _ | refine blk_drew ?_ | refine blk_alloc ?_ _)); refine blk_far ?_ NB548_583.out _; (with_reducible repeat (first | refine blk_drewN ?_ _ | refine blk_drew ?_ | refine blk_alloc ?_ _)); refine blk_far ?_ NB548_583.out _; (with_reducible repeat (first | refine blk_drewN ?_ _ | refine blk_drew ?_ | refine blk_alloc ?_ _)); exact BK548.out⟩
                have n8_ : Aside0 (((w80.setCell ⟨gb583, 0, none⟩ (.int .i64 t580)).setCell ⟨gb583, 1, none⟩ (.int .i64 t581)).heap[gb557]? = some (.cells #[.int .i64 t553, .int .i64 t554] 23 (0, 0))) := ⟨by (with_reducible repeat (first | refine blk_drewN ?_ _ | refine blk_drew ?_ | refine blk_alloc ?_ _)); refine blk_far ?_ NB557_583.out _; (with_reducible repeat (first | refine blk_drewN ?_ _ | refine blk_drew ?_ | refine blk_alloc ?_ _)); refine blk_far ?_ NB557_583.out _; (with_reducible repeat (first | refine blk_drewN ?_ _ | refine blk_drew ?_ | refine blk_alloc ?_ _)); exact BK557.out⟩
                have n9_ : Aside0 (((w80.setCell ⟨gb583, 0, none⟩ (.int .i64 t580)).setCell ⟨gb583, 1, none⟩ (.int .i64 t581)).heap[gb566]? = some (.cells #[.int .i64 t562, .int .i64 t563] 23 (0, 0))) := ⟨by (with_reducible repeat (first | refine blk_drewN ?_ _ | refine blk_drew ?_ | refine blk_alloc ?_ _)); refine blk_far ?_ NB566_583.out _; (with_reducible repeat (first | refine blk_drewN ?_ _ | refine blk_drew ?_ | refine blk_alloc ?_ _)); refine blk_far ?_ NB566_583.out _; (with_reducible repeat (first | refine blk_drewN ?_ _ | refine blk_drew ?_ | refine blk_alloc ?_ _)); exact BK566.out⟩
                have n10_ : Aside0 (((w80.setCell ⟨gb583, 0, none⟩ (.int .i64 t580)).setCell ⟨gb583, 1, none⟩ (.int .i64 t581)).heap[gb583]? = some (.cells #[.int .i64 t580, .int .i64 t581] 23 (0, 0))) := ⟨by (with_reducible repeat (first | refine blk_drewN ?_ _ | refine blk_drew ?_ | refine blk_alloc ?_ _)); refine blk_put (cs := #[.int .i64 t580, .int .i64 0]) ?_ 1 _ rfl; (with_reducible repeat (first | refine blk_drewN ?_ _ | refine blk_drew ?_ | refine blk_alloc ?_ _)); refine blk_put (cs := #[.int .i64 0, .int .i64 0]) ?_ 0 _ rfl; (with_reducible repeat (first | refine blk_drewN ?_ _ | refine blk_drew ?_ | refine blk_alloc ?_ _)); exact BK583.out⟩
                have n11_ : Aside0 (Below w.heap.size w ((w80.setCell ⟨gb583, 0, none⟩ (.int .i64 t580)).setCell ⟨gb583, 1, none⟩ (.int .i64 t581))) := ⟨by repeat (first | (with_reducible first | exact HB.out | apply below_alloc | apply pw_below_drewN | apply below_drew1 | refine below_set ?_ GE532.out | refine below_set ?_ GE548.out | refine below_set ?_ GE557.out | refine below_set ?_ GE566.out | refine below_set ?_ GE583.out) | exact HB.out)⟩
                (try clear HO_9)
                (try clear HO551)
                (try clear HO560)
                (try clear HO569)
                (try clear HO574)
                (try clear HO579)
                (try clear BK532)
                (try clear BK548)
                (try clear BK557)
                (try clear BK566)
                (try clear BK583)
                (try clear HB)
                generalize ((w80.setCell ⟨gb583, 0, none⟩ (.int .i64 t580)).setCell ⟨gb583, 1, none⟩ (.int .i64 t581)) = w83 at n0_ n1_ n2_ n3_ n4_ n5_ n6_ n7_ n8_ n9_ n10_ n11_ ⊢
                have HO_9 := n0_
                have HO551 := n1_
                have HO560 := n2_
                have HO569 := n3_
                have HO574 := n4_
                have HO579 := n5_
                have BK532 := n6_
                have BK548 := n7_
                have BK557 := n8_
                have BK566 := n9_
                have BK583 := n10_
                have HB := n11_
                clear n0_ n1_ n2_ n3_ n4_ n5_ n6_ n7_ n8_ n9_ n10_ n11_
                have n0_ := Aside0.mk (Kd.R_drew HO_9.out)
                have n1_ := Aside0.mk (Kd.R_drew HO551.out)
                have n2_ := Aside0.mk (Kd.R_drew HO560.out)
                have n3_ := Aside0.mk (Kd.R_drew HO569.out)
                have n4_ := Aside0.mk (Kd.R_drew HO574.out)
                have n5_ := Aside0.mk (Kd.R_drew HO579.out)
                have n6_ := Aside0.mk (blk_drew BK532.out)
                have n7_ := Aside0.mk (blk_drew BK548.out)
                have n8_ := Aside0.mk (blk_drew BK557.out)
                have n9_ := Aside0.mk (blk_drew BK566.out)
                have n10_ := Aside0.mk (blk_drew BK583.out)
                have n11_ := Aside0.mk (below_drew1 HB.out)
                clear HO_9
                clear HO551
                clear HO560
                clear HO569
                clear HO574
                clear HO579
                clear BK532
                clear BK548
                clear BK557
                clear BK566
                clear BK583
                clear HB
                have HO_9 := n0_
                have HO551 := n1_
                have HO560 := n2_
                have HO569 := n3_
                have HO574 := n4_
                have HO579 := n5_
                have BK532 := n6_
                have BK548 := n7_
                have BK557 := n8_
                have BK566 := n9_
                have BK583 := n10_
                have HB := n11_
                clear n0_ n1_ n2_ n3_ n4_ n5_ n6_ n7_ n8_ n9_ n10_ n11_
                refine start_ (n := 10) (S := fun w' => w'.cell? ⟨gb548, 0, none⟩ = some (.int .i64 a1_1) ∧ w'.cell? ⟨gb548, 1, none⟩ = some (.int .i64 a1_0)) (ds := []) #[false, false, false, false, false, false, false, false, false, false] (by kernel_rfl) rfl rfl ⟨(blk_cell BK548.out 0).trans rfl, (blk_cell BK548.out 1).trans rfl⟩ (fun hHeld => ?_); refine with_tabW comfitlaw06_TagsExchanged.tab17 comfitlaw06_TagsExchanged.bits17 (fun HT_ HW_ => ?_)
                generalize w83.drew = w84 at HO_9 HO551 HO560 HO569 HO574 HO579 BK532 BK548 BK557 BK566 BK583 HB hHeld ⊢
                refine pure_ (i := 0) (N := some 117) (v := ?_) (a' := ?_) #[true, false, false, false, false, false, false, false, false, false] rfl rfl (any_of HT_.out (by kernel_rfl)) (fun _ _ _ h => h) (Or.inl ⟨by rfl, ?_⟩) ?_ ?_
                rotate_left
                ·intro w'
                 go_simp
                 with_reducible rfl
                rotate_left
                ·simp only [Act.put, List.setIfInBounds_toArray, List.set_cons_zero, List.set_cons_succ, i64_w, i32_w]
                 rfl
                refine take_ (i := 2) (N := some 119) (v := ?_) (a' := ?_) #[true, false, true, false, false, false, false, false, false, false] rfl rfl (take_ofW HT_.out HW_.out (by kernel_rfl)) (fun _ _ _ h => h) (Or.inl ⟨by rfl, ?_⟩) hHeld ?_ ?_
                rotate_left
                ·rintro w' ⟨s0, s1⟩
                 go_simp
                 with_reducible rfl
                rotate_left
                ·simp only [Act.put, List.setIfInBounds_toArray, List.set_cons_zero, List.set_cons_succ, i64_w, i32_w]
                 rfl
                refine join_ (σ := Value × Nat) 2 #[true, true, true, true, true, true, true, true, false, false] (fun s_ => [(118, s_.1), (120, .tuple #[.agg #[.int .i64 t587, .int .i64 t588], .int .i64 t589]), (26, .pointer (some ⟨s_.2, 0, none⟩)), (116, .tuple #[.agg #[.int .i64 t587, .int .i64 t588], .int .i64 t589]), (121, .agg #[.int .i64 t587, .int .i64 t588]), (122, .int .i64 t589)]) (fun s_ w' => (w'.cell? ⟨gb548, 0, none⟩ = some (.int .i64 a1_1) ∧ w'.cell? ⟨gb548, 1, none⟩ = some (.int .i64 a1_0)) ∧ (Kd.R k57 57 w' w.heap.size (fun k_ => some k_ ≠ (v559 : Value).ownBlock ∧ some k_ ≠ (.slice Ao69 t567.length co69 : Value).ownBlock ∧ some k_ ≠ (.slice Ao73 t572.length co73 : Value).ownBlock ∧ some k_ ≠ (v578 : Value).ownBlock ∧ some k_ ≠ (s_.1 : Value).ownBlock ∧ some k_ ≠ (.slice Ao10 x9_1.length co10 : Value).ownBlock) v550 t549) ∧ (Kd.R k57 57 w' w.heap.size (fun k_ => some k_ ≠ (v550 : Value).ownBlock ∧ some k_ ≠ (.slice Ao69 t567.length co69 : Value).ownBlock ∧ some k_ ≠ (.slice Ao73 t572.length co73 : Value).ownBlock ∧ some k_ ≠ (v578 : Value).ownBlock ∧ some k_ ≠ (s_.1 : Value).ownBlock ∧ some k_ ≠ (.slice Ao10 x9_1.length co10 : Value).ownBlock) v559 t558) ∧ (Kd.R k57 57 w' w.heap.size (fun k_ => some k_ ≠ (v550 : Value).ownBlock ∧ some k_ ≠ (v559 : Value).ownBlock ∧ some k_ ≠ (.slice Ao73 t572.length co73 : Value).ownBlock ∧ some k_ ≠ (v578 : Value).ownBlock ∧ some k_ ≠ (s_.1 : Value).ownBlock ∧ some k_ ≠ (.slice Ao10 x9_1.length co10 : Value).ownBlock) (.slice Ao69 t567.length co69) t567) ∧ (Kd.R k57 57 w' w.heap.size (fun k_ => some k_ ≠ (v550 : Value).ownBlock ∧ some k_ ≠ (v559 : Value).ownBlock ∧ some k_ ≠ (.slice Ao69 t567.length co69 : Value).ownBlock ∧ some k_ ≠ (v578 : Value).ownBlock ∧ some k_ ≠ (s_.1 : Value).ownBlock ∧ some k_ ≠ (.slice Ao10 x9_1.length co10 : Value).ownBlock) (.slice Ao73 t572.length co73) t572) ∧ (Kd.R k57 57 w' w.heap.size (fun k_ => some k_ ≠ (v550 : Value).ownBlock ∧ some k_ ≠ (v559 : Value).ownBlock ∧ some k_ ≠ (.slice Ao69 t567.length co69 : Value).ownBlock ∧ some k_ ≠ (.slice Ao73 t572.length co73 : Value).ownBlock ∧ some k_ ≠ (s_.1 : Value).ownBlock ∧ some k_ ≠ (.slice Ao10 x9_1.length co10 : Value).ownBlock) v578 t577) ∧ (Kd.R k57 57 w' w.heap.size (fun k_ => some k_ ≠ (v550 : Value).ownBlock ∧ some k_ ≠ (v559 : Value).ownBlock ∧ some k_ ≠ (.slice Ao69 t567.length co69 : Value).ownBlock ∧ some k_ ≠ (.slice Ao73 t572.length co73 : Value).ownBlock ∧ some k_ ≠ (v578 : Value).ownBlock ∧ some k_ ≠ (.slice Ao10 x9_1.length co10 : Value).ownBlock) s_.1 t584) ∧ (Kd.R k57 57 w' w.heap.size (fun k_ => some k_ ≠ (v550 : Value).ownBlock ∧ some k_ ≠ (v559 : Value).ownBlock ∧ some k_ ≠ (.slice Ao69 t567.length co69 : Value).ownBlock ∧ some k_ ≠ (.slice Ao73 t572.length co73 : Value).ownBlock ∧ some k_ ≠ (v578 : Value).ownBlock ∧ some k_ ≠ (s_.1 : Value).ownBlock) (.slice Ao10 x9_1.length co10) x9_1) ∧ (w'.heap[gb532]? = some (.cells #[.int .i64 a1_0, .int .i64 a1_1] 23 (0, 0))) ∧ (w'.heap[gb548]? = some (.cells #[.int .i64 a1_1, .int .i64 a1_0] 23 (0, 0))) ∧ (w'.heap[gb557]? = some (.cells #[.int .i64 t553, .int .i64 t554] 23 (0, 0))) ∧ (w'.heap[gb566]? = some (.cells #[.int .i64 t562, .int .i64 t563] 23 (0, 0))) ∧ (w'.heap[gb583]? = some (.cells #[.int .i64 t580, .int .i64 t581] 23 (0, 0))) ∧ (w'.heap[s_.2]? = some (.cells #[.int .i64 0, .int .i64 0] 23 (0, 0))) ∧ (w.heap.size ≤ s_.2) ∧ (w.heap.size ≤ s_.2) ∧ (gb532 ≠ s_.2) ∧ (s_.2 ≠ gb532) ∧ (gb548 ≠ s_.2) ∧ (s_.2 ≠ gb548) ∧ (gb557 ≠ s_.2) ∧ (s_.2 ≠ gb557) ∧ (gb566 ≠ s_.2) ∧ (s_.2 ≠ gb566) ∧ (gb583 ≠ s_.2) ∧ (s_.2 ≠ gb583) ∧ (Below w.heap.size w w')) ?_ ?_
                rotate_left
                ·intro hCont
                 refine two_ (i := 1) (j := 7) (Ni := some 118) (Nj := some 26) #[true, true, true, false, false, false, false, false, false, false] #[true, false, true, false, false, false, false, true, false, false] rfl rfl rfl rfl (two_of HT_.out (by kernel_rfl)) (by decide) (by decide) (fun K hK => ?_) (fun K hK => ?_)
                 ·skip
                  refine goes_ Try.func28 (by kernel_rfl) rfl #[.slice Ao10 x9_1.length co10] (by rfl) rfl rfl al_ ?_
                  with_reducible refine (tags_Order_28.calls _ _ x9_1 t584 _ ?side1 ?side2 A28.out).mono ?_
                  (case side1 => exact kc_ (Kd.R_reads' HO_9.out).2.2)
                  (case side2 => exact (Kd.R_reads' HO_9.out).2.1)
                  rintro e w85 ⟨v585, rfl, ho0, hb⟩
                  refine ⟨_, rfl, ?_⟩
                  have n0_ := Aside0.mk (Kd.R_elder' (kr_ (HO_9.out)) (Kd.R_base ho0) hb)
                  have n1_ := Aside0.mk (Kd.R_elder' (kr_ (HO551.out)) (Kd.R_base ho0) hb)
                  have n2_ := Aside0.mk (Kd.R_elder' (kr_ (HO560.out)) (Kd.R_base ho0) hb)
                  have n3_ := Aside0.mk (Kd.R_elder' (kr_ (HO569.out)) (Kd.R_base ho0) hb)
                  have n4_ := Aside0.mk (Kd.R_elder' (kr_ (HO574.out)) (Kd.R_base ho0) hb)
                  have n5_ := Aside0.mk (Kd.R_elder' (kr_ (HO579.out)) (Kd.R_base ho0) hb)
                  have n6_ := Aside0.mk (Kd.R_lower (Kd.R_new' (Kd.R_new' (Kd.R_new' (Kd.R_new' (Kd.R_new' (Kd.R_new' ho0 (Kd.R_lt (kr_ (HO_9.out)))) (Kd.R_lt (kr_ (HO551.out)))) (Kd.R_lt (kr_ (HO560.out)))) (Kd.R_lt (kr_ (HO569.out)))) (Kd.R_lt (kr_ (HO574.out)))) (Kd.R_lt (kr_ (HO579.out)))) (below_size (hb_ HB.out)))
                  have n7_ := Aside0.mk (bkb_ BK532.out hb)
                  have n8_ := Aside0.mk (bkb_ BK548.out hb)
                  have n9_ := Aside0.mk (bkb_ BK557.out hb)
                  have n10_ := Aside0.mk (bkb_ BK566.out hb)
                  have n11_ := Aside0.mk (bkb_ BK583.out hb)
                  have n12_ := Aside0.mk (below_step (hb_ HB.out) hb)
                  clear HO_9
                  clear HO551
                  clear HO560
                  clear HO569
                  clear HO574
                  clear HO579
                  clear BK532
                  clear BK548
                  clear BK557
                  clear BK566
                  clear BK583
                  clear HB
                  have HO_9 := n0_
                  have HO551 := n1_
                  have HO560 := n2_
                  have HO569 := n3_
                  have HO574 := n4_
                  have HO579 := n5_
                  have HO586 := n6_
                  have BK532 := n7_
                  have BK548 := n8_
                  have BK557 := n9_
                  have BK566 := n10_
                  have BK583 := n11_
                  have HB := n12_
                  clear n0_ n1_ n2_ n3_ n4_ n5_ n6_ n7_ n8_ n9_ n10_ n11_ n12_
                  (try clear hb)
                  (try clear hb2)
                  (try clear hk)
                  (try clear hi)
                  (try clear ho0)
                  obtain ⟨Ao86, co86, eo86⟩ := Kd.R_slice HO586.out
                  (first | subst eo86 | (injection eo86 with f1_ f2_ f3_; have f4_ := f1_.symm; have f5_ := f3_.symm; clear f1_ f2_ f3_; subst f4_; subst f5_))
                  refine hK.out _ _ ⟨(blk_cell BK548.out 0).trans rfl, (blk_cell BK548.out 1).trans rfl⟩ (fun hHeld => ?_)
                  clear hK K
                  refine norm_ (a' := ?_) ?_ ?_
                  rotate_left
                  ·show Act.put _ (some 118) _ = _
                   simp only [Act.put, List.setIfInBounds_toArray, List.set_cons_zero, List.set_cons_succ, i64_w, i32_w]
                   rfl
                  refine two_ (i := 3) (j := 7) (Ni := some 120) (Nj := some 26) #[true, true, true, true, false, false, false, false, false, false] #[true, true, true, false, false, false, false, true, false, false] rfl rfl rfl rfl (two_of HT_.out (by kernel_rfl)) (by decide) (by decide) (fun K hK => ?_) (fun K hK => ?_)
                  ·skip
                   refine goes_ Try.func17 (by kernel_rfl) rfl #[.slice Ao86 t584.length co86, .agg #[.int .i64 a1_1, .int .i64 a1_0]] (by rfl) rfl rfl al_ ?_
                   with_reducible refine (tags_Circle.calls k1 _ _ t584 a1_1 a1_0 t587 t588 t589 _ ?side1 ?side2 A29.out).mono ?_
                   (case side1 => exact kc_ (Kd.R_reads' HO586.out).2.2)
                   (case side2 => exact (Kd.R_reads' HO586.out).2.1)
                   rintro e w87 ⟨rfl, hb⟩
                   refine ⟨_, rfl, ?_⟩
                   have n0_ := Aside0.mk (Kd.R_below (kr_ (HO_9.out)) hb)
                   have n1_ := Aside0.mk (Kd.R_below (kr_ (HO551.out)) hb)
                   have n2_ := Aside0.mk (Kd.R_below (kr_ (HO560.out)) hb)
                   have n3_ := Aside0.mk (Kd.R_below (kr_ (HO569.out)) hb)
                   have n4_ := Aside0.mk (Kd.R_below (kr_ (HO574.out)) hb)
                   have n5_ := Aside0.mk (Kd.R_below (kr_ (HO579.out)) hb)
                   have n6_ := Aside0.mk (Kd.R_below (kr_ (HO586.out)) hb)
                   have n7_ := Aside0.mk (bkb_ BK532.out hb)
                   have n8_ := Aside0.mk (bkb_ BK548.out hb)
                   have n9_ := Aside0.mk (bkb_ BK557.out hb)
                   have n10_ := Aside0.mk (bkb_ BK566.out hb)
                   have n11_ := Aside0.mk (bkb_ BK583.out hb)
                   have n12_ := Aside0.mk (below_step (hb_ HB.out) hb)
                   clear HO_9
                   clear HO551
                   clear HO560
                   clear HO569
                   clear HO574
                   clear HO579
                   clear HO586
                   clear BK532
                   clear BK548
                   clear BK557
                   clear BK566
                   clear BK583
                   clear HB
                   have HO_9 := n0_
                   have HO551 := n1_
                   have HO560 := n2_
                   have HO569 := n3_
                   have HO574 := n4_
                   have HO579 := n5_
                   have HO586 := n6_
                   have BK532 := n7_
                   have BK548 := n8_
                   have BK557 := n9_
                   have BK566 := n10_
                   have BK583 := n11_
                   have HB := n12_
                   clear n0_ n1_ n2_ n3_ n4_ n5_ n6_ n7_ n8_ n9_ n10_ n11_ n12_
                   (try clear hb)
                   (try clear hb2)
                   (try clear hk)
                   (try clear hi)
                   refine hK.out _ _ ⟨(blk_cell BK548.out 0).trans rfl, (blk_cell BK548.out 1).trans rfl⟩ (fun hHeld => ?_)
                   clear hK K
                   refine norm_ (a' := ?_) ?_ ?_
                   rotate_left
                   ·show Act.put _ (some 120) _ = _
                    simp only [Act.put, List.setIfInBounds_toArray, List.set_cons_zero, List.set_cons_succ, i64_w, i32_w]
                    rfl
                   refine pure_ (i := 4) (N := some 116) (v := ?_) (a' := ?_) #[true, true, true, true, true, false, false, false, false, false] rfl rfl (any_of HT_.out (by kernel_rfl)) (fun _ _ _ h => h) (Or.inl ⟨by rfl, ?_⟩) ?_ ?_
                   rotate_left
                   ·intro w'
                    go_simp
                    with_reducible rfl
                   rotate_left
                   ·simp only [Act.put, List.setIfInBounds_toArray, List.set_cons_zero, List.set_cons_succ, i64_w, i32_w]
                    rfl
                   refine pure_ (i := 5) (N := some 121) (v := ?_) (a' := ?_) #[true, true, true, true, true, true, false, false, false, false] rfl rfl (any_of HT_.out (by kernel_rfl)) (fun _ _ _ h => h) (Or.inl ⟨by rfl, ?_⟩) ?_ ?_
                   rotate_left
                   ·intro w'
                    go_simp
                    with_reducible rfl
                   rotate_left
                   ·simp only [Act.put, List.setIfInBounds_toArray, List.set_cons_zero, List.set_cons_succ, i64_w, i32_w]
                    rfl
                   refine pure_ (i := 6) (N := some 122) (v := ?_) (a' := ?_) #[true, true, true, true, true, true, true, false, false, false] rfl rfl (any_of HT_.out (by kernel_rfl)) (fun _ _ _ h => h) (Or.inl ⟨by rfl, ?_⟩) ?_ ?_
                   rotate_left
                   ·intro w'
                    go_simp
                    with_reducible rfl
                   rotate_left
                   ·simp only [Act.put, List.setIfInBounds_toArray, List.set_cons_zero, List.set_cons_succ, i64_w, i32_w]
                    rfl
                   refine one_ (i := 7) (N := some 26) #[true, true, true, true, true, true, true, true, false, false] rfl rfl (one_of HT_.out (by kernel_rfl)) (by decide) (fun K hK => ?_)
                   refine box_step ?hg (N := 26) ?hd (cs := #[.int .i64 0, .int .i64 0]) (t := 23) ?hr ?_; (case hd => rfl); (case hg => rfl); (case hr => first | (go_simp; done) | (go_simp; rfl))
                   intro gb590 hg w88 hbox hb
                   have n0_ := Aside0.mk (Kd.R_below (kr_ (HO_9.out)) hb)
                   have n1_ := Aside0.mk (Kd.R_below (kr_ (HO551.out)) hb)
                   have n2_ := Aside0.mk (Kd.R_below (kr_ (HO560.out)) hb)
                   have n3_ := Aside0.mk (Kd.R_below (kr_ (HO569.out)) hb)
                   have n4_ := Aside0.mk (Kd.R_below (kr_ (HO574.out)) hb)
                   have n5_ := Aside0.mk (Kd.R_below (kr_ (HO579.out)) hb)
                   have n6_ := Aside0.mk (Kd.R_below (kr_ (HO586.out)) hb)
                   have n7_ := Aside0.mk (bkb_ BK532.out hb)
                   have n8_ := Aside0.mk (bkb_ BK548.out hb)
                   have n9_ := Aside0.mk (bkb_ BK557.out hb)
                   have n10_ := Aside0.mk (bkb_ BK566.out hb)
                   have n11_ := Aside0.mk (bkb_ BK583.out hb)
                   have n12_ := Aside0.mk (below_step (hb_ HB.out) hb)
                   have n13_ := Aside0.mk (hbox)
                   have n14_ := Aside0.mk ((by rw [hg]; exact (below_size (hb_ HB.out)) : w.heap.size ≤ gb590))
                   have n15_ := Aside0.mk ((by rw [hg]; exact (below_size (hb_ HB.out)) : w.heap.size ≤ gb590))
                   have n16_ := Aside0.mk ((by rw [hg]; exact Nat.ne_of_lt (bkl_ BK532.out) : gb532 ≠ gb590))
                   have n17_ := Aside0.mk ((by rw [hg]; exact Nat.ne_of_gt (bkl_ BK532.out) : gb590 ≠ gb532))
                   have n18_ := Aside0.mk ((by rw [hg]; exact Nat.ne_of_lt (bkl_ BK548.out) : gb548 ≠ gb590))
                   have n19_ := Aside0.mk ((by rw [hg]; exact Nat.ne_of_gt (bkl_ BK548.out) : gb590 ≠ gb548))
                   have n20_ := Aside0.mk ((by rw [hg]; exact Nat.ne_of_lt (bkl_ BK557.out) : gb557 ≠ gb590))
                   have n21_ := Aside0.mk ((by rw [hg]; exact Nat.ne_of_gt (bkl_ BK557.out) : gb590 ≠ gb557))
                   have n22_ := Aside0.mk ((by rw [hg]; exact Nat.ne_of_lt (bkl_ BK566.out) : gb566 ≠ gb590))
                   have n23_ := Aside0.mk ((by rw [hg]; exact Nat.ne_of_gt (bkl_ BK566.out) : gb590 ≠ gb566))
                   have n24_ := Aside0.mk ((by rw [hg]; exact Nat.ne_of_lt (bkl_ BK583.out) : gb583 ≠ gb590))
                   have n25_ := Aside0.mk ((by rw [hg]; exact Nat.ne_of_gt (bkl_ BK583.out) : gb590 ≠ gb583))
                   clear HO_9
                   clear HO551
                   clear HO560
                   clear HO569
                   clear HO574
                   clear HO579
                   clear HO586
                   clear BK532
                   clear BK548
                   clear BK557
                   clear BK566
                   clear BK583
                   clear HB
                   have HO_9 := n0_
                   have HO551 := n1_
                   have HO560 := n2_
                   have HO569 := n3_
                   have HO574 := n4_
                   have HO579 := n5_
                   have HO586 := n6_
                   have BK532 := n7_
                   have BK548 := n8_
                   have BK557 := n9_
                   have BK566 := n10_
                   have BK583 := n11_
                   have HB := n12_
                   have BK590 := n13_
                   have GW590 := n14_
                   have GE590 := n15_
                   have NB532_590 := n16_
                   have NB590_532 := n17_
                   have NB548_590 := n18_
                   have NB590_548 := n19_
                   have NB557_590 := n20_
                   have NB590_557 := n21_
                   have NB566_590 := n22_
                   have NB590_566 := n23_
                   have NB583_590 := n24_
                   have NB590_583 := n25_
                   clear n0_ n1_ n2_ n3_ n4_ n5_ n6_ n7_ n8_ n9_ n10_ n11_ n12_ n13_ n14_ n15_ n16_ n17_ n18_ n19_ n20_ n21_ n22_ n23_ n24_ n25_
                   clear hb hbox hg
                   refine hK.out _ _ ⟨(blk_cell BK548.out 0).trans rfl, (blk_cell BK548.out 1).trans rfl⟩ (fun hHeld => ?_)
                   clear hK K
                   refine norm_ (a' := ?_) ?_ ?_
                   rotate_left
                   ·show Act.put _ (some 26) _ = _
                    simp only [Act.put, List.setIfInBounds_toArray, List.set_cons_zero, List.set_cons_succ, i64_w, i32_w]
                    rfl
                   exact norm_ (by simp only [putAll, Act.put, List.setIfInBounds_toArray, List.set_cons_zero, List.set_cons_succ]) (hCont (.slice Ao86 t584.length co86, gb590) _ ⟨hHeld, (by (with_reducible repeat (first | apply Kd.R_alloc | apply Kd.R_drewN | apply Kd.R_drew)); exact Kd.R_mono HO551.out (fun _ hk => ⟨hk.1.2.1, ⟨hk.1.2.2.1, ⟨hk.1.2.2.2.1, ⟨hk.1.2.2.2.2, ⟨hk.2, hk.1.1⟩⟩⟩⟩⟩)), (by (with_reducible repeat (first | apply Kd.R_alloc | apply Kd.R_drewN | apply Kd.R_drew)); exact Kd.R_mono HO560.out (fun _ hk => ⟨hk.1.2.1, ⟨hk.1.2.2.1, ⟨hk.1.2.2.2.1, ⟨hk.1.2.2.2.2, ⟨hk.2, hk.1.1⟩⟩⟩⟩⟩)), (by (with_reducible repeat (first | apply Kd.R_alloc | apply Kd.R_drewN | apply Kd.R_drew)); exact Kd.R_mono HO569.out (fun _ hk => ⟨hk.1.2.1, ⟨hk.1.2.2.1, ⟨hk.1.2.2.2.1, ⟨hk.1.2.2.2.2, ⟨hk.2, hk.1.1⟩⟩⟩⟩⟩)), (by (with_reducible repeat (first | apply Kd.R_alloc | apply Kd.R_drewN | apply Kd.R_drew)); exact Kd.R_mono HO574.out (fun _ hk => ⟨hk.1.2.1, ⟨hk.1.2.2.1, ⟨hk.1.2.2.2.1, ⟨hk.1.2.2.2.2, ⟨hk.2, hk.1.1⟩⟩⟩⟩⟩)), (by (with_reducible repeat (first | apply Kd.R_alloc | apply Kd.R_drewN | apply Kd.R_drew)); exact Kd.R_mono HO579.out (fun _ hk => ⟨hk.1.2.1, ⟨hk.1.2.2.1, ⟨hk.1.2.2.2.1, ⟨hk.1.2.2.2.2, ⟨hk.2, hk.1.1⟩⟩⟩⟩⟩)), (by (with_reducible repeat (first | apply Kd.R_alloc | apply Kd.R_drewN | apply Kd.R_drew)); exact Kd.R_mono HO586.out (fun _ hk => ⟨hk.1.1.1.1.2, ⟨hk.1.1.1.2, ⟨hk.1.1.2, ⟨hk.1.2, ⟨hk.2, hk.1.1.1.1.1.2⟩⟩⟩⟩⟩)), (by (with_reducible repeat (first | apply Kd.R_alloc | apply Kd.R_drewN | apply Kd.R_drew)); exact Kd.R_mono HO_9.out (fun _ hk => ⟨hk.1.1, ⟨hk.1.2.1, ⟨hk.1.2.2.1, ⟨hk.1.2.2.2.1, ⟨hk.1.2.2.2.2, hk.2⟩⟩⟩⟩⟩)), (bk_ BK532.out), (bk_ BK548.out), (bk_ BK557.out), (bk_ BK566.out), (bk_ BK583.out), (bk_ BK590.out), GW590.out, GE590.out, NB532_590.out, NB590_532.out, NB548_590.out, NB590_548.out, NB557_590.out, NB590_557.out, NB566_590.out, NB590_566.out, NB583_590.out, NB590_583.out, (hb_ HB.out)⟩)
                  ·skip
                   refine box_step ?hg (N := 26) ?hd (cs := #[.int .i64 0, .int .i64 0]) (t := 23) ?hr ?_; (case hd => rfl); (case hg => rfl); (case hr => first | (go_simp; done) | (go_simp; rfl))
                   intro gb590 hg w86 hbox hb
                   have n0_ := Aside0.mk (Kd.R_below (kr_ (HO_9.out)) hb)
                   have n1_ := Aside0.mk (Kd.R_below (kr_ (HO551.out)) hb)
                   have n2_ := Aside0.mk (Kd.R_below (kr_ (HO560.out)) hb)
                   have n3_ := Aside0.mk (Kd.R_below (kr_ (HO569.out)) hb)
                   have n4_ := Aside0.mk (Kd.R_below (kr_ (HO574.out)) hb)
                   have n5_ := Aside0.mk (Kd.R_below (kr_ (HO579.out)) hb)
                   have n6_ := Aside0.mk (Kd.R_below (kr_ (HO586.out)) hb)
                   have n7_ := Aside0.mk (bkb_ BK532.out hb)
                   have n8_ := Aside0.mk (bkb_ BK548.out hb)
                   have n9_ := Aside0.mk (bkb_ BK557.out hb)
                   have n10_ := Aside0.mk (bkb_ BK566.out hb)
                   have n11_ := Aside0.mk (bkb_ BK583.out hb)
                   have n12_ := Aside0.mk (below_step (hb_ HB.out) hb)
                   have n13_ := Aside0.mk (hbox)
                   have n14_ := Aside0.mk ((by rw [hg]; exact (below_size (hb_ HB.out)) : w.heap.size ≤ gb590))
                   have n15_ := Aside0.mk ((by rw [hg]; exact (below_size (hb_ HB.out)) : w.heap.size ≤ gb590))
                   have n16_ := Aside0.mk ((by rw [hg]; exact Nat.ne_of_lt (bkl_ BK532.out) : gb532 ≠ gb590))
                   have n17_ := Aside0.mk ((by rw [hg]; exact Nat.ne_of_gt (bkl_ BK532.out) : gb590 ≠ gb532))
                   have n18_ := Aside0.mk ((by rw [hg]; exact Nat.ne_of_lt (bkl_ BK548.out) : gb548 ≠ gb590))
                   have n19_ := Aside0.mk ((by rw [hg]; exact Nat.ne_of_gt (bkl_ BK548.out) : gb590 ≠ gb548))
                   have n20_ := Aside0.mk ((by rw [hg]; exact Nat.ne_of_lt (bkl_ BK557.out) : gb557 ≠ gb590))
                   have n21_ := Aside0.mk ((by rw [hg]; exact Nat.ne_of_gt (bkl_ BK557.out) : gb590 ≠ gb557))
                   have n22_ := Aside0.mk ((by rw [hg]; exact Nat.ne_of_lt (bkl_ BK566.out) : gb566 ≠ gb590))
                   have n23_ := Aside0.mk ((by rw [hg]; exact Nat.ne_of_gt (bkl_ BK566.out) : gb590 ≠ gb566))
                   have n24_ := Aside0.mk ((by rw [hg]; exact Nat.ne_of_lt (bkl_ BK583.out) : gb583 ≠ gb590))
                   have n25_ := Aside0.mk ((by rw [hg]; exact Nat.ne_of_gt (bkl_ BK583.out) : gb590 ≠ gb583))
                   clear HO_9
                   clear HO551
                   clear HO560
                   clear HO569
                   clear HO574
                   clear HO579
                   clear HO586
                   clear BK532
                   clear BK548
                   clear BK557
                   clear BK566
                   clear BK583
                   clear HB
                   have HO_9 := n0_
                   have HO551 := n1_
                   have HO560 := n2_
                   have HO569 := n3_
                   have HO574 := n4_
                   have HO579 := n5_
                   have HO586 := n6_
                   have BK532 := n7_
                   have BK548 := n8_
                   have BK557 := n9_
                   have BK566 := n10_
                   have BK583 := n11_
                   have HB := n12_
                   have BK590 := n13_
                   have GW590 := n14_
                   have GE590 := n15_
                   have NB532_590 := n16_
                   have NB590_532 := n17_
                   have NB548_590 := n18_
                   have NB590_548 := n19_
                   have NB557_590 := n20_
                   have NB590_557 := n21_
                   have NB566_590 := n22_
                   have NB590_566 := n23_
                   have NB583_590 := n24_
                   have NB590_583 := n25_
                   clear n0_ n1_ n2_ n3_ n4_ n5_ n6_ n7_ n8_ n9_ n10_ n11_ n12_ n13_ n14_ n15_ n16_ n17_ n18_ n19_ n20_ n21_ n22_ n23_ n24_ n25_
                   clear hb hbox hg
                   obtain ⟨Ao87, co87, eo87⟩ := Kd.R_slice HO586.out
                   (first | subst eo87 | (injection eo87 with f1_ f2_ f3_; have f4_ := f1_.symm; have f5_ := f3_.symm; clear f1_ f2_ f3_; subst f4_; subst f5_))
                   refine hK.out _ _ ⟨(blk_cell BK548.out 0).trans rfl, (blk_cell BK548.out 1).trans rfl⟩ (fun hHeld => ?_)
                   clear hK K
                   refine norm_ (a' := ?_) ?_ ?_
                   rotate_left
                   ·show Act.put _ (some 26) _ = _
                    simp only [Act.put, List.setIfInBounds_toArray, List.set_cons_zero, List.set_cons_succ, i64_w, i32_w]
                    rfl
                   refine one_ (i := 3) (N := some 120) #[true, true, true, true, false, false, false, true, false, false] rfl rfl (one_of HT_.out (by kernel_rfl)) (by decide) (fun K hK => ?_)
                   refine goes_ Try.func17 (by kernel_rfl) rfl #[.slice Ao87 t584.length co87, .agg #[.int .i64 a1_1, .int .i64 a1_0]] (by rfl) rfl rfl al_ ?_
                   with_reducible refine (tags_Circle.calls k1 _ _ t584 a1_1 a1_0 t587 t588 t589 _ ?side1 ?side2 A29.out).mono ?_
                   (case side1 => exact kc_ (Kd.R_reads' HO586.out).2.2)
                   (case side2 => exact (Kd.R_reads' HO586.out).2.1)
                   rintro e w88 ⟨rfl, hb⟩
                   refine ⟨_, rfl, ?_⟩
                   have n0_ := Aside0.mk (Kd.R_below (kr_ (HO_9.out)) hb)
                   have n1_ := Aside0.mk (Kd.R_below (kr_ (HO551.out)) hb)
                   have n2_ := Aside0.mk (Kd.R_below (kr_ (HO560.out)) hb)
                   have n3_ := Aside0.mk (Kd.R_below (kr_ (HO569.out)) hb)
                   have n4_ := Aside0.mk (Kd.R_below (kr_ (HO574.out)) hb)
                   have n5_ := Aside0.mk (Kd.R_below (kr_ (HO579.out)) hb)
                   have n6_ := Aside0.mk (Kd.R_below (kr_ (HO586.out)) hb)
                   have n7_ := Aside0.mk (bkb_ BK532.out hb)
                   have n8_ := Aside0.mk (bkb_ BK548.out hb)
                   have n9_ := Aside0.mk (bkb_ BK557.out hb)
                   have n10_ := Aside0.mk (bkb_ BK566.out hb)
                   have n11_ := Aside0.mk (bkb_ BK583.out hb)
                   have n12_ := Aside0.mk (bkb_ BK590.out hb)
                   have n13_ := Aside0.mk (below_step (hb_ HB.out) hb)
                   clear HO_9
                   clear HO551
                   clear HO560
                   clear HO569
                   clear HO574
                   clear HO579
                   clear HO586
                   clear BK532
                   clear BK548
                   clear BK557
                   clear BK566
                   clear BK583
                   clear BK590
                   clear HB
                   have HO_9 := n0_
                   have HO551 := n1_
                   have HO560 := n2_
                   have HO569 := n3_
                   have HO574 := n4_
                   have HO579 := n5_
                   have HO586 := n6_
                   have BK532 := n7_
                   have BK548 := n8_
                   have BK557 := n9_
                   have BK566 := n10_
                   have BK583 := n11_
                   have BK590 := n12_
                   have HB := n13_
                   clear n0_ n1_ n2_ n3_ n4_ n5_ n6_ n7_ n8_ n9_ n10_ n11_ n12_ n13_
                   (try clear hb)
                   (try clear hb2)
                   (try clear hk)
                   (try clear hi)
                   refine hK.out _ _ ⟨(blk_cell BK548.out 0).trans rfl, (blk_cell BK548.out 1).trans rfl⟩ (fun hHeld => ?_)
                   clear hK K
                   refine norm_ (a' := ?_) ?_ ?_
                   rotate_left
                   ·show Act.put _ (some 120) _ = _
                    simp only [Act.put, List.setIfInBounds_toArray, List.set_cons_zero, List.set_cons_succ, i64_w, i32_w]
                    rfl
                   refine pure_ (i := 4) (N := some 116) (v := ?_) (a' := ?_) #[true, true, true, true, true, false, false, true, false, false] rfl rfl (any_of HT_.out (by kernel_rfl)) (fun _ _ _ h => h) (Or.inl ⟨by rfl, ?_⟩) ?_ ?_
                   rotate_left
                   ·intro w'
                    go_simp
                    with_reducible rfl
                   rotate_left
                   ·simp only [Act.put, List.setIfInBounds_toArray, List.set_cons_zero, List.set_cons_succ, i64_w, i32_w]
                    rfl
                   refine pure_ (i := 5) (N := some 121) (v := ?_) (a' := ?_) #[true, true, true, true, true, true, false, true, false, false] rfl rfl (any_of HT_.out (by kernel_rfl)) (fun _ _ _ h => h) (Or.inl ⟨by rfl, ?_⟩) ?_ ?_
                   rotate_left
                   ·intro w'
                    go_simp
                    with_reducible rfl
                   rotate_left
                   ·simp only [Act.put, List.setIfInBounds_toArray, List.set_cons_zero, List.set_cons_succ, i64_w, i32_w]
                    rfl
                   refine pure_ (i := 6) (N := some 122) (v := ?_) (a' := ?_) #[true, true, true, true, true, true, true, true, false, false] rfl rfl (any_of HT_.out (by kernel_rfl)) (fun _ _ _ h => h) (Or.inl ⟨by rfl, ?_⟩) ?_ ?_
                   rotate_left
                   ·intro w'
                    go_simp
                    with_reducible rfl
                   rotate_left
                   ·simp only [Act.put, List.setIfInBounds_toArray, List.set_cons_zero, List.set_cons_succ, i64_w, i32_w]
                    rfl
                   exact norm_ (by simp only [putAll, Act.put, List.setIfInBounds_toArray, List.set_cons_zero, List.set_cons_succ]) (hCont (.slice Ao87 t584.length co87, gb590) _ ⟨hHeld, (by (with_reducible repeat (first | apply Kd.R_alloc | apply Kd.R_drewN | apply Kd.R_drew)); exact Kd.R_mono HO551.out (fun _ hk => ⟨hk.1.2.1, ⟨hk.1.2.2.1, ⟨hk.1.2.2.2.1, ⟨hk.1.2.2.2.2, ⟨hk.2, hk.1.1⟩⟩⟩⟩⟩)), (by (with_reducible repeat (first | apply Kd.R_alloc | apply Kd.R_drewN | apply Kd.R_drew)); exact Kd.R_mono HO560.out (fun _ hk => ⟨hk.1.2.1, ⟨hk.1.2.2.1, ⟨hk.1.2.2.2.1, ⟨hk.1.2.2.2.2, ⟨hk.2, hk.1.1⟩⟩⟩⟩⟩)), (by (with_reducible repeat (first | apply Kd.R_alloc | apply Kd.R_drewN | apply Kd.R_drew)); exact Kd.R_mono HO569.out (fun _ hk => ⟨hk.1.2.1, ⟨hk.1.2.2.1, ⟨hk.1.2.2.2.1, ⟨hk.1.2.2.2.2, ⟨hk.2, hk.1.1⟩⟩⟩⟩⟩)), (by (with_reducible repeat (first | apply Kd.R_alloc | apply Kd.R_drewN | apply Kd.R_drew)); exact Kd.R_mono HO574.out (fun _ hk => ⟨hk.1.2.1, ⟨hk.1.2.2.1, ⟨hk.1.2.2.2.1, ⟨hk.1.2.2.2.2, ⟨hk.2, hk.1.1⟩⟩⟩⟩⟩)), (by (with_reducible repeat (first | apply Kd.R_alloc | apply Kd.R_drewN | apply Kd.R_drew)); exact Kd.R_mono HO579.out (fun _ hk => ⟨hk.1.2.1, ⟨hk.1.2.2.1, ⟨hk.1.2.2.2.1, ⟨hk.1.2.2.2.2, ⟨hk.2, hk.1.1⟩⟩⟩⟩⟩)), (by (with_reducible repeat (first | apply Kd.R_alloc | apply Kd.R_drewN | apply Kd.R_drew)); exact Kd.R_mono HO586.out (fun _ hk => ⟨hk.1.1.1.1.2, ⟨hk.1.1.1.2, ⟨hk.1.1.2, ⟨hk.1.2, ⟨hk.2, hk.1.1.1.1.1.2⟩⟩⟩⟩⟩)), (by (with_reducible repeat (first | apply Kd.R_alloc | apply Kd.R_drewN | apply Kd.R_drew)); exact Kd.R_mono HO_9.out (fun _ hk => ⟨hk.1.1, ⟨hk.1.2.1, ⟨hk.1.2.2.1, ⟨hk.1.2.2.2.1, ⟨hk.1.2.2.2.2, hk.2⟩⟩⟩⟩⟩)), (bk_ BK532.out), (bk_ BK548.out), (bk_ BK557.out), (bk_ BK566.out), (bk_ BK583.out), (bk_ BK590.out), GW590.out, GE590.out, NB532_590.out, NB590_532.out, NB548_590.out, NB590_548.out, NB557_590.out, NB590_557.out, NB566_590.out, NB590_566.out, NB583_590.out, NB590_583.out, (hb_ HB.out)⟩)
                 ·skip
                  refine box_step ?hg (N := 26) ?hd (cs := #[.int .i64 0, .int .i64 0]) (t := 23) ?hr ?_; (case hd => rfl); (case hg => rfl); (case hr => first | (go_simp; done) | (go_simp; rfl))
                  intro gb590 hg w85 hbox hb
                  have n0_ := Aside0.mk (Kd.R_below (kr_ (HO_9.out)) hb)
                  have n1_ := Aside0.mk (Kd.R_below (kr_ (HO551.out)) hb)
                  have n2_ := Aside0.mk (Kd.R_below (kr_ (HO560.out)) hb)
                  have n3_ := Aside0.mk (Kd.R_below (kr_ (HO569.out)) hb)
                  have n4_ := Aside0.mk (Kd.R_below (kr_ (HO574.out)) hb)
                  have n5_ := Aside0.mk (Kd.R_below (kr_ (HO579.out)) hb)
                  have n6_ := Aside0.mk (bkb_ BK532.out hb)
                  have n7_ := Aside0.mk (bkb_ BK548.out hb)
                  have n8_ := Aside0.mk (bkb_ BK557.out hb)
                  have n9_ := Aside0.mk (bkb_ BK566.out hb)
                  have n10_ := Aside0.mk (bkb_ BK583.out hb)
                  have n11_ := Aside0.mk (below_step (hb_ HB.out) hb)
                  have n12_ := Aside0.mk (hbox)
                  have n13_ := Aside0.mk ((by rw [hg]; exact (below_size (hb_ HB.out)) : w.heap.size ≤ gb590))
                  have n14_ := Aside0.mk ((by rw [hg]; exact (below_size (hb_ HB.out)) : w.heap.size ≤ gb590))
                  have n15_ := Aside0.mk ((by rw [hg]; exact Nat.ne_of_lt (bkl_ BK532.out) : gb532 ≠ gb590))
                  have n16_ := Aside0.mk ((by rw [hg]; exact Nat.ne_of_gt (bkl_ BK532.out) : gb590 ≠ gb532))
                  have n17_ := Aside0.mk ((by rw [hg]; exact Nat.ne_of_lt (bkl_ BK548.out) : gb548 ≠ gb590))
                  have n18_ := Aside0.mk ((by rw [hg]; exact Nat.ne_of_gt (bkl_ BK548.out) : gb590 ≠ gb548))
                  have n19_ := Aside0.mk ((by rw [hg]; exact Nat.ne_of_lt (bkl_ BK557.out) : gb557 ≠ gb590))
                  have n20_ := Aside0.mk ((by rw [hg]; exact Nat.ne_of_gt (bkl_ BK557.out) : gb590 ≠ gb557))
                  have n21_ := Aside0.mk ((by rw [hg]; exact Nat.ne_of_lt (bkl_ BK566.out) : gb566 ≠ gb590))
                  have n22_ := Aside0.mk ((by rw [hg]; exact Nat.ne_of_gt (bkl_ BK566.out) : gb590 ≠ gb566))
                  have n23_ := Aside0.mk ((by rw [hg]; exact Nat.ne_of_lt (bkl_ BK583.out) : gb583 ≠ gb590))
                  have n24_ := Aside0.mk ((by rw [hg]; exact Nat.ne_of_gt (bkl_ BK583.out) : gb590 ≠ gb583))
                  clear HO_9
                  clear HO551
                  clear HO560
                  clear HO569
                  clear HO574
                  clear HO579
                  clear BK532
                  clear BK548
                  clear BK557
                  clear BK566
                  clear BK583
                  clear HB
                  have HO_9 := n0_
                  have HO551 := n1_
                  have HO560 := n2_
                  have HO569 := n3_
                  have HO574 := n4_
                  have HO579 := n5_
                  have BK532 := n6_
                  have BK548 := n7_
                  have BK557 := n8_
                  have BK566 := n9_
                  have BK583 := n10_
                  have HB := n11_
                  have BK590 := n12_
                  have GW590 := n13_
                  have GE590 := n14_
                  have NB532_590 := n15_
                  have NB590_532 := n16_
                  have NB548_590 := n17_
                  have NB590_548 := n18_
                  have NB557_590 := n19_
                  have NB590_557 := n20_
                  have NB566_590 := n21_
                  have NB590_566 := n22_
                  have NB583_590 := n23_
                  have NB590_583 := n24_
                  clear n0_ n1_ n2_ n3_ n4_ n5_ n6_ n7_ n8_ n9_ n10_ n11_ n12_ n13_ n14_ n15_ n16_ n17_ n18_ n19_ n20_ n21_ n22_ n23_ n24_
                  clear hb hbox hg
                  refine hK.out _ _ ⟨(blk_cell BK548.out 0).trans rfl, (blk_cell BK548.out 1).trans rfl⟩ (fun hHeld => ?_)
                  clear hK K
                  refine norm_ (a' := ?_) ?_ ?_
                  rotate_left
                  ·show Act.put _ (some 26) _ = _
                   simp only [Act.put, List.setIfInBounds_toArray, List.set_cons_zero, List.set_cons_succ, i64_w, i32_w]
                   rfl
                  refine one_ (i := 1) (N := some 118) #[true, true, true, false, false, false, false, true, false, false] rfl rfl (one_of HT_.out (by kernel_rfl)) (by decide) (fun K hK => ?_)
                  refine goes_ Try.func28 (by kernel_rfl) rfl #[.slice Ao10 x9_1.length co10] (by rfl) rfl rfl al_ ?_
                  with_reducible refine (tags_Order_28.calls _ _ x9_1 t584 _ ?side1 ?side2 A28.out).mono ?_
                  (case side1 => exact kc_ (Kd.R_reads' HO_9.out).2.2)
                  (case side2 => exact (Kd.R_reads' HO_9.out).2.1)
                  rintro e w86 ⟨v585, rfl, ho0, hb⟩
                  refine ⟨_, rfl, ?_⟩
                  have n0_ := Aside0.mk (Kd.R_elder' (kr_ (HO_9.out)) (Kd.R_base ho0) hb)
                  have n1_ := Aside0.mk (Kd.R_elder' (kr_ (HO551.out)) (Kd.R_base ho0) hb)
                  have n2_ := Aside0.mk (Kd.R_elder' (kr_ (HO560.out)) (Kd.R_base ho0) hb)
                  have n3_ := Aside0.mk (Kd.R_elder' (kr_ (HO569.out)) (Kd.R_base ho0) hb)
                  have n4_ := Aside0.mk (Kd.R_elder' (kr_ (HO574.out)) (Kd.R_base ho0) hb)
                  have n5_ := Aside0.mk (Kd.R_elder' (kr_ (HO579.out)) (Kd.R_base ho0) hb)
                  have n6_ := Aside0.mk (Kd.R_lower (Kd.R_new' (Kd.R_new' (Kd.R_new' (Kd.R_new' (Kd.R_new' (Kd.R_new' ho0 (Kd.R_lt (kr_ (HO_9.out)))) (Kd.R_lt (kr_ (HO551.out)))) (Kd.R_lt (kr_ (HO560.out)))) (Kd.R_lt (kr_ (HO569.out)))) (Kd.R_lt (kr_ (HO574.out)))) (Kd.R_lt (kr_ (HO579.out)))) (below_size (hb_ HB.out)))
                  have n7_ := Aside0.mk (bkb_ BK532.out hb)
                  have n8_ := Aside0.mk (bkb_ BK548.out hb)
                  have n9_ := Aside0.mk (bkb_ BK557.out hb)
                  have n10_ := Aside0.mk (bkb_ BK566.out hb)
                  have n11_ := Aside0.mk (bkb_ BK583.out hb)
                  have n12_ := Aside0.mk (bkb_ BK590.out hb)
                  have n13_ := Aside0.mk (below_step (hb_ HB.out) hb)
                  clear HO_9
                  clear HO551
                  clear HO560
                  clear HO569
                  clear HO574
                  clear HO579
                  clear BK532
                  clear BK548
                  clear BK557
                  clear BK566
                  clear BK583
                  clear BK590
                  clear HB
                  have HO_9 := n0_
                  have HO551 := n1_
                  have HO560 := n2_
                  have HO569 := n3_
                  have HO574 := n4_
                  have HO579 := n5_
                  have HO586 := n6_
                  have BK532 := n7_
                  have BK548 := n8_
                  have BK557 := n9_
                  have BK566 := n10_
                  have BK583 := n11_
                  have BK590 := n12_
                  have HB := n13_
                  clear n0_ n1_ n2_ n3_ n4_ n5_ n6_ n7_ n8_ n9_ n10_ n11_ n12_ n13_
                  (try clear hb)
                  (try clear hb2)
                  (try clear hk)
                  (try clear hi)
                  (try clear ho0)
                  obtain ⟨Ao87, co87, eo87⟩ := Kd.R_slice HO586.out
                  (first | subst eo87 | (injection eo87 with f1_ f2_ f3_; have f4_ := f1_.symm; have f5_ := f3_.symm; clear f1_ f2_ f3_; subst f4_; subst f5_))
                  refine hK.out _ _ ⟨(blk_cell BK548.out 0).trans rfl, (blk_cell BK548.out 1).trans rfl⟩ (fun hHeld => ?_)
                  clear hK K
                  refine norm_ (a' := ?_) ?_ ?_
                  rotate_left
                  ·show Act.put _ (some 118) _ = _
                   simp only [Act.put, List.setIfInBounds_toArray, List.set_cons_zero, List.set_cons_succ, i64_w, i32_w]
                   rfl
                  refine one_ (i := 3) (N := some 120) #[true, true, true, true, false, false, false, true, false, false] rfl rfl (one_of HT_.out (by kernel_rfl)) (by decide) (fun K hK => ?_)
                  refine goes_ Try.func17 (by kernel_rfl) rfl #[.slice Ao87 t584.length co87, .agg #[.int .i64 a1_1, .int .i64 a1_0]] (by rfl) rfl rfl al_ ?_
                  with_reducible refine (tags_Circle.calls k1 _ _ t584 a1_1 a1_0 t587 t588 t589 _ ?side1 ?side2 A29.out).mono ?_
                  (case side1 => exact kc_ (Kd.R_reads' HO586.out).2.2)
                  (case side2 => exact (Kd.R_reads' HO586.out).2.1)
                  rintro e w88 ⟨rfl, hb⟩
                  refine ⟨_, rfl, ?_⟩
                  have n0_ := Aside0.mk (Kd.R_below (kr_ (HO_9.out)) hb)
                  have n1_ := Aside0.mk (Kd.R_below (kr_ (HO551.out)) hb)
                  have n2_ := Aside0.mk (Kd.R_below (kr_ (HO560.out)) hb)
                  have n3_ := Aside0.mk (Kd.R_below (kr_ (HO569.out)) hb)
                  have n4_ := Aside0.mk (Kd.R_below (kr_ (HO574.out)) hb)
                  have n5_ := Aside0.mk (Kd.R_below (kr_ (HO579.out)) hb)
                  have n6_ := Aside0.mk (Kd.R_below (kr_ (HO586.out)) hb)
                  have n7_ := Aside0.mk (bkb_ BK532.out hb)
                  have n8_ := Aside0.mk (bkb_ BK548.out hb)
                  have n9_ := Aside0.mk (bkb_ BK557.out hb)
                  have n10_ := Aside0.mk (bkb_ BK566.out hb)
                  have n11_ := Aside0.mk (bkb_ BK583.out hb)
                  have n12_ := Aside0.mk (bkb_ BK590.out hb)
                  have n13_ := Aside0.mk (below_step (hb_ HB.out) hb)
                  clear HO_9
                  clear HO551
                  clear HO560
                  clear HO569
                  clear HO574
                  clear HO579
                  clear HO586
                  clear BK532
                  clear BK548
                  clear BK557
                  clear BK566
                  clear BK583
                  clear BK590
                  clear HB
                  have HO_9 := n0_
                  have HO551 := n1_
                  have HO560 := n2_
                  have HO569 := n3_
                  have HO574 := n4_
                  have HO579 := n5_
                  have HO586 := n6_
                  have BK532 := n7_
                  have BK548 := n8_
                  have BK557 := n9_
                  have BK566 := n10_
                  have BK583 := n11_
                  have BK590 := n12_
                  have HB := n13_
                  clear n0_ n1_ n2_ n3_ n4_ n5_ n6_ n7_ n8_ n9_ n10_ n11_ n12_ n13_
                  (try clear hb)
                  (try clear hb2)
                  (try clear hk)
                  (try clear hi)
                  refine hK.out _ _ ⟨(blk_cell BK548.out 0).trans rfl, (blk_cell BK548.out 1).trans rfl⟩ (fun hHeld => ?_)
                  clear hK K
                  refine norm_ (a' := ?_) ?_ ?_
                  rotate_left
                  ·show Act.put _ (some 120) _ = _
                   simp only [Act.put, List.setIfInBounds_toArray, List.set_cons_zero, List.set_cons_succ, i64_w, i32_w]
                   rfl
                  refine pure_ (i := 4) (N := some 116) (v := ?_) (a' := ?_) #[true, true, true, true, true, false, false, true, false, false] rfl rfl (any_of HT_.out (by kernel_rfl)) (fun _ _ _ h => h) (Or.inl ⟨by rfl, ?_⟩) ?_ ?_
                  rotate_left
                  ·intro w'
                   go_simp
                   with_reducible rfl
                  rotate_left
                  ·simp only [Act.put, List.setIfInBounds_toArray, List.set_cons_zero, List.set_cons_succ, i64_w, i32_w]
                   rfl
                  refine pure_ (i := 5) (N := some 121) (v := ?_) (a' := ?_) #[true, true, true, true, true, true, false, true, false, false] rfl rfl (any_of HT_.out (by kernel_rfl)) (fun _ _ _ h => h) (Or.inl ⟨by rfl, ?_⟩) ?_ ?_
                  rotate_left
                  ·intro w'
                   go_simp
                   with_reducible rfl
                  rotate_left
                  ·simp only [Act.put, List.setIfInBounds_toArray, List.set_cons_zero, List.set_cons_succ, i64_w, i32_w]
                   rfl
                  refine pure_ (i := 6) (N := some 122) (v := ?_) (a' := ?_) #[true, true, true, true, true, true, true, true, false, false] rfl rfl (any_of HT_.out (by kernel_rfl)) (fun _ _ _ h => h) (Or.inl ⟨by rfl, ?_⟩) ?_ ?_
                  rotate_left
                  ·intro w'
                   go_simp
                   with_reducible rfl
                  rotate_left
                  ·simp only [Act.put, List.setIfInBounds_toArray, List.set_cons_zero, List.set_cons_succ, i64_w, i32_w]
                   rfl
                  exact norm_ (by simp only [putAll, Act.put, List.setIfInBounds_toArray, List.set_cons_zero, List.set_cons_succ]) (hCont (.slice Ao87 t584.length co87, gb590) _ ⟨hHeld, (by (with_reducible repeat (first | apply Kd.R_alloc | apply Kd.R_drewN | apply Kd.R_drew)); exact Kd.R_mono HO551.out (fun _ hk => ⟨hk.1.2.1, ⟨hk.1.2.2.1, ⟨hk.1.2.2.2.1, ⟨hk.1.2.2.2.2, ⟨hk.2, hk.1.1⟩⟩⟩⟩⟩)), (by (with_reducible repeat (first | apply Kd.R_alloc | apply Kd.R_drewN | apply Kd.R_drew)); exact Kd.R_mono HO560.out (fun _ hk => ⟨hk.1.2.1, ⟨hk.1.2.2.1, ⟨hk.1.2.2.2.1, ⟨hk.1.2.2.2.2, ⟨hk.2, hk.1.1⟩⟩⟩⟩⟩)), (by (with_reducible repeat (first | apply Kd.R_alloc | apply Kd.R_drewN | apply Kd.R_drew)); exact Kd.R_mono HO569.out (fun _ hk => ⟨hk.1.2.1, ⟨hk.1.2.2.1, ⟨hk.1.2.2.2.1, ⟨hk.1.2.2.2.2, ⟨hk.2, hk.1.1⟩⟩⟩⟩⟩)), (by (with_reducible repeat (first | apply Kd.R_alloc | apply Kd.R_drewN | apply Kd.R_drew)); exact Kd.R_mono HO574.out (fun _ hk => ⟨hk.1.2.1, ⟨hk.1.2.2.1, ⟨hk.1.2.2.2.1, ⟨hk.1.2.2.2.2, ⟨hk.2, hk.1.1⟩⟩⟩⟩⟩)), (by (with_reducible repeat (first | apply Kd.R_alloc | apply Kd.R_drewN | apply Kd.R_drew)); exact Kd.R_mono HO579.out (fun _ hk => ⟨hk.1.2.1, ⟨hk.1.2.2.1, ⟨hk.1.2.2.2.1, ⟨hk.1.2.2.2.2, ⟨hk.2, hk.1.1⟩⟩⟩⟩⟩)), (by (with_reducible repeat (first | apply Kd.R_alloc | apply Kd.R_drewN | apply Kd.R_drew)); exact Kd.R_mono HO586.out (fun _ hk => ⟨hk.1.1.1.1.2, ⟨hk.1.1.1.2, ⟨hk.1.1.2, ⟨hk.1.2, ⟨hk.2, hk.1.1.1.1.1.2⟩⟩⟩⟩⟩)), (by (with_reducible repeat (first | apply Kd.R_alloc | apply Kd.R_drewN | apply Kd.R_drew)); exact Kd.R_mono HO_9.out (fun _ hk => ⟨hk.1.1, ⟨hk.1.2.1, ⟨hk.1.2.2.1, ⟨hk.1.2.2.2.1, ⟨hk.1.2.2.2.2, hk.2⟩⟩⟩⟩⟩)), (bk_ BK532.out), (bk_ BK548.out), (bk_ BK557.out), (bk_ BK566.out), (bk_ BK583.out), (bk_ BK590.out), GW590.out, GE590.out, NB532_590.out, NB590_532.out, NB548_590.out, NB590_548.out, NB557_590.out, NB590_557.out, NB566_590.out, NB590_566.out, NB583_590.out, NB590_583.out, (hb_ HB.out)⟩)
                rintro ⟨v585, gb590⟩ w89 ⟨hS_, h0_, h1_, h2_, h3_, h4_, h5_, h6_, h7_, h8_, h9_, h10_, h11_, h12_, h13_, h14_, h15_, h16_, h17_, h18_, h19_, h20_, h21_, h22_, h23_, h24_, h25_⟩
                have n0_ : Aside0 (Kd.R k57 57 w89 w.heap.size (fun k_ => some k_ ≠ (v559 : Value).ownBlock ∧ some k_ ≠ (.slice Ao69 t567.length co69 : Value).ownBlock ∧ some k_ ≠ (.slice Ao73 t572.length co73 : Value).ownBlock ∧ some k_ ≠ (v578 : Value).ownBlock ∧ some k_ ≠ (v585 : Value).ownBlock ∧ some k_ ≠ (.slice Ao10 x9_1.length co10 : Value).ownBlock) v550 t549) := ⟨h0_⟩
                have n1_ : Aside0 (Kd.R k57 57 w89 w.heap.size (fun k_ => some k_ ≠ (v550 : Value).ownBlock ∧ some k_ ≠ (.slice Ao69 t567.length co69 : Value).ownBlock ∧ some k_ ≠ (.slice Ao73 t572.length co73 : Value).ownBlock ∧ some k_ ≠ (v578 : Value).ownBlock ∧ some k_ ≠ (v585 : Value).ownBlock ∧ some k_ ≠ (.slice Ao10 x9_1.length co10 : Value).ownBlock) v559 t558) := ⟨h1_⟩
                have n2_ : Aside0 (Kd.R k57 57 w89 w.heap.size (fun k_ => some k_ ≠ (v550 : Value).ownBlock ∧ some k_ ≠ (v559 : Value).ownBlock ∧ some k_ ≠ (.slice Ao73 t572.length co73 : Value).ownBlock ∧ some k_ ≠ (v578 : Value).ownBlock ∧ some k_ ≠ (v585 : Value).ownBlock ∧ some k_ ≠ (.slice Ao10 x9_1.length co10 : Value).ownBlock) (.slice Ao69 t567.length co69) t567) := ⟨h2_⟩
                have n3_ : Aside0 (Kd.R k57 57 w89 w.heap.size (fun k_ => some k_ ≠ (v550 : Value).ownBlock ∧ some k_ ≠ (v559 : Value).ownBlock ∧ some k_ ≠ (.slice Ao69 t567.length co69 : Value).ownBlock ∧ some k_ ≠ (v578 : Value).ownBlock ∧ some k_ ≠ (v585 : Value).ownBlock ∧ some k_ ≠ (.slice Ao10 x9_1.length co10 : Value).ownBlock) (.slice Ao73 t572.length co73) t572) := ⟨h3_⟩
                have n4_ : Aside0 (Kd.R k57 57 w89 w.heap.size (fun k_ => some k_ ≠ (v550 : Value).ownBlock ∧ some k_ ≠ (v559 : Value).ownBlock ∧ some k_ ≠ (.slice Ao69 t567.length co69 : Value).ownBlock ∧ some k_ ≠ (.slice Ao73 t572.length co73 : Value).ownBlock ∧ some k_ ≠ (v585 : Value).ownBlock ∧ some k_ ≠ (.slice Ao10 x9_1.length co10 : Value).ownBlock) v578 t577) := ⟨h4_⟩
                have n5_ : Aside0 (Kd.R k57 57 w89 w.heap.size (fun k_ => some k_ ≠ (v550 : Value).ownBlock ∧ some k_ ≠ (v559 : Value).ownBlock ∧ some k_ ≠ (.slice Ao69 t567.length co69 : Value).ownBlock ∧ some k_ ≠ (.slice Ao73 t572.length co73 : Value).ownBlock ∧ some k_ ≠ (v578 : Value).ownBlock ∧ some k_ ≠ (.slice Ao10 x9_1.length co10 : Value).ownBlock) v585 t584) := ⟨h5_⟩
                have n6_ : Aside0 (Kd.R k57 57 w89 w.heap.size (fun k_ => some k_ ≠ (v550 : Value).ownBlock ∧ some k_ ≠ (v559 : Value).ownBlock ∧ some k_ ≠ (.slice Ao69 t567.length co69 : Value).ownBlock ∧ some k_ ≠ (.slice Ao73 t572.length co73 : Value).ownBlock ∧ some k_ ≠ (v578 : Value).ownBlock ∧ some k_ ≠ (v585 : Value).ownBlock) (.slice Ao10 x9_1.length co10) x9_1) := ⟨h6_⟩
                have n7_ : Aside0 (w89.heap[gb532]? = some (.cells #[.int .i64 a1_0, .int .i64 a1_1] 23 (0, 0))) := ⟨h7_⟩
                have n8_ : Aside0 (w89.heap[gb548]? = some (.cells #[.int .i64 a1_1, .int .i64 a1_0] 23 (0, 0))) := ⟨h8_⟩
                have n9_ : Aside0 (w89.heap[gb557]? = some (.cells #[.int .i64 t553, .int .i64 t554] 23 (0, 0))) := ⟨h9_⟩
                have n10_ : Aside0 (w89.heap[gb566]? = some (.cells #[.int .i64 t562, .int .i64 t563] 23 (0, 0))) := ⟨h10_⟩
                have n11_ : Aside0 (w89.heap[gb583]? = some (.cells #[.int .i64 t580, .int .i64 t581] 23 (0, 0))) := ⟨h11_⟩
                have n12_ : Aside0 (w89.heap[gb590]? = some (.cells #[.int .i64 0, .int .i64 0] 23 (0, 0))) := ⟨h12_⟩
                have n13_ : Aside0 (w.heap.size ≤ gb590) := ⟨h13_⟩
                have n14_ : Aside0 (w.heap.size ≤ gb590) := ⟨h14_⟩
                have n15_ : Aside0 (gb532 ≠ gb590) := ⟨h15_⟩
                have n16_ : Aside0 (gb590 ≠ gb532) := ⟨h16_⟩
                have n17_ : Aside0 (gb548 ≠ gb590) := ⟨h17_⟩
                have n18_ : Aside0 (gb590 ≠ gb548) := ⟨h18_⟩
                have n19_ : Aside0 (gb557 ≠ gb590) := ⟨h19_⟩
                have n20_ : Aside0 (gb590 ≠ gb557) := ⟨h20_⟩
                have n21_ : Aside0 (gb566 ≠ gb590) := ⟨h21_⟩
                have n22_ : Aside0 (gb590 ≠ gb566) := ⟨h22_⟩
                have n23_ : Aside0 (gb583 ≠ gb590) := ⟨h23_⟩
                have n24_ : Aside0 (gb590 ≠ gb583) := ⟨h24_⟩
                have n25_ : Aside0 (Below w.heap.size w w89) := ⟨h25_⟩
                clear HO_9
                clear HO551
                clear HO560
                clear HO569
                clear HO574
                clear HO579
                clear BK532
                clear BK548
                clear BK557
                clear BK566
                clear BK583
                clear HB
                clear h0_ h1_ h2_ h3_ h4_ h5_ h6_ h7_ h8_ h9_ h10_ h11_ h12_ h13_ h14_ h15_ h16_ h17_ h18_ h19_ h20_ h21_ h22_ h23_ h24_ h25_
                have HO551 := n0_
                have HO560 := n1_
                have HO569 := n2_
                have HO574 := n3_
                have HO579 := n4_
                have HO586 := n5_
                have HO_9 := n6_
                have BK532 := n7_
                have BK548 := n8_
                have BK557 := n9_
                have BK566 := n10_
                have BK583 := n11_
                have BK590 := n12_
                have GW590 := n13_
                have GE590 := n14_
                have NB532_590 := n15_
                have NB590_532 := n16_
                have NB548_590 := n17_
                have NB590_548 := n18_
                have NB557_590 := n19_
                have NB590_557 := n20_
                have NB566_590 := n21_
                have NB590_566 := n22_
                have NB583_590 := n23_
                have NB590_583 := n24_
                have HB := n25_
                clear n0_ n1_ n2_ n3_ n4_ n5_ n6_ n7_ n8_ n9_ n10_ n11_ n12_ n13_ n14_ n15_ n16_ n17_ n18_ n19_ n20_ n21_ n22_ n23_ n24_ n25_
                have hHeld : w89.cell? ⟨gb548, 0, none⟩ = some (.int .i64 a1_1) ∧ w89.cell? ⟨gb548, 1, none⟩ = some (.int .i64 a1_0) := hS_
                refine norm_ (a' := ?_) ?_ ?_
                rotate_left
                ·simp only [putAll, Act.put, List.setIfInBounds_toArray, List.set_cons_zero, List.set_cons_succ]
                 rfl
                refine one_ (i := 8) (N := none) #[true, true, true, true, true, true, true, true, true, false] rfl rfl (one_of HT_.out (by kernel_rfl)) (by decide) (fun K hK => ?_)
                have hs90 : w89.cell? ⟨gb590, 0, none⟩ = some (.int .i64 0) := (blk_cell BK590.out 0).trans rfl
                have hfs90 := blk_frozen BK590.out 0
                have hns90_0 := NB532_590.out
                have hns90_1 := NB548_590.out
                have hns90_2 := NB557_590.out
                have hns90_3 := NB566_590.out
                have hns90_4 := NB583_590.out
                have hms90_0 := NB590_532.out
                have hms90_1 := NB590_548.out
                have hms90_2 := NB590_557.out
                have hms90_3 := NB590_566.out
                have hms90_4 := NB590_583.out
                have hs91 : w89.cell? ⟨gb590, 1, none⟩ = some (.int .i64 0) := (blk_cell BK590.out 1).trans rfl
                have hfs91 := blk_frozen BK590.out 1
                have hns91_0 := NB532_590.out
                have hns91_1 := NB548_590.out
                have hns91_2 := NB557_590.out
                have hns91_3 := NB566_590.out
                have hns91_4 := NB583_590.out
                have hms91_0 := NB590_532.out
                have hms91_1 := NB590_548.out
                have hms91_2 := NB590_557.out
                have hms91_3 := NB590_566.out
                have hms91_4 := NB590_583.out
                refine skip_ (w1 := ?_) (by rfl) rfl ?_ ?_
                rotate_left
                ·go_simp
                 rfl
                refine hK.out _ _ ⟨((cell_far (p := ⟨gb590, _, none⟩) NB548_590.out _).trans (((cell_far (p := ⟨gb590, _, none⟩) NB548_590.out _).trans (hHeld.1)))), ((cell_far (p := ⟨gb590, _, none⟩) NB548_590.out _).trans (((cell_far (p := ⟨gb590, _, none⟩) NB548_590.out _).trans (hHeld.2))))⟩ (fun hHeld => ?_)
                clear hK K
                refine pure_ (i := 9) (N := some 27) (v := ?_) (a' := ?_) #[true, true, true, true, true, true, true, true, true, true] rfl rfl (any_of HT_.out (by kernel_rfl)) (fun _ _ _ h => h) (Or.inl ⟨by rfl, ?_⟩) ?_ ?_
                rotate_left
                ·intro w'
                 go_simp
                 with_reducible rfl
                rotate_left
                ·simp only [Act.put, List.setIfInBounds_toArray, List.set_cons_zero, List.set_cons_succ, i64_w, i32_w]
                 rfl
                refine done_ (done_of HT_.out (by kernel_rfl)) ?_
                try go_wp2_with (first | ((with_reducible refine gate_callee (f := 11) rfl ?_); refine goesL_ (some 125) rfl rfl Try.func11 (by kernel_rfl) rfl #[.slice A0 l0.length c0] rfl al_ ?_; (with_reducible refine (comfitlaw06_Of.calls k1 _ _ l0 t591 _ ?side1 ?side2 A30.out).mono ?_); (case side1 => exact Kd.C_below HR0.out (hb_ HB.out)); (case side2 => exact HC0.out); rintro e w92 ⟨v592, rfl, ho0, hb⟩; refine ⟨_, rfl, ?_⟩; have n0_ := Aside0.mk (Kd.R_elder' (by (with_reducible repeat (first | apply Kd.R_alloc | apply Kd.R_drewN | apply Kd.R_drew)); exact (Kd.R_mono (Kd.R_far (p := ⟨gb590, 1, none⟩) (Kd.R_far (p := ⟨gb590, 0, none⟩) (Kd.R_types HO_9.out BK590.out (by decide)) (fun _ hk => hk.2) (.int .i64 t587)) (fun _ hk => hk.2) (.int .i64 t588)) (fun _ h_ => h_.1))) (Kd.R_base ho0) hb); have n1_ := Aside0.mk (Kd.R_elder' (by (with_reducible repeat (first | apply Kd.R_alloc | apply Kd.R_drewN | apply Kd.R_drew)); exact (Kd.R_mono (Kd.R_far (p := ⟨gb590, 1, none⟩) (Kd.R_far (p := ⟨gb590, 0, none⟩) (Kd.R_types HO551.out BK590.out (by decide)) (fun _ hk => hk.2) (.int .i64 t587)) (fun _ hk => hk.2) (.int .i64 t588)) (fun _ h_ => h_.1))) (Kd.R_base ho0) hb); have n2_ := Aside0.mk (Kd.R_elder' (by (with_reducible repeat (first | apply Kd.R_alloc | apply Kd.R_drewN | apply Kd.R_drew)); exact (Kd.R_mono (Kd.R_far (p := ⟨gb590, 1, none⟩) (Kd.R_far (p := ⟨gb590, 0, none⟩) (Kd.R_types HO560.out BK590.out (by decide)) (fun _ hk => hk.2) (.int .i64 t587)) (fun _ hk => hk.2) (.int .i64 t588)) (fun _ h_ => h_.1))) (Kd.R_base ho0) hb); have n3_ := Aside0.mk (Kd.R_elder' (by (with_reducible repeat (first | apply Kd.R_alloc | apply Kd.R_drewN | apply Kd.R_drew)); exact (Kd.R_mono (Kd.R_far (p := ⟨gb590, 1, none⟩) (Kd.R_far (p := ⟨gb590, 0, none⟩) (Kd.R_types HO569.out BK590.out (by decide)) (fun _ hk => hk.2) (.int .i64 t587)) (fun _ hk => hk.2) (.int .i64 t588)) (fun _ h_ => h_.1))) (Kd.R_base ho0) hb); have n4_ := Aside0.mk (Kd.R_elder' (by (with_reducible repeat (first | apply Kd.R_alloc | apply Kd.R_drewN | apply Kd.R_drew)); exact (Kd.R_mono (Kd.R_far (p := ⟨gb590, 1, none⟩) (Kd.R_far (p := ⟨gb590, 0, none⟩) (Kd.R_types HO574.out BK590.out (by decide)) (fun _ hk => hk.2) (.int .i64 t587)) (fun _ hk => hk.2) (.int .i64 t588)) (fun _ h_ => h_.1))) (Kd.R_base ho0) hb); have n5_ := Aside0.mk (Kd.R_elder' (by (with_reducible repeat (first | apply Kd.R_alloc | apply Kd.R_drewN | apply Kd.R_drew)); exact (Kd.R_mono (Kd.R_far (p := ⟨gb590, 1, none⟩) (Kd.R_far (p := ⟨gb590, 0, none⟩) (Kd.R_types HO579.out BK590.out (by decide)) (fun _ hk => hk.2) (.int .i64 t587)) (fun _ hk => hk.2) (.int .i64 t588)) (fun _ h_ => h_.1))) (Kd.R_base ho0) hb); have n6_ := Aside0.mk (Kd.R_elder' (by (with_reducible repeat (first | apply Kd.R_alloc | apply Kd.R_drewN | apply Kd.R_drew)); exact (Kd.R_mono (Kd.R_far (p := ⟨gb590, 1, none⟩) (Kd.R_far (p := ⟨gb590, 0, none⟩) (Kd.R_types HO586.out BK590.out (by decide)) (fun _ hk => hk.2) (.int .i64 t587)) (fun _ hk => hk.2) (.int .i64 t588)) (fun _ h_ => h_.1))) (Kd.R_base ho0) hb); have n7_ := Aside0.mk (Kd.R_lower (Kd.R_new' (Kd.R_new' (Kd.R_new' (Kd.R_new' (Kd.R_new' (Kd.R_new' (Kd.R_new' ho0 (Kd.R_lt (by (with_reducible repeat (first | apply Kd.R_alloc | apply Kd.R_drewN | apply Kd.R_drew)); exact (Kd.R_mono (Kd.R_far (p := ⟨gb590, 1, none⟩) (Kd.R_far (p := ⟨gb590, 0, none⟩) (Kd.R_types HO_9.out BK590.out (by decide)) (fun _ hk => hk.2) (.int .i64 t587)) (fun _ hk => hk.2) (.int .i64 t588)) (fun _ h_ => h_.1))))) (Kd.R_lt (by (with_reducible repeat (first | apply Kd.R_alloc | apply Kd.R_drewN | apply Kd.R_drew)); exact (Kd.R_mono (Kd.R_far (p := ⟨gb590, 1, none⟩) (Kd.R_far (p := ⟨gb590, 0, none⟩) (Kd.R_types HO551.out BK590.out (by decide)) (fun _ hk => hk.2) (.int .i64 t587)) (fun _ hk => hk.2) (.int .i64 t588)) (fun _ h_ => h_.1))))) (Kd.R_lt (by (with_reducible repeat (first | apply Kd.R_alloc | apply Kd.R_drewN | apply Kd.R_drew)); exact (Kd.R_mono (Kd.R_far (p := ⟨gb590, 1, none⟩) (Kd.R_far (p := ⟨gb590, 0, none⟩) (Kd.R_types HO560.out BK590.out (by decide)) (fun _ hk => hk.2) (.int .i64 t587)) (fun _ hk => hk.2) (.int .i64 t588)) (fun _ h_ => h_.1))))) (Kd.R_lt (by (with_reducible repeat (first | apply Kd.R_alloc | apply Kd.R_drewN | apply Kd.R_drew)); exact (Kd.R_mono (Kd.R_far (p := ⟨gb590, 1, none⟩) (Kd.R_far (p := ⟨gb590, 0, none⟩) (Kd.R_types HO569.out BK590.out (by decide)) (fun _ hk => hk.2) (.int .i64 t587)) (fun _ hk => hk.2) (.int .i64 t588)) (fun _ h_ => h_.1))))) (Kd.R_lt (by (with_reducible repeat (first | apply Kd.R_alloc | apply Kd.R_drewN | apply Kd.R_drew)); exact (Kd.R_mono (Kd.R_far (p := ⟨gb590, 1, none⟩) (Kd.R_far (p := ⟨gb590, 0, none⟩) (Kd.R_types HO574.out BK590.out (by decide)) (fun _ hk => hk.2) (.int .i64 t587)) (fun _ hk => hk.2) (.int .i64 t588)) (fun _ h_ => h_.1))))) (Kd.R_lt (by (with_reducible repeat (first | apply Kd.R_alloc | apply Kd.R_drewN | apply Kd.R_drew)); exact (Kd.R_mono (Kd.R_far (p := ⟨gb590, 1, none⟩) (Kd.R_far (p := ⟨gb590, 0, none⟩) (Kd.R_types HO579.out BK590.out (by decide)) (fun _ hk => hk.2) (.int .i64 t587)) (fun _ hk => hk.2) (.int .i64 t588)) (fun _ h_ => h_.1))))) (Kd.R_lt (by (with_reducible repeat (first | apply Kd.R_alloc | apply Kd.R_drewN | apply Kd.R_drew)); exact (Kd.R_mono (Kd.R_far (p := ⟨gb590, 1, none⟩) (Kd.R_far (p := ⟨gb590, 0, none⟩) (Kd.R_types HO586.out BK590.out (by decide)) (fun _ hk => hk.2) (.int .i64 t587)) (fun _ hk => hk.2) (.int .i64 t588)) (fun _ h_ => h_.1))))) (below_size (hb_ HB.out))); have n8_ := Aside0.mk (blk_below (g := gb532) (o := .cells #[.int .i64 a1_0, .int .i64 a1_1] 23 (0, 0)) (by (with_reducible repeat (first | refine blk_drewN ?_ _ | refine blk_drew ?_ | refine blk_alloc ?_ _)); refine blk_far ?_ NB532_590.out _; (with_reducible repeat (first | refine blk_drewN ?_ _ | refine blk_drew ?_ | refine blk_alloc ?_ _)); refine blk_far ?_ NB532_590.out _; (with_reducible repeat (first | refine blk_drewN ?_ _ | refine blk_drew ?_ | refine blk_alloc ?_ _)); exact BK532.out) hb); have n9_ := Aside0.mk (blk_below (g := gb548) (o := .cells #[.int .i64 a1_1, .int .i64 a1_0] 23 (0, 0)) (by (with_reducible repeat (first | refine blk_drewN ?_ _ | refine blk_drew ?_ | refine blk_alloc ?_ _)); refine blk_far ?_ NB548_590.out _; (with_reducible repeat (first | refine blk_drewN ?_ _ | refine blk_drew ?_ | refine blk_alloc ?_ _)); refine blk_far ?_ NB548_590.out _; (with_reducible repeat (first | refine blk_drewN ?_ _ | refine blk_drew ?_ | refine blk_alloc ?_ _)); exact BK548.out) hb); have n10_ := Aside0.mk (blk_below (g := gb557) (o := .cells #[.int .i64 t553, .int .i64 t554] 23 (0, 0)) (by (with_reducible repeat (first | refine blk_drewN ?_ _ | refine blk_drew ?_ | refine blk_alloc ?_ _)); refine blk_far ?_ NB557_590.out _; (with_reducible repeat (first | refine blk_drewN ?_ _ | refine blk_drew ?_ | refine blk_alloc ?_ _)); refine blk_far ?_ NB557_590.out _; (with_reducible repeat (first | refine blk_drewN ?_ _ | refine blk_drew ?_ | refine blk_alloc ?_ _)); exact BK557.out) hb); have n11_ := Aside0.mk (blk_below (g := gb566) (o := .cells #[.int .i64 t562, .int .i64 t563] 23 (0, 0)) (by (with_reducible repeat (first | refine blk_drewN ?_ _ | refine blk_drew ?_ | refine blk_alloc ?_ _)); refine blk_far ?_ NB566_590.out _; (with_reducible repeat (first | refine blk_drewN ?_ _ | refine blk_drew ?_ | refine blk_alloc ?_ _)); refine blk_far ?_ NB566_590.out _; (with_reducible repeat (first | refine blk_drewN ?_ _ | refine blk_drew ?_ | refine blk_alloc ?_ _)); exact BK566.out) hb); have n12_ := Aside0.mk (blk_below (g := gb583) (o := .cells #[.int .i64 t580, .int .i64 t581] 23 (0, 0)) (by (with_reducible repeat (first | refine blk_drewN ?_ _ | refine blk_drew ?_ | refine blk_alloc ?_ _)); refine blk_far ?_ NB583_590.out _; (with_reducible repeat (first | refine blk_drewN ?_ _ | refine blk_drew ?_ | refine blk_alloc ?_ _)); refine blk_far ?_ NB583_590.out _; (with_reducible repeat (first | refine blk_drewN ?_ _ | refine blk_drew ?_ | refine blk_alloc ?_ _)); exact BK583.out) hb); have n13_ := Aside0.mk (blk_below (g := gb590) (o := .cells #[.int .i64 t587, .int .i64 t588] 23 (0, 0)) (by (with_reducible repeat (first | refine blk_drewN ?_ _ | refine blk_drew ?_ | refine blk_alloc ?_ _)); refine blk_put (cs := #[.int .i64 t587, .int .i64 0]) ?_ 1 _ rfl; (with_reducible repeat (first | refine blk_drewN ?_ _ | refine blk_drew ?_ | refine blk_alloc ?_ _)); refine blk_put (cs := #[.int .i64 0, .int .i64 0]) ?_ 0 _ rfl; (with_reducible repeat (first | refine blk_drewN ?_ _ | refine blk_drew ?_ | refine blk_alloc ?_ _)); exact BK590.out) hb); have n14_ := Aside0.mk (below_step (hb_ HB.out) hb); clear HO_9; clear HO551; clear HO560; clear HO569; clear HO574; clear HO579; clear HO586; clear BK532; clear BK548; clear BK557; clear BK566; clear BK583; clear BK590; clear HB; have HO_9 := n0_; have HO551 := n1_; have HO560 := n2_; have HO569 := n3_; have HO574 := n4_; have HO579 := n5_; have HO586 := n6_; have HO593 := n7_; have BK532 := n8_; have BK548 := n9_; have BK557 := n10_; have BK566 := n11_; have BK583 := n12_; have BK590 := n13_; have HB := n14_; clear n0_ n1_ n2_ n3_ n4_ n5_ n6_ n7_ n8_ n9_ n10_ n11_ n12_ n13_ n14_; (try clear hb); (try clear hb2); (try clear hk); (try clear hi); (try clear ho0); obtain ⟨Ao93, co93, eo93⟩ := Kd.R_slice HO593.out; subst eo93) | ((with_reducible refine gate_callee (f := 22) rfl ?_); refine goesL_ (some 126) rfl rfl Try.func22 (by kernel_rfl) rfl #[.slice Ao93 t591.length co93, .int .i64 0] rfl al_ ?_; (with_reducible refine (tags_Adds.calls k1 _ _ t591 0 t594 t595 _ ?side1 ?side2 A31.out).mono ?_); (case side1 => exact kc_ (Kd.R_reads' HO593.out).2.2); (case side2 => exact (Kd.R_reads' HO593.out).2.1); rintro e w94 ⟨rfl, hb⟩; refine ⟨_, rfl, ?_⟩; have n0_ := Aside0.mk (Kd.R_below (kr_ (HO_9.out)) hb); have n1_ := Aside0.mk (Kd.R_below (kr_ (HO551.out)) hb); have n2_ := Aside0.mk (Kd.R_below (kr_ (HO560.out)) hb); have n3_ := Aside0.mk (Kd.R_below (kr_ (HO569.out)) hb); have n4_ := Aside0.mk (Kd.R_below (kr_ (HO574.out)) hb); have n5_ := Aside0.mk (Kd.R_below (kr_ (HO579.out)) hb); have n6_ := Aside0.mk (Kd.R_below (kr_ (HO586.out)) hb); have n7_ := Aside0.mk (Kd.R_below (kr_ (HO593.out)) hb); have n8_ := Aside0.mk (bkb_ BK532.out hb); have n9_ := Aside0.mk (bkb_ BK548.out hb); have n10_ := Aside0.mk (bkb_ BK557.out hb); have n11_ := Aside0.mk (bkb_ BK566.out hb); have n12_ := Aside0.mk (bkb_ BK583.out hb); have n13_ := Aside0.mk (bkb_ BK590.out hb); have n14_ := Aside0.mk (below_step (hb_ HB.out) hb); clear HO_9; clear HO551; clear HO560; clear HO569; clear HO574; clear HO579; clear HO586; clear HO593; clear BK532; clear BK548; clear BK557; clear BK566; clear BK583; clear BK590; clear HB; have HO_9 := n0_; have HO551 := n1_; have HO560 := n2_; have HO569 := n3_; have HO574 := n4_; have HO579 := n5_; have HO586 := n6_; have HO593 := n7_; have BK532 := n8_; have BK548 := n9_; have BK557 := n10_; have BK566 := n11_; have BK583 := n12_; have BK590 := n13_; have HB := n14_; clear n0_ n1_ n2_ n3_ n4_ n5_ n6_ n7_ n8_ n9_ n10_ n11_ n12_ n13_ n14_; (try clear hb); (try clear hb2); (try clear hk); (try clear hi)) | ((with_reducible refine gate_callee (f := 22) rfl ?_); refine goesL_ (some 131) rfl rfl Try.func22 (by kernel_rfl) rfl #[.slice Ao10 x9_1.length co10, .int .i64 1] rfl al_ ?_; (with_reducible refine (tags_Adds.calls k1 _ _ x9_1 1 t596 t597 _ ?side1 ?side2 A32.out).mono ?_); (case side1 => exact kc_ (Kd.R_reads' HO_9.out).2.2); (case side2 => exact (Kd.R_reads' HO_9.out).2.1); rintro e w95 ⟨rfl, hb⟩; refine ⟨_, rfl, ?_⟩; have n0_ := Aside0.mk (Kd.R_below (kr_ (HO_9.out)) hb); have n1_ := Aside0.mk (Kd.R_below (kr_ (HO551.out)) hb); have n2_ := Aside0.mk (Kd.R_below (kr_ (HO560.out)) hb); have n3_ := Aside0.mk (Kd.R_below (kr_ (HO569.out)) hb); have n4_ := Aside0.mk (Kd.R_below (kr_ (HO574.out)) hb); have n5_ := Aside0.mk (Kd.R_below (kr_ (HO579.out)) hb); have n6_ := Aside0.mk (Kd.R_below (kr_ (HO586.out)) hb); have n7_ := Aside0.mk (Kd.R_below (kr_ (HO593.out)) hb); have n8_ := Aside0.mk (bkb_ BK532.out hb); have n9_ := Aside0.mk (bkb_ BK548.out hb); have n10_ := Aside0.mk (bkb_ BK557.out hb); have n11_ := Aside0.mk (bkb_ BK566.out hb); have n12_ := Aside0.mk (bkb_ BK583.out hb); have n13_ := Aside0.mk (bkb_ BK590.out hb); have n14_ := Aside0.mk (below_step (hb_ HB.out) hb); clear HO_9; clear HO551; clear HO560; clear HO569; clear HO574; clear HO579; clear HO586; clear HO593; clear BK532; clear BK548; clear BK557; clear BK566; clear BK583; clear BK590; clear HB; have HO_9 := n0_; have HO551 := n1_; have HO560 := n2_; have HO569 := n3_; have HO574 := n4_; have HO579 := n5_; have HO586 := n6_; have HO593 := n7_; have BK532 := n8_; have BK548 := n9_; have BK557 := n10_; have BK566 := n11_; have BK583 := n12_; have BK590 := n13_; have HB := n14_; clear n0_ n1_ n2_ n3_ n4_ n5_ n6_ n7_ n8_ n9_ n10_ n11_ n12_ n13_ n14_; (try clear hb); (try clear hb2); (try clear hk); (try clear hi); have hnb96 := NB557_532.out; have hnc96 := NB532_557.out; have hnb97 := NB557_548.out; have hnc97 := NB548_557.out; have hnb98 := NB557_566.out; have hnc98 := NB566_557.out; have hnb99 := NB557_583.out; have hnc99 := NB583_557.out; have hnb100 := NB557_590.out; have hnc100 := NB590_557.out; have hcz101_0 : w95.cell? ⟨gb557, 0, none⟩ = some (.int .i64 t553) := (blk_cell BK557.out 0).trans rfl; have hcz101_1 : w95.cell? ⟨gb557, 1, none⟩ = some (.int .i64 t554) := (blk_cell BK557.out 1).trans rfl; have hfz101_0 := blk_frozen BK557.out 0; have hfz101_1 := blk_frozen BK557.out 1; have hnb102 := NB566_532.out; have hnc102 := NB532_566.out; have hnb103 := NB566_548.out; have hnc103 := NB548_566.out; have hnb104 := NB566_583.out; have hnc104 := NB583_566.out; have hnb105 := NB566_590.out; have hnc105 := NB590_566.out; have hcz106_0 : w95.cell? ⟨gb566, 0, none⟩ = some (.int .i64 t562) := (blk_cell BK566.out 0).trans rfl; have hcz106_1 : w95.cell? ⟨gb566, 1, none⟩ = some (.int .i64 t563) := (blk_cell BK566.out 1).trans rfl; have hfz106_0 := blk_frozen BK566.out 0; have hfz106_1 := blk_frozen BK566.out 1; have hnb107 := NB583_532.out; have hnc107 := NB532_583.out; have hnb108 := NB583_548.out; have hnc108 := NB548_583.out; have hnb109 := NB583_590.out; have hnc109 := NB590_583.out; have hcz110_0 : w95.cell? ⟨gb583, 0, none⟩ = some (.int .i64 t580) := (blk_cell BK583.out 0).trans rfl; have hcz110_1 : w95.cell? ⟨gb583, 1, none⟩ = some (.int .i64 t581) := (blk_cell BK583.out 1).trans rfl; have hfz110_0 := blk_frozen BK583.out 0; have hfz110_1 := blk_frozen BK583.out 1; have hnb111 := NB590_532.out; have hnc111 := NB532_590.out; have hnb112 := NB590_548.out; have hnc112 := NB548_590.out; have hcz113_0 : w95.cell? ⟨gb590, 0, none⟩ = some (.int .i64 t587) := (blk_cell BK590.out 0).trans rfl; have hcz113_1 : w95.cell? ⟨gb590, 1, none⟩ = some (.int .i64 t588) := (blk_cell BK590.out 1).trans rfl; have hfz113_0 := blk_frozen BK590.out 0; have hfz113_1 := blk_frozen BK590.out 1) | (go_at_call 14; (with_reducible refine (comfitlaw06_awake.calls k1  t598 _ A43.out).mono ?_); rintro e w114 ⟨rfl, hb⟩; have n0_ := Aside0.mk (Kd.R_below (kr_ (HO_9.out)) hb); have n1_ := Aside0.mk (Kd.R_below (kr_ (HO551.out)) hb); have n2_ := Aside0.mk (Kd.R_below (kr_ (HO560.out)) hb); have n3_ := Aside0.mk (Kd.R_below (kr_ (HO569.out)) hb); have n4_ := Aside0.mk (Kd.R_below (kr_ (HO574.out)) hb); have n5_ := Aside0.mk (Kd.R_below (kr_ (HO579.out)) hb); have n6_ := Aside0.mk (Kd.R_below (kr_ (HO586.out)) hb); have n7_ := Aside0.mk (Kd.R_below (kr_ (HO593.out)) hb); have n8_ := Aside0.mk (bkb_ BK532.out hb); have n9_ := Aside0.mk (bkb_ BK548.out hb); have n10_ := Aside0.mk (bkb_ BK557.out hb); have n11_ := Aside0.mk (bkb_ BK566.out hb); have n12_ := Aside0.mk (bkb_ BK583.out hb); have n13_ := Aside0.mk (bkb_ BK590.out hb); have n14_ := Aside0.mk (below_step (hb_ HB.out) hb); clear HO_9; clear HO551; clear HO560; clear HO569; clear HO574; clear HO579; clear HO586; clear HO593; clear BK532; clear BK548; clear BK557; clear BK566; clear BK583; clear BK590; clear HB; have HO_9 := n0_; have HO551 := n1_; have HO560 := n2_; have HO569 := n3_; have HO574 := n4_; have HO579 := n5_; have HO586 := n6_; have HO593 := n7_; have BK532 := n8_; have BK548 := n9_; have BK557 := n10_; have BK566 := n11_; have BK583 := n12_; have BK590 := n13_; have HB := n14_; clear n0_ n1_ n2_ n3_ n4_ n5_ n6_ n7_ n8_ n9_ n10_ n11_ n12_ n13_ n14_; (try clear hb); (try clear hb2); (try clear hk); (try clear hi)))
                go_ret
                exact ⟨by first | rfl | (simp [errW_none, errW_some] <;> rfl) | (simp [*, errW_none, errW_some] <;> rfl), by repeat (first | (with_reducible first | exact HB.out | apply below_alloc | apply pw_below_drewN | apply below_drew1 | refine below_set ?_ GE532.out | refine below_set ?_ GE548.out | refine below_set ?_ GE557.out | refine below_set ?_ GE566.out | refine below_set ?_ GE583.out | refine below_set ?_ GE590.out) | exact HB.out)⟩
              ·rw [if_neg c42] at H
               exact absurd H (by simp)
             ·rw [if_neg c41] at H
              exact absurd H (by simp)
            ·rw [if_neg c40] at H
             exact absurd H (by simp)
           ·rw [if_neg c39] at H
            exact absurd H (by simp)
          ·rw [if_neg c38] at H
           exact absurd H (by simp)
         ·rw [if_neg c37] at H
          exact absurd H (by simp)
        ·rw [if_neg c36] at H
         exact absurd H (by simp)
       ·rw [if_neg c35] at H
        exact absurd H (by simp)
      ·rw [if_neg c34] at H
       exact absurd H (by simp)
     ·rw [if_neg c33] at H
      exact absurd H (by simp)
 ·replace c5 := Bool.eq_false_iff.mpr c5
  subst c5
  have H1 : ((comfitlaw06_Of.f k l0).bind fun t534 => ((tags_Fewer.f t534).bind fun bt537 => (if bt537.2 = 2 then ((comfitlaw06_awake.f k).bind fun t541 => (some t541)) else (none)))) = some r := by rw [if_neg (show ¬ (false = true) by decide)] at H; exact H
  clear H
  have H := H1
  clear H1
  replace H := Option.bind_eq_some_iff.mp H
  obtain ⟨t534, A1150, H⟩ := H
  replace H : ((tags_Fewer.f t534).bind fun bt537 => (if bt537.2 = 2 then ((comfitlaw06_awake.f k).bind fun t541 => (some t541)) else (none))) = some r := H
  have A115 := Aside0.mk A1150
  clear A1150
  replace H := Option.bind_eq_some_iff.mp H
  obtain ⟨⟨t537, t538⟩, A1160, H⟩ := H
  replace H : (if t538 = 2 then ((comfitlaw06_awake.f k).bind fun t541 => (some t541)) else (none)) = some r := H
  have A116 := Aside0.mk A1160
  clear A1160
  by_cases c117 : t538 = 2
  ·rw [if_pos c117] at H
   have c117b0 : (t538 == 2) = true := beq_iff_eq.mpr c117
   have c117b1 : (t538 != 2) = false := bne_eq_false_iff_eq.mpr c117
   clear c117
   replace H := Option.bind_eq_some_iff.mp H
   obtain ⟨t541, A1180, H⟩ := H
   replace H : (some t541) = some r := H
   have A118 := Aside0.mk A1180
   clear A1180
   as_aux_lemma =>
    obtain rfl := Option.some.inj H
    go_enter Try.func9, Try.ntmps9
    go_wp2_with (first | ((with_reducible refine gate_dst (N := 4) rfl ?_); refine box_event ?hg (N := 4) ?hd (cs := #[.int .i64 a1_0, .int .i64 a1_1]) (t := 23) ?hr ?_; (case hd => rfl); (case hg => rfl); (case hr => first | (go_simp; done) | (go_simp; rfl)); intro gb532 hg w119 hbox hb; have n0_ := Aside0.mk (below_step (hb_ HB.out) hb); have n1_ := Aside0.mk (hbox); have n2_ := Aside0.mk ((by rw [hg]; exact (below_size (hb_ HB.out)) : w.heap.size ≤ gb532)); have n3_ := Aside0.mk ((by rw [hg]; exact (below_size (hb_ HB.out)) : w.heap.size ≤ gb532)); clear HB; have HB := n0_; have BK532 := n1_; have GW532 := n2_; have GE532 := n3_; clear n0_ n1_ n2_ n3_; clear hb hbox hg) | ((with_reducible refine gate_callee (f := 12) rfl ?_); refine goesL_ (some 33) rfl rfl Try.func12 (by kernel_rfl) rfl #[.slice A0 l0.length c0] rfl al_ ?_; (with_reducible refine (comfitref06_Machine.calls k _ _ l0 false _ ?side1 ?side2 A4.out).mono ?_); (case side1 => exact kc_ (Kd.C_below HR0.out HB.out)); (case side2 => exact HC0.out); rintro e w120 ⟨rfl, hb⟩; refine ⟨_, rfl, ?_⟩; have n0_ := Aside0.mk (bkb_ BK532.out hb); have n1_ := Aside0.mk (below_step (hb_ HB.out) hb); clear BK532; clear HB; have BK532 := n0_; have HB := n1_; clear n0_ n1_; (try clear hb); (try clear hb2); (try clear hk); (try clear hi)) | ((with_reducible refine gate_callee (f := 11) rfl ?_); refine goesL_ (some 37) rfl rfl Try.func11 (by kernel_rfl) rfl #[.slice A0 l0.length c0] rfl al_ ?_; (with_reducible refine (comfitlaw06_Of.calls k _ _ l0 t534 _ ?side1 ?side2 A115.out).mono ?_); (case side1 => exact kc_ (Kd.C_below HR0.out HB.out)); (case side2 => exact HC0.out); rintro e w121 ⟨v535, rfl, ho0, hb⟩; refine ⟨_, rfl, ?_⟩; have n0_ := Aside0.mk (Kd.R_lower ho0 (below_size (hb_ HB.out))); have n1_ := Aside0.mk (bkb_ BK532.out hb); have n2_ := Aside0.mk (below_step (hb_ HB.out) hb); clear BK532; clear HB; have HO536 := n0_; have BK532 := n1_; have HB := n2_; clear n0_ n1_ n2_; (try clear hb); (try clear hb2); (try clear hk); (try clear hi); (try clear ho0); obtain ⟨Ao122, co122, eo122⟩ := Kd.R_slice HO536.out; subst eo122) | ((with_reducible refine gate_callee (f := 23) rfl ?_); refine goesL_ (some 38) rfl rfl Try.func23 (by kernel_rfl) rfl #[.slice Ao122 t534.length co122] rfl al_ ?_; (with_reducible refine (tags_Fewer.calls _ _ t534 t537 t538 _ ?side1 ?side2 A116.out).mono ?_); (case side1 => exact kc_ (Kd.R_reads' HO536.out).2.2); (case side2 => exact (Kd.R_reads' HO536.out).2.1); rintro e w123 ⟨v539, rfl, ho0, hb⟩; refine ⟨_, rfl, ?_⟩; have n0_ := Aside0.mk (Kd.R_elder' (kr_ (HO536.out)) (Kd.R_base ho0) hb); have n1_ := Aside0.mk (Kd.R_lower (Kd.R_new' ho0 (Kd.R_lt (kr_ (HO536.out)))) (below_size (hb_ HB.out))); have n2_ := Aside0.mk (bkb_ BK532.out hb); have n3_ := Aside0.mk (below_step (hb_ HB.out) hb); clear HO536; clear BK532; clear HB; have HO536 := n0_; have HO540 := n1_; have BK532 := n2_; have HB := n3_; clear n0_ n1_ n2_ n3_; (try clear hb); (try clear hb2); (try clear hk); (try clear hi); (try clear ho0)) | (go_at_call 14; (with_reducible refine (comfitlaw06_awake.calls k  t541 _ A118.out).mono ?_); rintro e w124 ⟨rfl, hb⟩; have n0_ := Aside0.mk (Kd.R_below (kr_ (HO536.out)) hb); have n1_ := Aside0.mk (Kd.R_below (kr_ (HO540.out)) hb); have n2_ := Aside0.mk (bkb_ BK532.out hb); have n3_ := Aside0.mk (below_step (hb_ HB.out) hb); clear HO536; clear HO540; clear BK532; clear HB; have HO536 := n0_; have HO540 := n1_; have BK532 := n2_; have HB := n3_; clear n0_ n1_ n2_ n3_; (try clear hb); (try clear hb2); (try clear hk); (try clear hi)))
    go_ret
    exact ⟨by first | rfl | (simp [errW_none, errW_some] <;> rfl) | (simp [*, errW_none, errW_some] <;> rfl), by repeat (first | (with_reducible first | exact HB.out | apply below_alloc | apply pw_below_drewN | apply below_drew1 | refine below_set ?_ GE532.out) | exact HB.out)⟩
  ·rw [if_neg c117] at H
   exact absurd H (by simp)

end Go.Proofs.Ytjmbjnobbeflfaa.X
