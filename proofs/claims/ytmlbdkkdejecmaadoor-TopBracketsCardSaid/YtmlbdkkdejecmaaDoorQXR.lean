/- Written by a program of this session (wip/tools/xprint.py, which calls the kit's print): Go functions as Lean functions, and for each the proof that the machine's call does what it says; no conditions but those that each theorem names. -/
import Derived.Test.YtmlbdkkdejecmaaDoorQX0
namespace Go.Proofs.YtmlbdkkdejecmaaDoor.X
open Go.RowKit Go.Proofs.YtmlbdkkdejecmaaDoorW.PrintWords Go.Proofs.YtmlbdkkdejecmaaDoorW.PrintLast Go.Proofs.YtmlbdkkdejecmaaDoorW.PrintMore
attribute [local go_sem] max2_int min2_int max_two min_two max_three min_three max_four min_four   -- for this text's walks alone
set_option linter.unusedVariables false
set_option linter.unusedSimpArgs false

/-! ### comfitref03_Pile: function 6 -/
mutual
def comfitref03_Pile.l0 : Nat → List Int → Int → Int → List Int → Int → Int → Option (Bool)
 | 0, _, _, _, _, _, _ => none
 | k + 1, x0, x1, x5, x8, x9, x10 => if x10 < x9 then (if 0 ≤ x10 then (if x10 < (x8.length : Int) then (if (rd x8 x10) < 0 then (comfitref03_Pile.j1 k x0 x1 x5 (rd x8 x10) x8 x9 x10 true) else (if (rd x8 x10) ≥ (x0.length : Int) then (comfitref03_Pile.j1 k x0 x1 x5 (rd x8 x10) x8 x9 x10 true) else (if (rd x8 x10) > 60 then (comfitref03_Pile.j1 k x0 x1 x5 (rd x8 x10) x8 x9 x10 true) else (if 0 ≤ (rd x8 x10) then (comfitref03_Pile.j1 k x0 x1 x5 (rd x8 x10) x8 x9 x10 ((Go.bits .and .i64 (shr .i64 x5 (rd x8 x10)) 1) == 1)) else (none))))) else (none)) else (none)) else (if (x0.length : Int) ≥ 1 then (some (decide ((x0.length : Int) ≤ x1))) else (some false))
def comfitref03_Pile.j1 : Nat → List Int → Int → Int → Int → List Int → Int → Int → Bool → Option (Bool)
 | 0, _, _, _, _, _, _, _, _ => none
 | k + 1, x0, x1, x5, x7, x8, x9, x10, x32 => if x32 = true then (some false) else (if 0 ≤ x7 then (comfitref03_Pile.l0 k x0 x1 (Go.bits .or .i64 x5 (shl .i64 1 x7)) x8 x9 (wrap64 (x10 + 1))) else (none))
end
def comfitref03_Pile.f (k : Nat) (l0 : List Int) (a1 : Int) : Option (Bool) := comfitref03_Pile.l0 k l0 a1 0 l0 (l0.length : Int) 0
set_option maxHeartbeats 8000000 in
set_option maxRecDepth 100000 in
theorem comfitref03_Pile.calls (k : Nat) (A0 : Option Addr) (c0 : Nat) (l0 : List Int) (a1 : Int) (r : Bool) (w : World) (hr0 : Kd.C (Kd.int .i64) w A0 l0.length l0) (hc0 : l0.length ≤ c0) (h : comfitref03_Pile.f k l0 a1 = some r) :
  Calls Tryd.prog 6 #[.slice A0 l0.length c0, .int .i64 a1] w fun e w' => e = .returned (.bool r) ∧ Drawn0 w w' := by
 have HR0 := Aside0.mk hr0
 have HC0 := Aside0.mk hc0
 clear hr0 hc0
 have H : (comfitref03_Pile.l0 k l0 a1 0 l0 (l0.length : Int) 0) = some r := h
 clear h
 have H' := Aside0.mk H
 clear H
 go_enter Tryd.func6, Tryd.ntmps6
 go_wp2
 go_loopg [5, 10] k (fun kq v5 v10 w' => ∃ (x5_1 : Int) (x10_1 : Int), v5 = .int .i64 x5_1 ∧ v10 = .int .i64 x10_1 ∧ Aside0 (comfitref03_Pile.l0 kq l0 a1 x5_1 l0 (l0.length : Int) x10_1 = some r) ∧ Aside0 (kq ≤ k) ∧ Drawn0 w w')
 case atStart => exact ⟨(0), (0), (by first | rfl | (simp; done) | (simp [*]; done)), (by first | rfl | (simp; done) | (simp [*]; done)), H', ⟨Nat.le_refl _⟩, by repeat (first | exact Drawn0.refl _ | apply Drawn0.step)⟩
 case round =>
  clear H'
  try clear p2
  obtain ⟨x5_1, x10_1, rfl, rfl, HA, HK1, ⟨m1, rfl⟩⟩ := hrel
  cases gk with
  | zero => exact absurd HA.out (by simp [comfitref03_Pile.l0])
  | succ k1 =>
   have H := HA.out
   clear HA
   simp only [comfitref03_Pile.l0] at H
   by_cases c3 : x10_1 < (l0.length : Int)
   ·rw [if_pos c3] at H
    have c3b0 : decide (x10_1 < (l0.length : Int)) = true := decide_eq_true c3
    clear c3
    by_cases c4 : 0 ≤ x10_1
    ·rw [if_pos c4] at H
     have c4b0 : decide (0 ≤ x10_1) = true := decide_eq_true c4
     clear c4
     by_cases c5 : x10_1 < (l0.length : Int)
     ·rw [if_pos c5] at H
      have c5b0 : decide (x10_1 < (l0.length : Int)) = true := decide_eq_true c5
      clear c5
      have HC6 := Aside0.mk H
      clear H
      have p101 : 0 ≤ (x10_1 : Int) := of_decide_eq_true (by first | (with_reducible assumption) | assumption)
      have q101 : x10_1 < (l0.length : Int) := of_decide_eq_true (by first | (with_reducible assumption) | assumption)
      obtain ⟨ad101, e101, hx101_0⟩ := Kd.at_int HR0.out x10_1 p101 q101
      cases e101
      replace p101 := eq_true p101
      replace q101 := eq_true q101
      go_upto_region 5 with (fail)
      go_cut [32] (fun v32 wc => ∃ (kq : Nat) (x32_5 : Bool), v32 = .bool x32_5 ∧ Aside0 (comfitref03_Pile.j1 kq l0 a1 x5_1 (rd l0 x10_1) l0 (l0.length : Int) x10_1 x32_5 = some r) ∧ Aside0 (kq ≤ k1) ∧ Drawn0 w wc)
      case first =>
       have H := HC6.out
       clear HC6
       by_cases c7 : (rd l0 x10_1) < 0
       ·rw [if_pos c7] at H
        have c7b0 : decide ((rd l0 x10_1) < 0) = true := decide_eq_true c7
        clear c7
        (first | rw [c7b0] | (simp only [i64_w, i32_w]; rw [c7b0]) | skip)
        have H' := Aside0.mk H
        clear H
        go_wp2
        go_meet
        case rel => exact ⟨_, (true), (by first | rfl | (simp; done) | (simp [*]; done)), H', ⟨by have := HK1.out; first | omega | exact Nat.le_refl _⟩, by repeat (first | exact Drawn0.refl _ | apply Drawn0.step)⟩
       ·rw [if_neg c7] at H
        have c7b0 : decide ((rd l0 x10_1) < 0) = false := decide_eq_false c7
        clear c7
        (first | rw [c7b0] | (simp only [i64_w, i32_w]; rw [c7b0]) | skip)
        by_cases c8 : (rd l0 x10_1) ≥ (l0.length : Int)
        ·rw [if_pos c8] at H
         have c8b0 : decide ((l0.length : Int) ≤ (rd l0 x10_1)) = true := decide_eq_true c8
         clear c8
         have H' := Aside0.mk H
         clear H
         go_wp2
         go_meet
         case rel => exact ⟨_, (true), (by first | rfl | (simp; done) | (simp [*]; done)), H', ⟨by have := HK1.out; first | omega | exact Nat.le_refl _⟩, by repeat (first | exact Drawn0.refl _ | apply Drawn0.step)⟩
        ·rw [if_neg c8] at H
         have c8b0 : decide ((l0.length : Int) ≤ (rd l0 x10_1)) = false := decide_eq_false c8
         clear c8
         by_cases c9 : (rd l0 x10_1) > 60
         ·rw [if_pos c9] at H
          have c9b0 : decide (60 < (rd l0 x10_1)) = true := decide_eq_true c9
          clear c9
          have H' := Aside0.mk H
          clear H
          go_wp2
          go_meet
          case rel => exact ⟨_, (true), (by first | rfl | (simp; done) | (simp [*]; done)), H', ⟨by have := HK1.out; first | omega | exact Nat.le_refl _⟩, by repeat (first | exact Drawn0.refl _ | apply Drawn0.step)⟩
         ·rw [if_neg c9] at H
          have c9b0 : decide (60 < (rd l0 x10_1)) = false := decide_eq_false c9
          clear c9
          by_cases c10 : 0 ≤ (rd l0 x10_1)
          ·rw [if_pos c10] at H
           have c10b0 := eq_true c10
           have c10b1 : decide (0 ≤ (rd l0 x10_1)) = true := decide_eq_true c10
           clear c10
           obtain ⟨ji11, hji11⟩ : ∃ j_ : Int, (shr .i64 x5_1 (rd l0 x10_1)) = j_ := ⟨_, rfl⟩
           replace H : (comfitref03_Pile.j1 k1 l0 a1 x5_1 (rd l0 x10_1) l0 (l0.length : Int) x10_1 ((Go.bits .and .i64 (ji11) 1) == 1)) = some r := by first | (rw [hji11] at H; exact H) | (simp only [hji11] at H ⊢; exact H)
           have hji11_ : (x5_1 / 2 ^ min (rd l0 x10_1).toNat 64) = ji11 := hji11
           have hji11z : (rd l0 x10_1) ≤ 64 → (x5_1 / 2 ^ (rd l0 x10_1).toNat) = ji11 := shr_small hji11
           have H' := Aside0.mk H
           clear H
           go_wp2
           go_meet
           case rel => exact ⟨_, (((Go.bits .and .i64 (ji11) 1) == 1)), (by first | rfl | (simp; done) | (simp only [← hji11] <;> (first | rfl | simp)) | (simp [*]; done)), H', ⟨by have := HK1.out; first | omega | exact Nat.le_refl _⟩, by repeat (first | exact Drawn0.refl _ | apply Drawn0.step)⟩
          ·rw [if_neg c10] at H
           exact absurd H (by simp)
      case rest =>
       clear HC6
       try clear c1
       try clear p1
       try clear q1
       try clear hx1
       try clear p2
       try clear c3
       try clear c3b0
       try clear c4
       try clear c4b0
       try clear c5
       try clear c5b0
       try clear c6
       try clear c7
       try clear c7b0
       try clear c8
       try clear c8b0
       try clear c9
       try clear c9b0
       try clear c10
       try clear c10b0
       try clear c10b1
       try clear p10
       try clear q10
       try clear hx10
       try clear hx101_0
       try clear p101
       try clear p2
       try clear q101
       obtain ⟨kq, x32_5, rfl, HA, HJ5, ⟨mc5, rfl⟩⟩ := hcut
       cases kq with
       | zero => exact absurd HA.out (by simp [comfitref03_Pile.j1])
       | succ kj5 =>
        have H := HA.out
        clear HA
        simp only [comfitref03_Pile.j1] at H
        by_cases c12 : x32_5 = true
        ·subst c12
         have H1 : (some false) = some r := by rw [if_pos rfl] at H; exact H
         clear H
         have H := H1
         clear H1
         obtain rfl := Option.some.inj H
         go_wp2
         go_ret
         exact ⟨by first | rfl | (simp; done) | (simp [*]; done), by repeat (first | exact Drawn0.refl _ | apply Drawn0.step)⟩
        ·replace c12 := Bool.eq_false_iff.mpr c12
         subst c12
         have H1 : (if 0 ≤ (rd l0 x10_1) then (comfitref03_Pile.l0 kj5 l0 a1 (Go.bits .or .i64 x5_1 (shl .i64 1 (rd l0 x10_1))) l0 (l0.length : Int) (wrap64 (x10_1 + 1))) else (none)) = some r := by rw [if_neg (show ¬ (false = true) by decide)] at H; exact H
         clear H
         have H := H1
         clear H1
         by_cases c13 : 0 ≤ (rd l0 x10_1)
         ·rw [if_pos c13] at H
          have c13b0 := eq_true c13
          have c13b1 : decide (0 ≤ (rd l0 x10_1)) = true := decide_eq_true c13
          clear c13
          obtain ⟨ji14, hji14⟩ : ∃ j_ : Int, (shl .i64 1 (rd l0 x10_1)) = j_ := ⟨_, rfl⟩
          replace H : (comfitref03_Pile.l0 kj5 l0 a1 (Go.bits .or .i64 x5_1 (ji14)) l0 (l0.length : Int) (wrap64 (x10_1 + 1))) = some r := by first | (rw [hji14] at H; exact H) | (simp only [hji14] at H ⊢; exact H)
          have hji14_ : (IntKind.i64.wrap (1 * 2 ^ min (rd l0 x10_1).toNat 64)) = ji14 := hji14
          have hji14z : (rd l0 x10_1) ≤ 64 → (IntKind.i64.wrap (1 * 2 ^ (rd l0 x10_1).toNat)) = ji14 := shl_small hji14
          have hji14u : (IntKind.i64.wrap (2 ^ min (rd l0 x10_1).toNat 64)) = ji14 := by have h_ := hji14_; rw [Int.one_mul] at h_; exact h_
          have hji14v : (rd l0 x10_1) ≤ 64 → (IntKind.i64.wrap (2 ^ (rd l0 x10_1).toNat)) = ji14 := fun hle_ => by have h_ := hji14z hle_; rw [Int.one_mul] at h_; exact h_
          have hji14y : (wrap64 (1 * 2 ^ min (rd l0 x10_1).toNat 64)) = ji14 := (i64_w _).symm.trans hji14_
          have hji14x : (rd l0 x10_1) ≤ 64 → (wrap64 (1 * 2 ^ (rd l0 x10_1).toNat)) = ji14 := fun h_ => (i64_w _).symm.trans (hji14z h_)
          have H' := Aside0.mk H
          clear H
          go_wp2
          go_roundg kj5
          case measure => have := HK1.out; have := HJ5.out; omega
          case rel => exact ⟨(Go.bits .or .i64 x5_1 (ji14)), (wrap64 (x10_1 + 1)), (by first | rfl | (simp; done) | (simp only [← hji14] <;> (first | rfl | simp)) | (simp [*]; done)), (by first | rfl | (simp; done) | (simp [*]; done)), H', ⟨by have := HK1.out; have := HJ5.out; omega⟩, by repeat (first | exact Drawn0.refl _ | apply Drawn0.step)⟩
         ·rw [if_neg c13] at H
          exact absurd H (by simp)
     ·rw [if_neg c5] at H
      exact absurd H (by simp)
    ·rw [if_neg c4] at H
     exact absurd H (by simp)
   ·rw [if_neg c3] at H
    have c3b0 : decide (x10_1 < (l0.length : Int)) = false := decide_eq_false c3
    clear c3
    by_cases c15 : (l0.length : Int) ≥ 1
    ·rw [if_pos c15] at H
     have c15b0 : decide (1 ≤ (l0.length : Int)) = true := decide_eq_true c15
     have c15b1 : decide (1 ≤ l0.length) = true := decide_eq_true (by omega)
     clear c15
     obtain rfl := Option.some.inj H
     go_wp2
     go_ret
     exact ⟨by first | rfl | (simp; done) | (simp [*]; done), by repeat (first | exact Drawn0.refl _ | apply Drawn0.step)⟩
    ·rw [if_neg c15] at H
     have c15b0 : decide (1 ≤ (l0.length : Int)) = false := decide_eq_false c15
     have c15b1 : decide (1 ≤ l0.length) = false := decide_eq_false (by omega)
     clear c15
     obtain rfl := Option.some.inj H
     go_wp2
     go_ret
     exact ⟨by first | rfl | (simp; done) | (simp [*]; done), by repeat (first | exact Drawn0.refl _ | apply Drawn0.step)⟩

end Go.Proofs.YtmlbdkkdejecmaaDoor.X
