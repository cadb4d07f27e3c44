/- The contract of fixes.Works.where: the set of the states for which a closure answers true. Under: what the closure answers. -/
import Derived.Test.YtmlbdkkdejecmaaQHBoxes
set_option linter.unusedVariables false
set_option linter.unusedSimpArgs false
namespace Go.Proofs.Ytmlbdkkdejecmaa.X
open Go.RowKit Go.Proofs.YtmlbdkkdejecmaaW.PrintWords Go.Proofs.YtmlbdkkdejecmaaW.PrintLast Go.Proofs.YtmlbdkkdejecmaaW.PrintMore
attribute [local go_sem] Oper.semAt_some
/-- The set of the states from i on for which B holds, added to o. -/
def whB (B : Nat → Bool) : Nat → Nat → Int → Int
  | 0, _, o => o
  | d + 1, i, o => whB B d (i + 1) (if B i = true then Go.bits .or .i64 o (shl .i64 1 (i : Int)) else o)
theorem whB_yes (B : Nat → Bool) (n i : Nat) (o : Int) (h : i < n) (hb : B i = true) : whB B (n - i) i o = whB B (n - (i + 1)) (i + 1) (Go.bits .or .i64 o (shl .i64 1 (i : Int))) := by
  rw [show n - i = (n - (i + 1)) + 1 by omega, whB, if_pos hb]
theorem whB_no (B : Nat → Bool) (n i : Nat) (o : Int) (h : i < n) (hb : B i = false) : whB B (n - i) i o = whB B (n - (i + 1)) (i + 1) o := by
  rw [show n - i = (n - (i + 1)) + 1 by omega, whB, if_neg (by rw [hb]; decide)]
theorem whB_end (B : Nat → Bool) (n : Nat) (o : Int) : whB B (n - n) n o = o := by rw [Nat.sub_self]; rfl
theorem meas_w (n j : Nat) (x : Int) (hx : x = ((j + 1 : Nat) : Int)) (h : j < n) : n - (intOf (.int .i64 x)).toNat < n - (intOf (.int .i64 (j : Int))).toNat := by
  subst hx
  simp only [intOf, Int.toNat_natCast]
  omega
set_option maxRecDepth 100000 in
set_option maxHeartbeats 8000000 in
theorem where64.calls (A0 A1 : Option Addr) (l0 l1 : List Int) (c0 c1 : Nat) (p1 p2 : Addr) (B : Nat → Bool) (w : World) (hl : l0.length ≤ 6)
    (hf : ∀ (W : World), Below w.heap.size w W → ∀ i : Nat, i < l0.length → Calls Try.prog 64 #[.int .i64 (i : Int), .pointer (some p1), .pointer (some p2)] W fun e W' => e = .returned (.bool (B i)) ∧ Below W.heap.size W W') (q : Int) (hq : whB B l0.length 0 0 = q) :
    Calls Try.prog 63 #[.agg #[.slice A0 l0.length c0, .slice A1 l1.length c1], .func (.func 64) #[] #[.pointer (some p1), .pointer (some p2)]] w fun e w' => e = .returned (.int .i64 q) ∧ Below w.heap.size w w' := by
  have HF := Aside0.mk hf
  have HQ := Aside0.mk hq
  clear hf hq
  have B1 := Aside0.mk (Box.new (Below.refl w.heap.size w) #[.slice A0 l0.length c0, .slice A1 l1.length c1] 73)
  have HB := Aside0.mk (below_alloc (Below.refl w.heap.size w) (.cells #[.slice A0 l0.length c0, .slice A1 l1.length c1] 73))
  have b10 := B1.out.cell 0 rfl
  go_enter Try.func63, Try.ntmps63
  go_wp2_with fail
  go_loopw [5, 10] (fun v5 v10 W => ∃ (i : Nat) (o : Int), v5 = .int .i64 o ∧ v10 = .int .i64 (i : Int) ∧ i ≤ l0.length ∧ Aside0 (whB B (l0.length - i) i o = q) ∧ Aside0 (Below w.heap.size w W)) (fun v5 v10 _ => l0.length - (intOf v10).toNat)
  case atStart => exact ⟨0, 0, rfl, rfl, by omega, HQ, HB⟩
  case round =>
    obtain ⟨i, o, rfl, rfl, hi, HI, HW⟩ := hrel
    by_cases hil : i < l0.length
    · have hib : decide ((i : Int) < (l0.length : Int)) = true := decide_eq_true (by omega)
      have hip : ((i : Int) < (l0.length : Int)) = True := eq_true (by omega)
      have HWR : Aside0 (wrap64 ((i : Int) + 1) = ((i + 1 : Nat) : Int)) := ⟨by unfold wrap64; omega⟩
      have hi0 : decide (0 ≤ (i : Int)) = true := decide_eq_true (by omega)
      have HJ : Aside0 (shl .i64 1 (i : Int) = wrap64 (2 ^ i)) := ⟨by unfold shl; rw [Int.toNat_natCast, Nat.min_eq_left (show i ≤ IntKind.i64.bits from Nat.le_trans (by omega : i ≤ 6) (by decide)), Int.one_mul, i64_w]⟩
      go_wp2_with fail
      refine (HF.out _ HW.out i hil).mono ?_
      rintro e w1 ⟨rfl, hb⟩
      have HW1 := Aside0.mk (below_step HW.out hb)
      clear hb
      by_cases hbad : B i = true
      · have HI2 := Aside0.mk ((whB_yes B l0.length i o hil hbad).symm.trans HI.out)
        rw [HJ.out] at HI2
        rw [hbad]
        clear HI
        go_wp2_with fail
        exact ⟨⟨i + 1, _, rfl, by first | rw [HWR.out] | (congr 1 <;> omega), hil, HI2, HW1⟩, meas_w l0.length i _ (by first | exact HWR.out | omega) hil⟩
      · replace hbad := Bool.eq_false_iff.mpr hbad
        have HI2 := Aside0.mk ((whB_no B l0.length i o hil hbad).symm.trans HI.out)
        rw [hbad]
        clear HI
        go_wp2_with fail
        exact ⟨⟨i + 1, o, rfl, by first | rw [HWR.out] | (congr 1 <;> omega), hil, HI2, HW1⟩, meas_w l0.length i _ (by first | exact HWR.out | omega) hil⟩
    · have hib : decide ((i : Int) < (l0.length : Int)) = false := decide_eq_false (by omega)
      have hip : ((i : Int) < (l0.length : Int)) = False := eq_false (by omega)
      obtain rfl : i = l0.length := by omega
      have HI2 : Aside0 (o = q) := ⟨(whB_end B l0.length o).symm.trans HI.out⟩
      clear HI
      go_wp2_with fail
      go_ret
      exact ⟨by rw [← HI2.out]; rfl, HW.out⟩
set_option maxRecDepth 100000 in
set_option maxHeartbeats 8000000 in
theorem where75.calls (A0 A1 : Option Addr) (l0 l1 : List Int) (c0 c1 : Nat) (p1 p2 : Addr) (B : Nat → Bool) (w : World) (hl : l0.length ≤ 6)
    (hf : ∀ (W : World), Below w.heap.size w W → ∀ i : Nat, i < l0.length → Calls Try.prog 75 #[.int .i64 (i : Int), .pointer (some p1), .pointer (some p2)] W fun e W' => e = .returned (.bool (B i)) ∧ Below W.heap.size W W') (q : Int) (hq : whB B l0.length 0 0 = q) :
    Calls Try.prog 63 #[.agg #[.slice A0 l0.length c0, .slice A1 l1.length c1], .func (.func 75) #[] #[.pointer (some p1), .pointer (some p2)]] w fun e w' => e = .returned (.int .i64 q) ∧ Below w.heap.size w w' := by
  have HF := Aside0.mk hf
  have HQ := Aside0.mk hq
  clear hf hq
  have B1 := Aside0.mk (Box.new (Below.refl w.heap.size w) #[.slice A0 l0.length c0, .slice A1 l1.length c1] 73)
  have HB := Aside0.mk (below_alloc (Below.refl w.heap.size w) (.cells #[.slice A0 l0.length c0, .slice A1 l1.length c1] 73))
  have b10 := B1.out.cell 0 rfl
  go_enter Try.func63, Try.ntmps63
  go_wp2_with fail
  go_loopw [5, 10] (fun v5 v10 W => ∃ (i : Nat) (o : Int), v5 = .int .i64 o ∧ v10 = .int .i64 (i : Int) ∧ i ≤ l0.length ∧ Aside0 (whB B (l0.length - i) i o = q) ∧ Aside0 (Below w.heap.size w W)) (fun v5 v10 _ => l0.length - (intOf v10).toNat)
  case atStart => exact ⟨0, 0, rfl, rfl, by omega, HQ, HB⟩
  case round =>
    obtain ⟨i, o, rfl, rfl, hi, HI, HW⟩ := hrel
    by_cases hil : i < l0.length
    · have hib : decide ((i : Int) < (l0.length : Int)) = true := decide_eq_true (by omega)
      have hip : ((i : Int) < (l0.length : Int)) = True := eq_true (by omega)
      have HWR : Aside0 (wrap64 ((i : Int) + 1) = ((i + 1 : Nat) : Int)) := ⟨by unfold wrap64; omega⟩
      have hi0 : decide (0 ≤ (i : Int)) = true := decide_eq_true (by omega)
      have HJ : Aside0 (shl .i64 1 (i : Int) = wrap64 (2 ^ i)) := ⟨by unfold shl; rw [Int.toNat_natCast, Nat.min_eq_left (show i ≤ IntKind.i64.bits from Nat.le_trans (by omega : i ≤ 6) (by decide)), Int.one_mul, i64_w]⟩
      go_wp2_with fail
      refine (HF.out _ HW.out i hil).mono ?_
      rintro e w1 ⟨rfl, hb⟩
      have HW1 := Aside0.mk (below_step HW.out hb)
      clear hb
      by_cases hbad : B i = true
      · have HI2 := Aside0.mk ((whB_yes B l0.length i o hil hbad).symm.trans HI.out)
        rw [HJ.out] at HI2
        rw [hbad]
        clear HI
        go_wp2_with fail
        exact ⟨⟨i + 1, _, rfl, by first | rw [HWR.out] | (congr 1 <;> omega), hil, HI2, HW1⟩, meas_w l0.length i _ (by first | exact HWR.out | omega) hil⟩
      · replace hbad := Bool.eq_false_iff.mpr hbad
        have HI2 := Aside0.mk ((whB_no B l0.length i o hil hbad).symm.trans HI.out)
        rw [hbad]
        clear HI
        go_wp2_with fail
        exact ⟨⟨i + 1, o, rfl, by first | rw [HWR.out] | (congr 1 <;> omega), hil, HI2, HW1⟩, meas_w l0.length i _ (by first | exact HWR.out | omega) hil⟩
    · have hib : decide ((i : Int) < (l0.length : Int)) = false := decide_eq_false (by omega)
      have hip : ((i : Int) < (l0.length : Int)) = False := eq_false (by omega)
      obtain rfl : i = l0.length := by omega
      have HI2 : Aside0 (o = q) := ⟨(whB_end B l0.length o).symm.trans HI.out⟩
      clear HI
      go_wp2_with fail
      go_ret
      exact ⟨by rw [← HI2.out]; rfl, HW.out⟩
end Go.Proofs.Ytmlbdkkdejecmaa.X
