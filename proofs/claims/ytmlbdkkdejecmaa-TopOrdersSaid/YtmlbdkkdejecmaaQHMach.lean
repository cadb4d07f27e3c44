/- The contract of tags.isMachine: from one to eight orders, none of them bad. -/
import Derived.Test.YtmlbdkkdejecmaaQHBoxes
import Derived.Test.YtmlbdkkdejecmaaQHEq
set_option linter.unusedVariables false
set_option linter.unusedSimpArgs false
namespace Go.Proofs.Ytmlbdkkdejecmaa.X
open Go.RowKit Go.Proofs.YtmlbdkkdejecmaaW.PrintWords Go.Proofs.YtmlbdkkdejecmaaW.PrintLast Go.Proofs.YtmlbdkkdejecmaaW.PrintMore
attribute [local go_sem] Oper.semAt_some
attribute [local go_sem] max2_int min2_int max_two min_two
attribute [local go_sem high] eqA45
/-- What makes an order bad, amid n of them. -/
def badO (n : Int) (x : S45) : Bool := if x.f1 < 0 then true else if 1 < x.f1 then true else if mn x.f2 x.f3 < 0 then true else if n ≤ mx x.f2 x.f3 then true else
  if x.f0 = 0 then (!(x.f1 == 0) || (!(x.f2 == 0) || !(x.f3 == 0))) else if x.f0 = 1 then !(x.f3 == 0) else !(x.f0 == 2)
theorem cell_keep {W W1 : World} {a : Addr} {u : Value} (h : W.cell? a = some u) (hb : Below W.heap.size W W1) : W1.cell? a = some u := (hb.cell (World.block_lt_of_cell? W _ h)).trans h
set_option maxRecDepth 100000 in
set_option maxHeartbeats 8000000 in
theorem mach1.calls (n : Int) (x : S45) (a : Addr) (w : World) (hn : w.cell? a = some (.int .i64 n)) :
    Calls Try.prog 61 #[.agg #[.int .i64 x.f0, .int .i64 x.f1, .int .i64 x.f2, .int .i64 x.f3], .pointer (some a)] w fun e w' => e = .returned (.bool (badO n x)) ∧ Below w.heap.size w w' := by
  obtain ⟨f0, f1, f2, f3⟩ := x
  have hu45 := Try.underlying45
  have hN := cell_keep hn (below_alloc (Below.refl w.heap.size w) (.cells #[.int .i64 f0, .int .i64 f1, .int .i64 f2, .int .i64 f3] 45))
  clear hn
  have HB := Aside0.mk (below_alloc (Below.refl w.heap.size w) (.cells #[.int .i64 f0, .int .i64 f1, .int .i64 f2, .int .i64 f3] 45))
  obtain ⟨b, hb⟩ : ∃ b, badO n ⟨f0, f1, f2, f3⟩ = b := ⟨_, rfl⟩
  rw [hb]
  unfold badO at hb
  dsimp only at hb
  have hm : ∃ m, mn f2 f3 = m := ⟨_, rfl⟩
  have hx : ∃ m, mx f2 f3 = m := ⟨_, rfl⟩
  obtain ⟨m, hm⟩ := hm
  obtain ⟨x, hx⟩ := hx
  rw [hm, hx] at hb
  have hm_ : (if f3 < f2 then f3 else f2) = m := hm
  have hx_ : (if f2 < f3 then f3 else f2) = x := hx
  clear hm hx
  by_cases c0 : f1 < 0
  · rw [if_pos c0] at hb
    have c0b : decide (f1 < 0) = true := decide_eq_true c0
    clear c0
    have HR := Aside0.mk hb
    clear hb
    go_enter Try.func61, Try.ntmps61
    go_wp2_with fail
    go_ret
    exact ⟨by rw [← HR.out]; first | rfl | simp | (simp [*]; done), HB.out⟩
  · rw [if_neg c0] at hb
    have c0b : decide (f1 < 0) = false := decide_eq_false c0
    clear c0
    by_cases c1 : 1 < f1
    · rw [if_pos c1] at hb
      have c1b : decide (1 < f1) = true := decide_eq_true c1
      clear c1
      have HR := Aside0.mk hb
      clear hb
      go_enter Try.func61, Try.ntmps61
      go_wp2_with fail
      go_ret
      exact ⟨by rw [← HR.out]; first | rfl | simp | (simp [*]; done), HB.out⟩
    · rw [if_neg c1] at hb
      have c1b : decide (1 < f1) = false := decide_eq_false c1
      clear c1
      by_cases c2 : m < 0
      · rw [if_pos c2] at hb
        have c2b : decide (m < 0) = true := decide_eq_true c2
        clear c2
        have HR := Aside0.mk hb
        clear hb
        go_enter Try.func61, Try.ntmps61
        go_wp2_with fail
        go_ret
        exact ⟨by rw [← HR.out]; first | rfl | simp | (simp [*]; done), HB.out⟩
      · rw [if_neg c2] at hb
        have c2b : decide (m < 0) = false := decide_eq_false c2
        clear c2
        by_cases c3 : n ≤ x
        · rw [if_pos c3] at hb
          have c3b : decide (n ≤ x) = true := decide_eq_true c3
          clear c3
          have HR := Aside0.mk hb
          clear hb
          go_enter Try.func61, Try.ntmps61
          go_wp2_with fail
          go_ret
          exact ⟨by rw [← HR.out]; first | rfl | simp | (simp [*]; done), HB.out⟩
        · rw [if_neg c3] at hb
          have c3b : decide (n ≤ x) = false := decide_eq_false c3
          clear c3
          by_cases c4 : f0 = 0
          · rw [if_pos c4] at hb
            have c4b : (f0 == 0) = true := beq_iff_eq.mpr c4
            clear c4
            have HR := Aside0.mk hb
            clear hb
            go_enter Try.func61, Try.ntmps61
            go_wp2_with fail
            go_ret
            exact ⟨by rw [← HR.out]; first | rfl | simp | (simp [*]; done), HB.out⟩
          · rw [if_neg c4] at hb
            have c4b : (f0 == 0) = false := beq_eq_false_iff_ne.mpr c4
            by_cases c5 : f0 = 1
            · rw [if_pos c5] at hb
              have c5b : (f0 == 1) = true := beq_iff_eq.mpr c5
              clear c5
              have HR := Aside0.mk hb
              clear hb
              go_enter Try.func61, Try.ntmps61
              go_wp2_with fail
              go_ret
              exact ⟨by rw [← HR.out]; first | rfl | simp | (simp [*]; done), HB.out⟩
            · rw [if_neg c5] at hb
              have c5b : (f0 == 1) = false := beq_eq_false_iff_ne.mpr c5
              have HR := Aside0.mk hb
              clear hb
              go_enter Try.func61, Try.ntmps61
              go_wp2_with fail
              go_ret
              exact ⟨by rw [← HR.out]; first | rfl | simp | (simp [*]; done), HB.out⟩
/-- No order from i on is bad: as IndexFunc tells. -/
def idxB (n : Int) (l : List S45) : Nat → Nat → Int
  | 0, _ => -1
  | d + 1, i => if badO n (l.getD i z45) = true then (i : Int) else idxB n l d (i + 1)
theorem meas_i (n j : Nat) (x : Int) (hx : x = ((j + 1 : Nat) : Int)) (h : j < n) : n - (intOf (.int .i64 x)).toNat < n - (intOf (.int .i64 (j : Int))).toNat := by
  subst hx
  simp only [intOf, Int.toNat_natCast]
  omega
theorem idxB_yes (n : Int) (l : List S45) (i : Nat) (h : i < l.length) (hb : badO n (l.getD i z45) = true) : idxB n l (l.length - i) i = i := by
  rw [show l.length - i = (l.length - (i + 1)) + 1 by omega, idxB, if_pos hb]
theorem idxB_no (n : Int) (l : List S45) (i : Nat) (h : i < l.length) (hb : badO n (l.getD i z45) = false) : idxB n l (l.length - i) i = idxB n l (l.length - (i + 1)) (i + 1) := by
  rw [show l.length - i = (l.length - (i + 1)) + 1 by omega, idxB, if_neg (by rw [hb]; decide)]
theorem idxB_end (n : Int) (l : List S45) : idxB n l (l.length - l.length) l.length = -1 := by rw [Nat.sub_self]; rfl
set_option maxRecDepth 100000 in
set_option maxHeartbeats 8000000 in
theorem indexFunc.calls (n : Int) (A0 : Option Addr) (c0 : Nat) (l0 : List S45) (a : Addr) (w : World) (hr0 : Kd.C k45 w A0 l0.length l0) (hn : w.cell? a = some (.int .i64 n)) (hl : l0.length ≤ 8) (q : Int) (hq : idxB n l0 l0.length 0 = q) :
    Calls Try.prog 81 #[.slice A0 l0.length c0, .func (.func 61) #[] #[.pointer (some a)]] w fun e w' => e = .returned (.int .i64 q) ∧ Below w.heap.size w w' := by
  have hu45 := Try.underlying45
  have HR0 := Aside0.mk hr0
  have HN := Aside0.mk hn
  have HB := Aside0.mk (Below.refl w.heap.size w)
  have HQ := Aside0.mk hq
  clear hr0 hn hq
  go_enter Try.func81, Try.ntmps81
  go_wp2_with fail
  go_loopw [8] (fun v8 W => ∃ i : Nat, v8 = .int .i64 (i : Int) ∧ i ≤ l0.length ∧ Aside0 (idxB n l0 (l0.length - i) i = q) ∧ Aside0 (Below w.heap.size w W)) (fun v8 _ => l0.length - (intOf v8).toNat)
  case atStart => exact ⟨0, rfl, by omega, HQ, HB⟩
  case round =>
    obtain ⟨i, rfl, hi, HI, HW⟩ := hrel
    by_cases hil : i < l0.length
    · have hib : decide ((i : Int) < (l0.length : Int)) = true := decide_eq_true (by omega)
      have hip : ((i : Int) < (l0.length : Int)) = True := eq_true (by omega)
      have HWR : Aside0 (wrap64 ((i : Int) + 1) = ((i + 1 : Nat) : Int)) := ⟨by unfold wrap64; omega⟩
      obtain ⟨ad, rfl, e0, e1, e2, e3⟩ := at_T45 (Kd.C_below HR0.out HW.out) (i : Int) (by omega) (by omega)
      have HX : Aside0 (rd_T45 l0 (i : Int) = l0.getD i z45) := ⟨rfl⟩
      generalize rd_T45 l0 (i : Int) = x at e0 e1 e2 e3 HX
      have hNr := cell_keep HN.out HW.out
      simp only [Int.toNat_natCast] at e0 e1 e2 e3
      go_wp2_with fail
      refine (mach1.calls n x a _ hNr).mono ?_
      rintro e w1 ⟨rfl, hb⟩
      have HW1 := Aside0.mk (below_step HW.out hb)
      clear hb
      by_cases hbad : badO n x = true
      · have HI2 : Aside0 ((i : Int) = q) := ⟨(idxB_yes n l0 i hil (by rw [← HX.out]; exact hbad)).symm.trans HI.out⟩
        clear HX HI
        go_wp2_with fail
        go_ret
        exact ⟨by rw [← HI2.out]; rfl, HW1.out⟩
      · replace hbad := Bool.eq_false_iff.mpr hbad
        have HI2 : Aside0 (idxB n l0 (l0.length - (i + 1)) (i + 1) = q) := ⟨(idxB_no n l0 i hil (by rw [← HX.out]; exact hbad)).symm.trans HI.out⟩
        clear HX HI
        go_wp2_with fail
        exact ⟨⟨i + 1, by first | rw [HWR.out] | (congr 1 <;> omega), hil, HI2, HW1⟩, meas_i l0.length i _ (by first | exact HWR.out | omega) hil⟩
    · have hib : decide ((i : Int) < (l0.length : Int)) = false := decide_eq_false (by omega)
      have hip : ((i : Int) < (l0.length : Int)) = False := eq_false (by omega)
      obtain rfl : i = l0.length := by omega
      have HI2 : Aside0 ((-1 : Int) = q) := ⟨(idxB_end n l0).symm.trans HI.out⟩
      clear HI
      go_wp2_with fail
      go_ret
      exact ⟨by rw [← HI2.out]; rfl, HW.out⟩
theorem idxB_ge (n : Int) (l : List S45) : ∀ d i, i + d = l.length → decide (idxB n l d i ≥ 0) = (l.drop i).any (badO n) := by
  intro d
  induction d with
  | zero =>
    intro i hi
    rw [List.drop_eq_nil_of_le (by omega)]
    rfl
  | succ d ih =>
    intro i hi
    have hil : i < l.length := by omega
    rw [List.drop_eq_getElem_cons hil, List.any_cons, ← ih (i + 1) (by omega)]
    rw [idxB, show l.getD i z45 = l[i] by simp [hil]]
    by_cases h : badO n l[i] = true
    · rw [if_pos h, h]; simp
    · rw [if_neg h, Bool.eq_false_iff.mpr h]; simp
def isM (l : List S45) : Bool := decide (1 ≤ l.length) && (decide (l.length ≤ 8) && !(l.any (badO l.length)))
def tags_isMachine.f (l : List S45) : Option Bool := some (isM l)
set_option maxRecDepth 100000 in
set_option maxHeartbeats 8000000 in
theorem containsFunc.calls (n : Int) (A0 : Option Addr) (c0 : Nat) (l0 : List S45) (a : Addr) (w : World) (hr0 : Kd.C k45 w A0 l0.length l0) (hn : w.cell? a = some (.int .i64 n)) (hl : l0.length ≤ 8) :
    Calls Try.prog 60 #[.slice A0 l0.length c0, .func (.func 61) #[] #[.pointer (some a)]] w fun e w' => e = .returned (.bool (l0.any (badO n))) ∧ Below w.heap.size w w' := by
  have HI := Aside0.mk (idxB_ge n l0 l0.length 0 (by omega))
  have HR0 := Aside0.mk hr0
  have HN := Aside0.mk hn
  clear hr0 hn
  go_enter Try.func60, Try.ntmps60
  go_wp2_with fail
  refine (indexFunc.calls n A0 c0 l0 a _ HR0.out HN.out hl _ rfl).mono ?_
  rintro e w1 ⟨rfl, hb⟩
  have HB := Aside0.mk hb
  clear hb
  go_wp2_with fail
  go_ret
  exact ⟨by have := HI.out; rw [List.drop_zero] at this; rw [← this]; rfl, HB.out⟩
set_option maxRecDepth 100000 in
set_option maxHeartbeats 8000000 in
theorem tags_isMachine.calls (A0 : Option Addr) (c0 : Nat) (l0 : List S45) (r : Bool) (w : World) (hr0 : Kd.C k45 w A0 l0.length l0) (hc0 : l0.length ≤ c0) (h : tags_isMachine.f l0 = some r) :
    Calls Try.prog 40 #[.slice A0 l0.length c0] w fun e w' => e = .returned (.bool r) ∧ Below w.heap.size w w' := by
  have HR : Aside0 (isM l0 = r) := ⟨Option.some.inj h⟩
  have HR0 := Aside0.mk hr0
  have HB := Aside0.mk (below_alloc (Below.refl w.heap.size w) (.cells #[.int .i64 (l0.length : Int)] 3))
  have B3 := Aside0.mk (Box.new (Below.refl w.heap.size w) #[.int .i64 (l0.length : Int)] 3)
  clear hr0 hc0 h
  by_cases h1 : 1 ≤ l0.length
  · have h1b : decide (1 ≤ (l0.length : Int)) = true := decide_eq_true (by omega)
    have h1c : decide (1 ≤ l0.length) = true := decide_eq_true (by omega)
    have h1d : decide (0 < l0.length) = true := decide_eq_true (by omega)
    by_cases h8 : l0.length ≤ 8
    · have h8b : decide ((l0.length : Int) ≤ 8) = true := decide_eq_true (by omega)
      have h8c : decide (l0.length ≤ 8) = true := decide_eq_true (by omega)
      have HR2 : Aside0 ((!(l0.any (badO l0.length))) = r) := ⟨by rw [← HR.out]; unfold isM; rw [h1c, h8c]; simp⟩
      go_enter Try.func40, Try.ntmps40
      go_wp2_with fail
      refine (containsFunc.calls (l0.length : Int) A0 c0 l0 ⟨w.heap.size, 0, none⟩ _ (Kd.C_below HR0.out HB.out) (B3.out.cell 0 rfl) h8).mono ?_
      rintro e w1 ⟨rfl, hb⟩
      have HB1 := Aside0.mk (below_step HB.out hb)
      clear hb
      go_wp2_with fail
      go_ret
      exact ⟨by rw [← HR2.out]; rfl, HB1.out⟩
    · have h8b : decide ((l0.length : Int) ≤ 8) = false := decide_eq_false (by omega)
      have h8c : decide (l0.length ≤ 8) = false := decide_eq_false (by omega)
      have HR2 : Aside0 (false = r) := ⟨by rw [← HR.out]; unfold isM; rw [h8c]; simp⟩
      go_enter Try.func40, Try.ntmps40
      go_wp2_with fail
      go_ret
      exact ⟨by rw [← HR2.out]; rfl, HB.out⟩
  · have h1b : decide (1 ≤ (l0.length : Int)) = false := decide_eq_false (by omega)
    have h1c : decide (1 ≤ l0.length) = false := decide_eq_false (by omega)
    have h1d : decide (0 < l0.length) = false := decide_eq_false (by omega)
    have HR2 : Aside0 (false = r) := ⟨by rw [← HR.out]; unfold isM; rw [h1c]; simp⟩
    go_enter Try.func40, Try.ntmps40
    go_wp2_with fail
    go_ret
    exact ⟨by rw [← HR2.out]; rfl, HB.out⟩
end Go.Proofs.Ytmlbdkkdejecmaa.X
