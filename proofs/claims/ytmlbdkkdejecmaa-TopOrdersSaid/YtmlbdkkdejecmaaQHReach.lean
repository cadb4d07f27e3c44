/- The contract of fixes.Reach: the states from which a set is reached. -/
import Derived.Test.YtmlbdkkdejecmaaQHWhere
import Derived.Test.YtmlbdkkdejecmaaQXW
set_option linter.unusedVariables false
set_option linter.unusedSimpArgs false
namespace Go.Proofs.Ytmlbdkkdejecmaa.X
open Go.RowKit Go.Proofs.YtmlbdkkdejecmaaW.PrintWords Go.Proofs.YtmlbdkkdejecmaaW.PrintLast Go.Proofs.YtmlbdkkdejecmaaW.PrintMore
attribute [local go_sem] Oper.semAt_some
/-- Does a state lead into a set? -/
def leads (l : List Int) (o : Int) (i : Nat) : Bool := Go.bits .and .i64 (rd l (i : Int)) o != 0
def reachN (l : List Int) : Nat → Int → Int
  | 0, o => o
  | d + 1, o => reachN l d (Go.bits .or .i64 o (whB (leads l o) l.length 0 0))
theorem reachN_step (l : List Int) (n i : Nat) (o : Int) (h : i < n) : reachN l (n - i) o = reachN l (n - (i + 1)) (Go.bits .or .i64 o (whB (leads l o) l.length 0 0)) := by
  rw [show n - i = (n - (i + 1)) + 1 by omega, reachN]
def fixes_Reach.f (k : Nat) (l0 l1 : List Int) (a : Int) : Option (Int × Int) := (fixes_Works_isSet.f k l0 l1 a).bind fun t => if t = true then some (reachN l0 l0.length a, 0) else some (0, 2)
theorem isSet_len (k : Nat) (l0 l1 : List Int) (a : Int) (h : fixes_Works_isSet.f k l0 l1 a = some true) : l0.length ≤ 6 := by
  unfold fixes_Works_isSet.f at h
  obtain ⟨t, ht, h⟩ := Option.bind_eq_some_iff.mp h
  cases t with
  | false => simp at h
  | true =>
    unfold fixes_Works_valid.f at ht
    by_cases h1 : (l0.length : Int) ≥ 1
    · rw [if_pos h1] at ht
      by_cases h2 : (l0.length : Int) ≤ 6
      · omega
      · rw [if_neg h2] at ht; simp at ht
    · rw [if_neg h1] at ht; simp at ht
set_option maxRecDepth 100000 in
set_option maxHeartbeats 8000000 in
theorem reach1.calls (A0 : Option Addr) (l0 : List Int) (c0 g2 g3 : Nat) (o : Int) (i : Nat) (W : World) (hr : Kd.C (Kd.int .i64) W A0 l0.length l0) (hi : i < l0.length) (h2 : W.cell? ⟨g2, 0, none⟩ = some (.slice A0 l0.length c0)) (h3 : W.cell? ⟨g3, 0, none⟩ = some (.int .i64 o)) :
    Calls Try.prog 64 #[.int .i64 (i : Int), .pointer (some ⟨g2, 0, none⟩), .pointer (some ⟨g3, 0, none⟩)] W fun e W' => e = .returned (.bool (leads l0 o i)) ∧ Below W.heap.size W W' := by
  have hib : decide ((i : Int) < (l0.length : Int)) = true := decide_eq_true (by omega)
  have hip : ((i : Int) < (l0.length : Int)) = True := eq_true (by omega)
  have hi0 : decide (0 ≤ (i : Int)) = true := decide_eq_true (by omega)
  obtain ⟨ad, rfl, e0⟩ := Kd.at_int hr (i : Int) (by omega) (by omega)
  unfold leads
  generalize rd l0 (i : Int) = x at e0 ⊢
  simp only [Int.toNat_natCast] at e0
  clear hr
  go_enter Try.func64, Try.ntmps64
  go_wp2_with fail
  go_quiet (fail)
  go_wp2_with fail
  go_ret
  exact ⟨by first | rfl | simp, by repeat (first | exact Below.refl _ _ | apply pw_below_drewN | apply below_drew1)⟩
def PS3 (g2 g3 : Nat) (s0 s1 : Value) (o : Int) (W : World) : Prop := W.cell? ⟨g2, 0, none⟩ = some s0 ∧ W.cell? ⟨g2, 1, none⟩ = some s1 ∧ W.cell? ⟨g3, 0, none⟩ = some (.int .i64 o)
theorem cell_keep3 {w : World} {W1 : World} {a : Addr} {u : Value} (h : w.cell? a = some u) (hb : Below w.heap.size w W1) : W1.cell? a = some u := (hb.cell (World.block_lt_of_cell? w _ h)).trans h
theorem PS3.below {g2 g3 : Nat} {s0 s1 : Value} {o : Int} {W W1 : World} (h : PS3 g2 g3 s0 s1 o W) (hb : Below W.heap.size W W1) : PS3 g2 g3 s0 s1 o W1 := ⟨cell_keep3 h.1 hb, cell_keep3 h.2.1 hb, cell_keep3 h.2.2 hb⟩
def reaT.T5 : Bool × List (List Nat × List Nat) := (true, [([], []), ([], []), ([], []), ([1, 2], [1, 2]), ([0, 3], [0, 3]), ([4, 3, 0, 1, 2, 3, 4], [4])])
def reaT.B5 : List Nat := [0, 0, 0, 6, 15, 31]
theorem reaT.tab5 : rtab .any (opsOf Try.f42 5) = reaT.T5 := by kernel_rfl
theorem reaT.bits5 : waitsOk reaT.T5.2 reaT.B5 = true := by kernel_rfl
set_option maxRecDepth 100000 in
set_option maxHeartbeats 8000000 in
theorem fixes_Reach.calls (k : Nat) (A0 : Option Addr) (c0 : Nat) (l0 : List Int) (A1 : Option Addr) (c1 : Nat) (l1 : List Int) (a : Int) (r1 r2 : Int) (w : World) (hr0 : Kd.C (Kd.int .i64) w A0 l0.length l0) (hc0 : l0.length ≤ c0) (hr1 : Kd.C (Kd.int .i64) w A1 l1.length l1) (hc1 : l1.length ≤ c1) (h : fixes_Reach.f k l0 l1 a = some (r1, r2)) :
    Calls Try.prog 42 #[.agg #[.slice A0 l0.length c0, .slice A1 l1.length c1], .int .i64 a] w fun e w' => e = .returned (.tuple #[.int .i64 r1, .int .i64 r2]) ∧ Below w.heap.size w w' := by
  have HR0 := Aside0.mk hr0
  have HR1 := Aside0.mk hr1
  have HC := Aside0.mk (And.intro hc0 hc1)
  clear hr0 hr1 hc0 hc1
  unfold fixes_Reach.f at h
  replace h := Option.bind_eq_some_iff.mp h
  obtain ⟨tv, ht, h⟩ := h
  have HT := Aside0.mk ht
  clear ht
  have HB0 := Aside0.mk (Below.refl w.heap.size w)
  have HB1 := Aside0.mk (below_alloc HB0.out (.cells #[.slice A0 l0.length c0, .slice A1 l1.length c1] 73))
  have HB := Aside0.mk (below_alloc HB1.out (.cells #[.int .i64 a] 3))
  have B2 := Aside0.mk ((Box.new HB0.out #[.slice A0 l0.length c0, .slice A1 l1.length c1] 73).alloc (.cells #[.int .i64 a] 3))
  have B3 := Aside0.mk (Box.new HB1.out #[.int .i64 a] 3)
  simp only [World.size_alloc] at B3
  have c20 := B2.out.cell 0 rfl
  have c21 := B2.out.cell 1 rfl
  have c30 := B3.out.cell 0 rfl
  go_enter Try.func42, Try.ntmps42
  go_wp2_with fail
  refine (fixes_Works_isSet.calls k A0 c0 l0 A1 c1 l1 a tv _ (Kd.C_below HR0.out HB.out) HC.out.1 (Kd.C_below HR1.out HB.out) HC.out.2 HT.out).mono ?_
  rintro e w1 ⟨rfl, hb⟩
  replace HB := Aside0.mk (below_step HB.out hb)
  replace B2 := Aside0.mk (B2.out.below hb)
  replace B3 := Aside0.mk (B3.out.below hb)
  clear hb c20 c21 c30 HB0 HB1
  cases tv with
  | false =>
    obtain ⟨rfl, rfl⟩ : 0 = r1 ∧ 2 = r2 := by simpa using h
    clear h
    go_wp2_with fail
    go_ret2
    exact ⟨rfl, HB.out⟩
  | true =>
    have HL := Aside0.mk (isSet_len k l0 l1 a HT.out)
    rw [if_pos rfl] at h
    obtain ⟨hq, rfl⟩ : reachN l0 l0.length a = r1 ∧ 0 = r2 := by simpa using h
    have HQ := Aside0.mk hq
    clear hq h HT
    have c20 := B2.out.cell 0 rfl
    go_wp2_with fail
    go_loopw [13] (fun v13 W => ∃ (i : Nat) (o : Int), v13 = .int .i64 (i : Int) ∧ i ≤ l0.length ∧ Aside0 (reachN l0 (l0.length - i) o = r1) ∧ Aside0 (Box w w.heap.size #[.slice A0 l0.length c0, .slice A1 l1.length c1] 73 W) ∧ Aside0 (Box w (w.heap.size + 1) #[.int .i64 o] 3 W) ∧ Aside0 (Below w.heap.size w W)) (fun v13 _ => l0.length - (intOf v13).toNat)
    case atStart => exact ⟨0, a, rfl, by omega, HQ, B2, B3, HB⟩
    case round =>
      clear c20 B2 B3 HB HQ
      obtain ⟨i, o, rfl, hi, HI, B2, B3, HW⟩ := hrel
      by_cases hil : i < l0.length
      · have hib : decide ((i : Int) < (l0.length : Int)) = true := decide_eq_true (by omega)
        have hip : ((i : Int) < (l0.length : Int)) = True := eq_true (by omega)
        have HWR : Aside0 (wrap64 ((i : Int) + 1) = ((i + 1 : Nat) : Int)) := ⟨by have := HL.out; unfold wrap64; omega⟩
        have HI2 := Aside0.mk ((reachN_step l0 l0.length i o hil).symm.trans HI.out)
        obtain ⟨x, hx⟩ : ∃ x, whB (leads l0 o) l0.length 0 0 = x := ⟨_, rfl⟩
        rw [hx] at HI2
        have HX := Aside0.mk hx
        clear hx HI
        go_wp2_with fail
        replace HW := Aside0.mk (HW.out.trans (below_drew (Below.refl _ _)))
        replace B2 := Aside0.mk B2.out.drew
        replace B3 := Aside0.mk B3.out.drew
        refine start_ (n := 6) (S := PS3 w.heap.size (w.heap.size + 1) (.slice A0 l0.length c0) (.slice A1 l1.length c1) o) (ds := [5]) #[false, false, false, false, false, false] (by kernel_rfl) rfl rfl ⟨B2.out.cell 0 rfl, B2.out.cell 1 rfl, B3.out.cell 0 rfl⟩ (fun hHeld => ?_)
        refine with_tabW reaT.tab5 reaT.bits5 (fun HT_ HW_ => ?_)
        generalize (World.drew _) = Wd at HW B2 B3 hHeld ⊢
        refine take_ (i := 0) (N := some 15) (v := ?_) (a' := ?_) #[true, false, false, false, false, false] rfl rfl (take_ofW HT_.out HW_.out (by kernel_rfl)) (fun _ _ _ h => h) (Or.inl ⟨by rfl, ?_⟩) hHeld ?_ ?_
        rotate_left
        · rintro w' ⟨s0, s1, s2⟩
          go_simp
          with_reducible rfl
        rotate_left
        · simp only [Act.put, List.setIfInBounds_toArray, List.set_cons_zero, List.set_cons_succ, i64_w, i32_w]
          rfl
        refine take_ (i := 1) (N := some 16) (v := ?_) (a' := ?_) #[true, true, false, false, false, false] rfl rfl (take_ofW HT_.out HW_.out (by kernel_rfl)) (fun _ _ _ h => h) (Or.inl ⟨by rfl, ?_⟩) hHeld ?_ ?_
        rotate_left
        · rintro w' ⟨s0, s1, s2⟩
          go_simp
          with_reducible rfl
        rotate_left
        · simp only [Act.put, List.setIfInBounds_toArray, List.set_cons_zero, List.set_cons_succ, i64_w, i32_w]
          rfl
        refine pure_ (i := 2) (N := some 17) (v := ?_) (a' := ?_) #[true, true, true, false, false, false] rfl rfl (any_of HT_.out (by kernel_rfl)) (fun _ _ _ h => h) (Or.inl ⟨by rfl, ?_⟩) ?_ ?_
        rotate_left
        · intro w'
          go_simp
          with_reducible rfl
        rotate_left
        · simp only [Act.put, List.setIfInBounds_toArray, List.set_cons_zero, List.set_cons_succ, i64_w, i32_w]
          rfl
        refine one_ (i := 3) (N := some 18) #[true, true, true, true, false, false] rfl rfl (one_of HT_.out (by kernel_rfl)) (by decide) (fun K hK => ?_)
        refine goes_ Try.func63 (by kernel_rfl) rfl #[.agg #[.slice A0 l0.length c0, .slice A1 l1.length c1], .func (.func 64) #[] #[.pointer (some ⟨w.heap.size, 0, none⟩), .pointer (some ⟨w.heap.size + 1, 0, none⟩)]] (by rfl) rfl rfl (by (try simp only [List.map_toArray, List.map_cons, List.map_nil]); first | done | rfl | (simp only [List.length_drop, List.length_take]; rfl)) ?_
        refine (where64.calls A0 A1 l0 l1 c0 c1 ⟨w.heap.size, 0, none⟩ ⟨w.heap.size + 1, 0, none⟩ (leads l0 o) _ HL.out (fun W5 h5 j hj => reach1.calls A0 l0 c0 _ _ o j W5 (Kd.C_below HR0.out (below_step HW.out h5)) hj ((B2.out.below h5).cell 0 rfl) ((B3.out.below h5).cell 0 rfl)) x HX.out).mono ?_
        rintro e wr1 ⟨rfl, hb⟩
        refine ⟨_, rfl, ?_⟩
        replace HW := Aside0.mk (below_step HW.out hb)
        replace B2 := Aside0.mk (B2.out.below hb)
        replace B3 := Aside0.mk (B3.out.below hb)
        refine hK.out _ _ (PS3.below hHeld hb) (fun hHeld => ?_)
        clear hK K hb
        refine norm_ (a' := ?_) ?_ ?_
        rotate_left
        · show Act.put _ (some 18) _ = _
          simp only [Act.put, List.setIfInBounds_toArray, List.set_cons_zero, List.set_cons_succ, i64_w, i32_w]
          rfl
        refine pure_ (i := 4) (N := some 19) (v := ?_) (a' := ?_) #[true, true, true, true, true, false] rfl rfl (any_of HT_.out (by kernel_rfl)) (fun _ _ _ h => h) (Or.inl ⟨by rfl, ?_⟩) ?_ ?_
        rotate_left
        · intro w'
          go_simp
          with_reducible rfl
        rotate_left
        · simp only [Act.put, List.setIfInBounds_toArray, List.set_cons_zero, List.set_cons_succ, i64_w, i32_w]
          rfl
        refine last_ (i := 5) (N := none) #[true, true, true, true, true, true] rfl rfl (one_of HT_.out (by kernel_rfl)) (by decide) (fun K hK => ?_)
        have hs0_ := B3.out.cell 0 rfl
        have fs0_ := B3.out.frozen 0
        refine skip_ (w1 := ?_) (by rfl) rfl ?_ ?_
        rotate_left
        · go_simp
          rfl
        refine hK.out _ _ ?_
        clear hK K
        refine done_ (done_of HT_.out (by kernel_rfl)) ?_
        clear hs0_ fs0_
        have B2n := Aside0.mk (B2.out.far (p := ⟨w.heap.size + 1, 0, none⟩) (by show w.heap.size ≠ w.heap.size + 1; omega) (.int .i64 (Go.bits .or .i64 o x)))
        have B3n := Aside0.mk (B3.out.put 0 (.int .i64 (Go.bits .or .i64 o x)))
        have HWn := Aside0.mk (below_set' (p := ⟨w.heap.size + 1, 0, none⟩) HW.out (by show w.heap.size ≤ w.heap.size + 1; omega) (.int .i64 (Go.bits .or .i64 o x)))
        generalize (World.setCell _ _ _) = We at B2n B3n HWn ⊢
        go_wp2_with fail
        exact ⟨⟨i + 1, _, by first | rw [HWR.out] | (congr 1 <;> omega), hil, HI2, B2n, B3n, HWn⟩, meas_w l0.length i _ (by first | exact HWR.out | omega) hil⟩
      · have hib : decide ((i : Int) < (l0.length : Int)) = false := decide_eq_false (by omega)
        have hip : ((i : Int) < (l0.length : Int)) = False := eq_false (by omega)
        obtain rfl : i = l0.length := by omega
        have HI2 : Aside0 (o = r1) := ⟨by have := HI.out; rw [Nat.sub_self] at this; exact this⟩
        clear HI
        have c30 := B3.out.cell 0 rfl
        go_wp2_with fail
        go_ret2
        exact ⟨by rw [← HI2.out]; rfl, HW.out⟩
end Go.Proofs.Ytmlbdkkdejecmaa.X
