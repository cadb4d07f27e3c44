/- The contract of folds.places.cross: whether two creases of one side cross. -/
import Derived.Test.YtmlbdkkdejecmaaDoorQHBoxes
import Derived.Test.YtmlbdkkdejecmaaDoorQXF
set_option linter.unusedVariables false
set_option linter.unusedSimpArgs false
namespace Go.Proofs.YtmlbdkkdejecmaaDoor.X
open Go.RowKit Go.Proofs.YtmlbdkkdejecmaaDoorW.PrintWords Go.Proofs.YtmlbdkkdejecmaaDoorW.PrintLast Go.Proofs.YtmlbdkkdejecmaaDoorW.PrintMore
attribute [local go_sem] Oper.semAt_some
def inn (lo hi x : Int) : Bool := decide (lo < x) && decide (x < hi)
set_option maxRecDepth 100000 in
set_option maxHeartbeats 8000000 in
theorem within.calls (lo hi x : Int) (p q : Addr) (w : World) (hp : w.cell? p = some (.int .i64 lo)) (hq : w.cell? q = some (.int .i64 hi)) :
    Calls Tryd.prog 40 #[.int .i64 x, .pointer (some p), .pointer (some q)] w fun e w' => e = .returned (.bool (inn lo hi x)) ∧ Below w.heap.size w w' := by
  unfold inn
  go_enter Tryd.func40, Tryd.ntmps40
  by_cases h : lo < x
  · have hb : decide (lo < x) = true := decide_eq_true h
    have ht : (lo < x) = True := eq_true h
    clear h
    go_wp2_with fail
    go_ret
    exact ⟨by rw [hb]; first | rfl | simp, by repeat (first | exact Below.refl _ _ | apply pw_below_drewN | apply below_drew1)⟩
  · have hb : decide (lo < x) = false := decide_eq_false h
    have ht : (lo < x) = False := eq_false h
    clear h
    go_wp2_with fail
    go_ret
    exact ⟨by rw [hb]; first | rfl | simp, by repeat (first | exact Below.refl _ _ | apply pw_below_drewN | apply below_drew1)⟩
def folds_places_cross.f (l : List Int) (a b s a' b' s' : Int) : Option Bool := if s = s' then (folds_places_span.f l a b s).bind fun lh => (folds_places_span.f l a' b' s').bind fun pq => some (inn lh.1 lh.2 pq.1 != inn lh.1 lh.2 pq.2) else some false
set_option maxRecDepth 100000 in
set_option maxHeartbeats 8000000 in
theorem folds_places_cross.calls (A0 : Option Addr) (c0 : Nat) (l0 : List Int) (a1_0 a1_1 a1_2 a2_0 a2_1 a2_2 : Int) (r : Bool) (w : World) (hr0 : Kd.C (Kd.int .i64) w A0 l0.length l0) (hc0 : l0.length ≤ c0) (h : folds_places_cross.f l0 a1_0 a1_1 a1_2 a2_0 a2_1 a2_2 = some r) :
    Calls Tryd.prog 28 #[.slice A0 l0.length c0, .agg #[.int .i64 a1_0, .int .i64 a1_1, .int .i64 a1_2], .agg #[.int .i64 a2_0, .int .i64 a2_1, .int .i64 a2_2]] w fun e w' => e = .returned (.bool r) ∧ Below w.heap.size w w' := by
  have hu51 := Tryd.underlying51
  have HR := Aside0.mk hr0
  have HC := Aside0.mk hc0
  clear hr0 hc0
  have HB := Aside0.mk (below_alloc (below_alloc (Below.refl w.heap.size w) (.cells #[.int .i64 a1_0, .int .i64 a1_1, .int .i64 a1_2] 51)) (.cells #[.int .i64 a2_0, .int .i64 a2_1, .int .i64 a2_2] 51))
  have B4 := Aside0.mk ((Box.new (Below.refl w.heap.size w) #[.int .i64 a1_0, .int .i64 a1_1, .int .i64 a1_2] 51).alloc (.cells #[.int .i64 a2_0, .int .i64 a2_1, .int .i64 a2_2] 51))
  have B5 := Aside0.mk (Box.new (below_alloc (Below.refl w.heap.size w) (.cells #[.int .i64 a1_0, .int .i64 a1_1, .int .i64 a1_2] 51)) #[.int .i64 a2_0, .int .i64 a2_1, .int .i64 a2_2] 51)
  rw [World.size_alloc] at B5
  have f40_ := B4.out.cell 0 rfl
  have f41_ := B4.out.cell 1 rfl
  have f42_ := B4.out.cell 2 rfl
  have f50_ := B5.out.cell 0 rfl
  have f51_ := B5.out.cell 1 rfl
  have f52_ := B5.out.cell 2 rfl
  unfold folds_places_cross.f at h
  by_cases hs : a1_2 = a2_2
  · rw [if_pos hs] at h
    subst hs
    obtain ⟨⟨lo, hi⟩, h1, h⟩ := Option.bind_eq_some_iff.mp h
    obtain ⟨⟨p, q⟩, h2, h⟩ := Option.bind_eq_some_iff.mp h
    have h3 := Option.some.inj h
    dsimp only at h3
    have H1 := Aside0.mk h1
    have H2 := Aside0.mk h2
    have H3 := Aside0.mk h3
    clear h h1 h2 h3
    go_enter Tryd.func28, Tryd.ntmps28
    go_wp2_with fail
    refine (folds_places_span.calls A0 c0 l0 a1_0 a1_1 a1_2 lo hi _ (Kd.C_below HR.out HB.out) HC.out H1.out).mono ?_
    rintro e w2 ⟨rfl, hb⟩
    clear f40_ f41_ f42_ f50_ f51_ f52_
    replace HB := Aside0.mk (below_step HB.out hb)
    have B7 := Aside0.mk ((Box.new (w0 := w) HB.out #[.int .i64 lo] 3).alloc (.cells #[.int .i64 hi] 3))
    have B8 := Aside0.mk (Box.new (w0 := w) (below_alloc HB.out (.cells #[.int .i64 lo] 3)) #[.int .i64 hi] 3)
    rw [World.size_alloc] at B8
    replace B5 := Aside0.mk (((B5.out.below hb).alloc (.cells #[.int .i64 lo] 3)).alloc (.cells #[.int .i64 hi] 3))
    replace HB := Aside0.mk (below_alloc (below_alloc HB.out (.cells #[.int .i64 lo] 3)) (.cells #[.int .i64 hi] 3))
    clear hb B4
    have f50_ := B5.out.cell 0 rfl
    have f51_ := B5.out.cell 1 rfl
    have f52_ := B5.out.cell 2 rfl
    go_wp2_with fail
    refine (folds_places_span.calls A0 c0 l0 a2_0 a2_1 a1_2 p q _ (Kd.C_below HR.out HB.out) HC.out H2.out).mono ?_
    rintro e w3 ⟨rfl, hb⟩
    clear f50_ f51_ f52_ B5
    replace B7 := Aside0.mk (B7.out.below hb)
    replace B8 := Aside0.mk (B8.out.below hb)
    replace HB := Aside0.mk (below_step HB.out hb)
    clear hb
    go_wp2_with fail
    refine (within.calls lo hi p _ _ _ (B7.out.cell 0 rfl) (B8.out.cell 0 rfl)).mono ?_
    rintro e w4 ⟨rfl, hb⟩
    replace B7 := Aside0.mk (B7.out.below hb)
    replace B8 := Aside0.mk (B8.out.below hb)
    replace HB := Aside0.mk (below_step HB.out hb)
    clear hb
    go_wp2_with fail
    refine (within.calls lo hi q _ _ _ (B7.out.cell 0 rfl) (B8.out.cell 0 rfl)).mono ?_
    rintro e w5 ⟨rfl, hb⟩
    replace HB := Aside0.mk (below_step HB.out hb)
    clear hb
    go_wp2_with fail
    go_ret
    exact ⟨by rw [← H3.out]; first | rfl | simp, HB.out⟩
  · rw [if_neg hs] at h
    have h3 := Option.some.inj h
    subst h3
    clear h
    have hsb : (a1_2 == a2_2) = false := beq_eq_false_iff_ne.mpr hs
    have hsn : (a1_2 != a2_2) = true := bne_iff_ne.mpr hs
    go_enter Tryd.func28, Tryd.ntmps28
    go_wp2_with fail
    go_ret
    exact ⟨by first | rfl | simp, HB.out⟩
end Go.Proofs.YtmlbdkkdejecmaaDoor.X
