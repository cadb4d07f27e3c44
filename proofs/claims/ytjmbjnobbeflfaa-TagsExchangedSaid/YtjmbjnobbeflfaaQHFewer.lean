/- The contract of tags.Fewer where it is given no machine: told for such arguments alone. -/
import Derived.Test.YtjmbjnobbeflfaaQHMach
set_option linter.unusedVariables false
set_option linter.unusedSimpArgs false
namespace Go.Proofs.Ytjmbjnobbeflfaa.X
open Go.RowKit Go.Proofs.YtjmbjnobbeflfaaW.PrintWords Go.Proofs.YtjmbjnobbeflfaaW.PrintLast Go.Proofs.YtjmbjnobbeflfaaW.PrintMore
attribute [local go_sem] Oper.semAt_some
def tags_Fewer.f (l : List S57) : Option (List S57 × Int) := if isM l = true then none else some ([], 2)
set_option maxRecDepth 100000 in
set_option maxHeartbeats 8000000 in
theorem tags_Fewer.calls (A0 : Option Addr) (c0 : Nat) (l0 : List S57) (r1 : List S57) (r2 : Int) (w : World) (hr0 : Kd.C k57 w A0 l0.length l0) (hc0 : l0.length ≤ c0) (h : tags_Fewer.f l0 = some (r1, r2)) :
    Calls Try.prog 23 #[.slice A0 l0.length c0] w fun e w' => ∃ v0_ : Value, e = .returned (.tuple #[v0_, .int .i64 r2]) ∧ Kd.R k57 57 w' w.heap.size (fun _ => True) v0_ r1 ∧ Below w.heap.size w w' := by
  have HR0 := Aside0.mk hr0
  have HB := Aside0.mk (below_alloc (Below.refl w.heap.size w) (.cells #[.slice A0 l0.length c0] 27))
  have B1 := Aside0.mk (Box.new (Below.refl w.heap.size w) #[.slice A0 l0.length c0] 27)
  unfold tags_Fewer.f at h
  by_cases hm : isM l0 = true
  · rw [if_pos hm] at h
    exact absurd h (by simp)
  · rw [if_neg hm] at h
    have hm' := Bool.eq_false_iff.mpr hm
    have HM : Aside0 (tags_isMachine.f l0 = some false) := ⟨by unfold tags_isMachine.f; rw [hm']⟩
    obtain ⟨rfl, rfl⟩ := Prod.mk.inj (Option.some.inj h)
    clear h hm hm' hr0
    have HC0 := Aside0.mk hc0
    clear hc0
    go_enter Try.func23, Try.ntmps23
    go_wp2_with fail
    refine (tags_isMachine.calls A0 c0 l0 false _ (Kd.C_below HR0.out HB.out) HC0.out HM.out).mono ?_
    rintro e w1 ⟨rfl, hb⟩
    replace HB := Aside0.mk (below_step HB.out hb)
    clear hb
    go_wp2_with fail
    go_ret2
    exact ⟨_, rfl, Kd.R_nil _ _ _ _ _, HB.out⟩
end Go.Proofs.Ytjmbjnobbeflfaa.X
