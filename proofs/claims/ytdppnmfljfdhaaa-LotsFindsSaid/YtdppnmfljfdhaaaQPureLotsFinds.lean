/- Find returns the least plan that is good enough, or the documented error: for all chances, no conditions. -/
import Derived.Test.YtdppnmfljfdhaaaQMFind
import Derived.Test.YtdppnmfljfdhaaaQHFinds
set_option linter.unusedVariables false
set_option linter.unusedSimpArgs false
namespace Go.Proofs.Ytdppnmfljfdhaaa.Pure
open Go.RowKit Go.Proofs.Ytdppnmfljfdhaaa.X Go.Proofs.YtdppnmfljfdhaaaW.PrintWords Go.Proofs.YtdppnmfljfdhaaaW.PrintLast Go.Proofs.YtdppnmfljfdhaaaW.PrintMore

theorem LotsFinds (gy go by_ bo ry ro ay ao : Int) (_ : (Lit.int .i64 gy).wf = true) (_ : (Lit.int .i64 go).wf = true) (_ : (Lit.int .i64 by_).wf = true) (_ : (Lit.int .i64 bo).wf = true) (_ : (Lit.int .i64 ry).wf = true) (_ : (Lit.int .i64 ro).wf = true) (_ : (Lit.int .i64 ay).wf = true) (_ : (Lit.int .i64 ao).wf = true) :
    ∃ (k : Nat) (r1 r2 e0 : Int) (i1 i2 i3 i4 : Bool), FindIs k gy go by_ bo ry ro ay ao r1 r2 e0 ∧ comfitlaw02_awake.f k = some true ∧
    comfitref02_Is.f gy go = some i1 ∧ comfitref02_Is.f by_ bo = some i2 ∧ comfitref02_Is.f ry ro = some i3 ∧ comfitref02_Is.f ay ao = some i4 ∧
    ((i1 && i2 && i3 && i4) = false → r1 = 0 ∧ r2 = 0 ∧ e0 = 2) ∧ ((i1 && i2 && i3 && i4) = true → RFindIs k gy go by_ bo ry ro ay ao r1 r2 e0) := by
  obtain ⟨ka, haw⟩ := awake_ev
  by_cases h : okC gy go ∧ okC by_ bo ∧ okC ry ro ∧ okC ay ao
  · obtain ⟨hg, hb, hr, ha⟩ := h
    obtain ⟨k1, h1⟩ := find_yes hg hb hr ha
    obtain ⟨k2, h2⟩ := rfind_yes (ry := ry) (ro := ro) (ay := ay) (ao := ao) hg hb
    refine ⟨max ka (max k1 k2), _, _, _, true, true, true, true, h1 _ (by omega), haw _ (by omega), by rw [Is_ok, decide_eq_true hg], by rw [Is_ok, decide_eq_true hb], by rw [Is_ok, decide_eq_true hr], by rw [Is_ok, decide_eq_true ha], fun h => by simp at h, fun _ => h2 _ (by omega)⟩
  · refine ⟨ka, 0, 0, 2, _, _, _, _, find_no ka h, haw _ (by omega), Is_ok _ _, Is_ok _ _, Is_ok _ _, Is_ok _ _, fun _ => ⟨rfl, rfl, rfl⟩, fun hh => ?_⟩
    simp only [Bool.and_eq_true, decide_eq_true_eq] at hh
    exact absurd ⟨hh.1.1.1, hh.1.1.2, hh.1.2, hh.2⟩ h
end Go.Proofs.Ytdppnmfljfdhaaa.Pure
