/- A plan turned twice does what it does: for every plan and all items, no conditions. -/
import Derived.Test.YtdppnmfljfdhaaaMTurn
set_option linter.unusedVariables false
set_option linter.unusedSimpArgs false
namespace Go.Proofs.Ytdppnmfljfdhaaa.Pure
open Go.RowKit Go.Proofs.Ytdppnmfljfdhaaa.X Go.Proofs.YtdppnmfljfdhaaaW.PrintWords Go.Proofs.YtdppnmfljfdhaaaW.PrintLast Go.Proofs.YtdppnmfljfdhaaaW.PrintMore

theorem LotsTwice (l0 l1 : List Int) (it : List Bool) (_ : l0.length ≤ maxLen) (_ : ∀ x ∈ l0, (Lit.int .i64 x).wf = true) (_ : l1.length ≤ maxLen) (_ : ∀ x ∈ l1, (Lit.int .i64 x).wf = true) (_ : it.length ≤ maxLen) :
    ∃ (k : Nat) (q0 q1 : List Int) (e0 : Int), comfitlaw02_Of.f l0 l1 = some (l0.take 15, l1.take 15) ∧ lots_Turn.f k (l0.take 15) (l1.take 15) = some (q0, q1, e0) ∧ comfitlaw02_awake.f k = some true ∧
      (e0 = 2 ∨ (e0 = 0 ∧ comfitref02_Valid.f k l0 l1 = some true ∧ slices_Clone_bool_bool.f (it.take (mn (it.length : Int) 15).toNat) = some (it.take 15) ∧
      ∃ (x0 x1 : List Int) (n : Int) (ok : Bool) (e3 : Int), lots_Turn.f k q0 q1 = some (x0, x1, 0) ∧ comfitref02_Valid.f k x0 x1 = some true ∧ x0.length = l0.length ∧
        lots_Run.f k (l0.take 15) (l1.take 15) (it.take 15) = some (n, ok, e3) ∧ lots_Run.f k x0 x1 (it.take 15) = some (n, ok, e3) ∧ (e3 = 0 ∨ e3 = 2))) := by
  obtain ⟨ka, haw⟩ := awake_ev
  cases ho : okP l0 l1 with
  | false =>
    obtain ⟨kt, ht⟩ := Turn_no (l0 := l0.take 15) (l1 := l1.take 15) (by rw [okP_take]; exact ho)
    exact ⟨max ka kt, [], [], 2, Of_ok l0 l1, ht _ (by omega), haw _ (by omega), Or.inl rfl⟩
  | true =>
    have ok := (okP_iff l0 l1).1 ho
    obtain ⟨e0, e1⟩ := take_ok ok
    have hm := ok.most
    have okq := Ok_turn ok
    have okx := Ok_turn okq
    have hcl := cloneB_ok it
    rw [if_pos (by unfold mn; split <;> omega), if_pos (by unfold mn; split <;> omega)] at hcl
    obtain ⟨k1, h1⟩ := Turn_ev ok
    obtain ⟨k2, h2⟩ := Turn_ev okq
    obtain ⟨k3, h3⟩ := ref_valid_ev l0 l1
    obtain ⟨k4, h4⟩ := ref_valid_ev (tuT (tuT l0 l1) (tuL l0)) (tuL (tuT l0 l1))
    rw [ho] at h3
    rw [(okP_iff _ _).2 okx] at h4
    have hxl : (tuT (tuT l0 l1) (tuL l0)).length = l0.length := by rw [tuT_length, tuT_length]
    by_cases hit : it.length = l0.length
    · have et : it.take 15 = it := List.take_of_length_le (by omega)
      obtain ⟨k5, h5⟩ := Run_ev ok it hit
      obtain ⟨k6, h6⟩ := Run_ev okx it (by rw [hxl]; exact hit)
      rw [run_twice ok it 0 0 (by omega) (by omega) (by omega)] at h6
      refine ⟨max ka (max k1 (max k2 (max k3 (max k4 (max k5 k6))))), tuT l0 l1, tuL l0, 0, Of_ok l0 l1, ?_, haw _ (by omega), Or.inr ⟨rfl, h3 _ (by omega), hcl, tuT (tuT l0 l1) (tuL l0), tuL (tuT l0 l1), (run l0 l1 it 0 0).1, (run l0 l1 it 0 0).2, 0, h2 _ (by omega), h4 _ (by omega), hxl, ?_, ?_, Or.inl rfl⟩⟩
      · rw [e0, e1]; exact h1 _ (by omega)
      · rw [e0, e1, et]; exact h5 _ (by omega)
      · rw [et]; exact h6 _ (by omega)
    · have hno : (it.take 15).length ≠ l0.length := by rw [List.length_take]; omega
      obtain ⟨k5, h5⟩ := Run_no l0 l1 (it.take 15) (Or.inr hno)
      obtain ⟨k6, h6⟩ := Run_no (tuT (tuT l0 l1) (tuL l0)) (tuL (tuT l0 l1)) (it.take 15) (Or.inr (by rw [hxl]; exact hno))
      refine ⟨max ka (max k1 (max k2 (max k3 (max k4 (max k5 k6))))), tuT l0 l1, tuL l0, 0, Of_ok l0 l1, ?_, haw _ (by omega), Or.inr ⟨rfl, h3 _ (by omega), hcl, tuT (tuT l0 l1) (tuL l0), tuL (tuT l0 l1), 0, false, 2, h2 _ (by omega), h4 _ (by omega), hxl, ?_, ?_, Or.inr rfl⟩⟩
      · rw [e0, e1]; exact h1 _ (by omega)
      · rw [e0, e1]; exact h5 _ (by omega)
      · exact h6 _ (by omega)
end Go.Proofs.Ytdppnmfljfdhaaa.Pure
