/- With good and bad exchanged the turned plan is left just where the plan is taken, after as many items; both chances sum to one: for every plan, chance and all items, no conditions. -/
import Derived.Test.YtdppnmfljfdhaaaMTurned
set_option linter.unusedVariables false
set_option linter.unusedSimpArgs false
namespace Go.Proofs.Ytdppnmfljfdhaaa.Pure
open Go.RowKit Go.Proofs.Ytdppnmfljfdhaaa.X Go.Proofs.YtdppnmfljfdhaaaW.PrintWords Go.Proofs.YtdppnmfljfdhaaaW.PrintLast Go.Proofs.YtdppnmfljfdhaaaW.PrintMore

theorem unit_of (a b : Int) (h1 : 1 ≤ b) (h2 : b ≤ 17592186044416) (h3 : 0 ≤ a) (h4 : a ≤ b) : comfitlaw02_unit.f a b = some true := by
  unfold comfitlaw02_unit.f
  rw [if_pos h1, if_pos h2, if_pos h3, decide_eq_true h4]
theorem LotsTurned (l0 l1 : List Int) (y o : Int) (it : List Bool) (_ : l0.length ≤ maxLen) (_ : ∀ x ∈ l0, (Lit.int .i64 x).wf = true) (_ : l1.length ≤ maxLen) (_ : ∀ x ∈ l1, (Lit.int .i64 x).wf = true) (_ : (Lit.int .i64 y).wf = true) (_ : (Lit.int .i64 o).wf = true) (_ : it.length ≤ maxLen) :
    ∃ (k : Nat) (q0 q1 : List Int) (e0 : Int), comfitlaw02_Of.f l0 l1 = some (l0.take 15, l1.take 15) ∧ lots_Turn.f k (l0.take 15) (l1.take 15) = some (q0, q1, e0) ∧ comfitlaw02_awake.f k = some true ∧
      (e0 = 2 ∨ (e0 = 0 ∧ comfitref02_Valid.f k l0 l1 = some true ∧ comfitref02_Valid.f k q0 q1 = some true ∧ q0.length = l0.length ∧ slices_Clone_bool_bool.f (it.take (mn (it.length : Int) 15).toNat) = some (it.take 15) ∧
      ∃ (u0 u1 : List Int) (n : Int) (ok : Bool) (m : Int) (is : Bool) (e3 : Int) (okc : Bool), lots_Run.f k (l0.take 15) (l1.take 15) (it.take 15) = some (n, ok, e3) ∧ comfitlaw02_Of.f q0 q1 = some (u0, u1) ∧ lots_Run.f k u0 u1 ((it.take (mn (it.length : Int) 15).toNat).map (fun x => !x)) = some (m, is, e3) ∧ ((e3 = 0 ∧ n = m ∧ is = !ok) ∨ e3 = 2) ∧
        comfitref02_Is.f y o = some okc ∧ (okc = false ∨ ∃ (x1 x2 y1 y2 : Int), comfitlaw02_chance.f y o = some (y, o) ∧ lots_Taken.f k (l0.take 15) (l1.take 15) y o = some (x1, x2, 0) ∧ lots_Taken.f k q0 q1 (wrap64 (o - y)) o = some (y1, y2, 0) ∧ comfitlaw02_unit.f x1 x2 = some true ∧ comfitlaw02_unit.f y1 y2 = some true ∧ x2 = y2 ∧ wrap64 (x1 + y1) = x2))) := by
  obtain ⟨ka, haw⟩ := awake_ev
  cases ho : okP l0 l1 with
  | false =>
    obtain ⟨kt, ht⟩ := Turn_no (l0 := l0.take 15) (l1 := l1.take 15) (by rw [okP_take]; exact ho)
    exact ⟨max ka kt, [], [], 2, Of_ok l0 l1, ht _ (by omega), haw _ (by omega), Or.inl rfl⟩
  | true =>
    have ok := (okP_iff l0 l1).1 ho
    obtain ⟨e0, e1⟩ := take_ok ok
    have hm := ok.most
    have hpos := ok.pos
    have okq := Ok_turn ok
    obtain ⟨e2, e3⟩ := take_ok okq
    have hcl := cloneB_ok it
    rw [if_pos (by unfold mn; split <;> omega), if_pos (by unfold mn; split <;> omega)] at hcl
    obtain ⟨k1, h1⟩ := Turn_ev ok
    obtain ⟨k3, h3⟩ := ref_valid_ev l0 l1
    obtain ⟨k4, h4⟩ := ref_valid_ev (tuT l0 l1) (tuL l0)
    rw [ho] at h3
    rw [(okP_iff _ _).2 okq] at h4
    have hql : (tuT l0 l1).length = l0.length := tuT_length ..
    have htk : it.take (mn (it.length : Int) 15).toNat = it.take 15 := by
      unfold mn
      split
      · rfl
      · rw [List.take_of_length_le (by omega), List.take_of_length_le (by omega)]
    rw [htk] at hcl ⊢
    -- what the runs tell
    obtain ⟨n, ok', m, is, e, kr, hr, hrx, hne⟩ : ∃ (n : Int) (ok' : Bool) (m : Int) (is : Bool) (e : Int) (kr : Nat), (∀ k, kr ≤ k → lots_Run.f k l0 l1 (it.take 15) = some (n, ok', e)) ∧
        (∀ k, kr ≤ k → lots_Run.f k (tuT l0 l1) (tuL l0) ((it.take 15).map (fun x => !x)) = some (m, is, e)) ∧ ((e = 0 ∧ n = m ∧ is = !ok') ∨ e = 2) := by
      by_cases hit : it.length = l0.length
      · have et : it.take 15 = it := List.take_of_length_le (by omega)
        obtain ⟨k5, h5⟩ := Run_ev ok it hit
        obtain ⟨k6, h6⟩ := Run_ev okq (it.map (fun x => !x)) (by rw [hql, List.length_map]; exact hit)
        have hrt := run_turn ok it 0 0 (by omega) (by rintro rfl; simp at hit; omega) (by omega) (by omega)
        simp only [Int.natCast_zero, Int.sub_zero] at hrt
        rw [hrt] at h6
        rw [et]
        exact ⟨_, _, _, _, _, max k5 k6, fun k hk => h5 k (by omega), fun k hk => h6 k (by omega), Or.inl ⟨rfl, rfl, rfl⟩⟩
      · have hno : (it.take 15).length ≠ l0.length := by rw [List.length_take]; omega
        obtain ⟨k5, h5⟩ := Run_no l0 l1 (it.take 15) (Or.inr hno)
        obtain ⟨k6, h6⟩ := Run_no (tuT l0 l1) (tuL l0) ((it.take 15).map (fun x => !x)) (Or.inr (by rw [hql, List.length_map]; exact hno))
        exact ⟨_, _, _, _, _, max k5 k6, fun k hk => h5 k (by omega), fun k hk => h6 k (by omega), Or.inr rfl⟩
    -- what the chances tell
    obtain ⟨kc, hch⟩ : ∃ kc : Nat, ∀ k, kc ≤ k → (decide (okC y o) = false ∨ ∃ (x1 x2 y1 y2 : Int), comfitlaw02_chance.f y o = some (y, o) ∧ lots_Taken.f k l0 l1 y o = some (x1, x2, 0) ∧ lots_Taken.f k (tuT l0 l1) (tuL l0) (wrap64 (o - y)) o = some (y1, y2, 0) ∧ comfitlaw02_unit.f x1 x2 = some true ∧ comfitlaw02_unit.f y1 y2 = some true ∧ x2 = y2 ∧ wrap64 (x1 + y1) = x2) := by
      by_cases hc : okC y o
      · obtain ⟨k7, h7⟩ := Taken_ev ok hc
        have hcq : okC (o - y) o := ⟨hc.1, hc.2.1, by have := hc.2.2; omega, by have := hc.2.2; omega⟩
        obtain ⟨k8, h8⟩ := Taken_ev okq hcq
        rw [sTaken_turn ok, hql] at h8
        have hb := sTaken_bound ok hc.2.2.1 hc.2.2.2
        have hp := pow_bound o hc.1 hc.2.1 l0.length ok.most
        obtain ⟨f1, f2, f3, f4, f5, f6⟩ := fr_turn (sTaken l0 l1 y o) (o ^ l0.length) (by omega) hb.1 hb.2
        have hw : wrap64 (o - y) = o - y := w_in (by have := hc.2; have := hc.1; omega) (by have := hc.2; have := hc.1; omega)
        generalize fr (Rat.divInt (sTaken l0 l1 y o) (o ^ l0.length)) = A at *
        generalize fr (Rat.divInt (o ^ l0.length - sTaken l0 l1 y o) (o ^ l0.length)) = B at *
        refine ⟨max k7 k8, fun k hk => Or.inr ⟨A.1, A.2, B.1, B.2, rfl, h7 k (by omega), by rw [hw]; exact h8 k (by omega), unit_of _ _ (by omega) (by omega) (by omega) (by omega), unit_of _ _ (by omega) (by omega) (by omega) (by omega), f1.symm, by rw [f2]; exact w_in (by omega) (by omega)⟩⟩
      · exact ⟨0, fun k _ => Or.inl (decide_eq_false hc)⟩
    refine ⟨max ka (max k1 (max k3 (max k4 (max kr kc)))), tuT l0 l1, tuL l0, 0, Of_ok l0 l1, ?_, haw _ (by omega), Or.inr ⟨rfl, h3 _ (by omega), h4 _ (by omega), hql, hcl, tuT l0 l1, tuL l0, n, ok', m, is, e, decide (okC y o), ?_, ?_, hrx _ (by omega), hne, Is_ok y o, ?_⟩⟩
    · rw [e0, e1]; exact h1 _ (by omega)
    · rw [e0, e1]; exact hr _ (by omega)
    · have := Of_ok (tuT l0 l1) (tuL l0)
      rw [e2, e3] at this
      exact this
    · rw [e0, e1]; exact hch _ (by omega)
end Go.Proofs.Ytdppnmfljfdhaaa.Pure
