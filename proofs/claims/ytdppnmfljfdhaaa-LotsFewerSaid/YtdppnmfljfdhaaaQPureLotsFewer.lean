/- Taken is from 0 to 1, and Looks from 1 to all items, just all of them for the plan of n and c; with fewer bad items it and the one cut short are taken no less often: for all numbers and chances, no conditions. -/
import Derived.Test.YtdppnmfljfdhaaaQMFewer
import Derived.Test.YtdppnmfljfdhaaaQHFewer
set_option linter.unusedVariables false
set_option linter.unusedSimpArgs false
namespace Go.Proofs.Ytdppnmfljfdhaaa.Pure
open Go.RowKit Go.Proofs.Ytdppnmfljfdhaaa.X Go.Proofs.YtdppnmfljfdhaaaW.PrintWords Go.Proofs.YtdppnmfljfdhaaaW.PrintLast Go.Proofs.YtdppnmfljfdhaaaW.PrintMore

theorem powI_ok (o : Int) (h1 : 1 ≤ o) (h : o ≤ 12) : ∀ n : Nat, n ≤ 12 → powI o n = o ^ n := by
  intro n
  induction n with
  | zero => intro _; simp [powI]
  | succ n ih =>
    intro hn
    have hp := pow_bound o h1 h (n + 1) hn
    show wrap64 (powI o n * o) = _
    rw [ih (by omega), ← Int.pow_succ]
    have e : o ^ n.succ = o ^ (n + 1) := rfl
    exact w_in (by omega) (by omega)
/-- A fraction in lowest terms, over its own denominator. -/
theorem fr_over (S D : Int) (hD : 0 < D) : 1 ≤ (fr (Rat.divInt S D)).2 ∧ (fr (Rat.divInt S D)).2 ≤ D ∧ Int.tmod D (fr (Rat.divInt S D)).2 = 0 ∧ (fr (Rat.divInt S D)).1 * Int.tdiv D (fr (Rat.divInt S D)).2 = S ∧ 0 ≤ Int.tdiv D (fr (Rat.divInt S D)).2 ∧ Int.tdiv D (fr (Rat.divInt S D)).2 ≤ D ∧
    (0 ≤ S → 0 ≤ (fr (Rat.divInt S D)).1) ∧ ∀ m : Int, (S ≤ m * D → (fr (Rat.divInt S D)).1 ≤ m * (fr (Rat.divInt S D)).2) ∧ (m * D ≤ S → m * (fr (Rat.divInt S D)).2 ≤ (fr (Rat.divInt S D)).1) := by
  obtain ⟨c, hc, e1, e2⟩ := divInt_parts S D hD
  unfold fr
  dsimp only
  have hd : (0 : Int) < ((Rat.divInt S D).den : Int) := by have := (Rat.divInt S D).den_nz; omega
  generalize ((Rat.divInt S D).den : Int) = d at *
  generalize (Rat.divInt S D).num = p at *
  subst e1 e2
  have t1 : Int.tdiv (d * c) d = c := Int.mul_tdiv_cancel_left _ (by omega)
  have hdc : d ≤ d * c := by
    have := Int.mul_le_mul_of_nonneg_left (show 1 ≤ c by omega) (show 0 ≤ d by omega)
    omega
  have hcd : c ≤ d * c := by
    have := Int.mul_le_mul_of_nonneg_right (show 1 ≤ d by omega) (show 0 ≤ c by omega)
    omega
  rw [t1]
  refine ⟨by omega, hdc, Int.mul_tmod_right .., rfl, by omega, hcd, fun h => Int.nonneg_of_mul_nonneg_left h hc, fun m => ⟨fun h => ?_, fun h => ?_⟩⟩
  · have : p * c ≤ (m * d) * c := by rw [Int.mul_assoc]; exact h
    exact Int.le_of_mul_le_mul_right this hc
  · have : (m * d) * c ≤ p * c := by rw [Int.mul_assoc]; exact h
    exact Int.le_of_mul_le_mul_right this hc
theorem unit_of2 (a b : Int) (h1 : 1 ≤ b) (h2 : b ≤ 17592186044416) (h3 : 0 ≤ a) (h4 : a ≤ b) : comfitlaw02_unit.f a b = some true := by
  unfold comfitlaw02_unit.f
  rw [if_pos h1, if_pos h2, if_pos h3, decide_eq_true h4]
theorem few_of {T L : List Int} (ok : Ok T L) (n y o ls : Int) (hn : (T.length : Int) = n) (hc : okC y o) (h0 : 0 ≤ ls) (h1 : ls ≤ y) (first : Prop) (hf : first → sLooks T L y o = n * o ^ T.length) : ∃ k0 : Nat, ∀ k, k0 ≤ k → FewOk k n y o ls first T L := by
  obtain ⟨e0, e1⟩ := take_ok ok
  obtain ⟨k1, t1⟩ := Taken_ev ok hc
  obtain ⟨k2, t2⟩ := Taken_ev ok (show okC ls o from ⟨hc.1, hc.2.1, h0, by have := hc.2.2.2; omega⟩)
  obtain ⟨k3, t3⟩ := Looks_ev ok hc
  have hm := ok.most
  have hpos := ok.pos
  have hp := pow_bound o hc.1 hc.2.1 T.length hm
  have b1 := sTaken_bound ok hc.2.2.1 hc.2.2.2
  have b2 := sTaken_bound (y := ls) (o := o) ok h0 (by have := hc.2.2.2; omega)
  have b3 := sLooks_bound ok hc.2.2.1 hc.2.2.2
  have hle := sTaken_fewer (o := o) ok h0 h1 hc.2.2.2
  have a := fr_over (sTaken T L y o) (o ^ T.length) (by omega)
  have b := fr_over (sTaken T L ls o) (o ^ T.length) (by omega)
  have m := fr_over (sLooks T L y o) (o ^ T.length) (by omega)
  have hfirst : first → (fr (Rat.divInt (sLooks T L y o) (o ^ T.length))) = (n, 1) := fun h => by rw [hf h]; exact fr_int n _ (by omega)
  refine ⟨max k1 (max k2 k3), fun k hk => ⟨T, L, _, _, _, _, _, _, ?_, t1 k (by omega), t2 k (by omega), t3 k (by omega), ?_⟩⟩
  · have := Of_ok T L
    rw [e0, e1] at this
    exact this
  · rw [powI_ok o hc.1 hc.2.1 n.toNat (by omega), show n.toNat = T.length by omega]
    generalize fr (Rat.divInt (sTaken T L y o) (o ^ T.length)) = A at *
    generalize fr (Rat.divInt (sTaken T L ls o) (o ^ T.length)) = B at *
    generalize fr (Rat.divInt (sLooks T L y o) (o ^ T.length)) = M at *
    obtain ⟨a1, a2, a3, a4, a5, a6, a7, a8⟩ := a
    obtain ⟨b1', b2', b3', b4, b5, b6, b7, b8⟩ := b
    obtain ⟨m1, m2, m3, m4, m5, m6, m7, m8⟩ := m
    have q1 := (a8 1).1 (by omega)
    have q2 := (b8 1).1 (by omega)
    have q3 := (m8 1).2 (by omega)
    have q4 := (m8 n).1 (by rw [← hn]; exact b3.2)
    have hnm : 0 ≤ n * M.2 ∧ n * M.2 ≤ 12 * 8916100448256 := ⟨Int.mul_nonneg (by omega) (by omega), Int.le_trans (Int.mul_le_mul_of_nonneg_right (show n ≤ 12 by omega) (by omega)) (by omega)⟩
    refine ⟨unit_of2 _ _ a1 (by omega) (a7 b1.1) (by omega), unit_of2 _ _ b1' (by omega) (b7 b2.1) (by omega), m1, by omega, by rw [w_in (by omega) (by omega)]; exact q4, fun h => ?_, a1, b1', a3, b3', ?_⟩
    · have := hfirst h
      rw [this]
      exact ⟨rfl, rfl⟩
    · rw [w_in (n := Int.tdiv _ B.2) (by omega) (by omega), w_in (n := Int.tdiv _ A.2) (by omega) (by omega), a4, b4, w_in (by omega) (by omega), w_in (by omega) (by omega)]
      omega
theorem LotsFewer (n c y o less : Int) (_ : (Lit.int .i64 n).wf = true) (_ : (Lit.int .i64 c).wf = true) (_ : (Lit.int .i64 y).wf = true) (_ : (Lit.int .i64 o).wf = true) (_ : (Lit.int .i64 less).wf = true) :
    ∃ (k : Nat) (T0 L0 T1 L1 : List Int) (e0 ls : Int), lots_Single.f n c = some (T0, L0, e0) ∧ lots_Short.f n c = some (T1, L1, e0) ∧ comfitlaw02_awake.f k = some true ∧
    (e0 = 2 ∨ (e0 = 0 ∧ comfitref02_Numbers.f n c = some true ∧ (comfitref02_Is.f y o = some false ∨ (comfitref02_Is.f y o = some true ∧ 0 ≤ n ∧ n ≤ 12 ∧ (¬ IntKind.u64.wrap (wrap64 (y + 1)) = 0 ∧ wrap64 (Int.tmod (IntKind.u64.wrap less) (IntKind.u64.wrap (wrap64 (y + 1)))) = ls) ∧ FewOk k n y o ls True T0 L0 ∧ FewOk k n y o ls False T1 L1)))) := by
  obtain ⟨ka, haw⟩ := awake_ev
  by_cases hs : isS n c = true
  · have hS := Single_ok n c
    have hQ := Short_ok n c
    rw [if_pos hs] at hS hQ
    have hnum : comfitref02_Numbers.f n c = some true := by rw [Numbers_ok, hs]
    obtain ⟨h1, h2, h3, h4⟩ := (isS_iff n c).1 hs
    by_cases hc : okC y o
    · obtain ⟨c1, c2, c3, c4⟩ := hc
      have ew : wrap64 (y + 1) = y + 1 := w_in (by omega) (by omega)
      have eu : IntKind.u64.wrap (y + 1) = y + 1 := by simp only [IntKind.wrap, IntKind.bits, IntKind.signed]; first | omega | (simp; omega)
      have hu : 0 ≤ IntKind.u64.wrap less := by simp only [IntKind.wrap, IntKind.bits, IntKind.signed]; first | omega | (simp; omega)
      obtain ⟨pl1, pl2, pl3, pl4⟩ := plans hs
      obtain ⟨l1, l2, l3⟩ := single_at hs
      have hls : 0 ≤ Int.tmod (IntKind.u64.wrap less) (y + 1) ∧ Int.tmod (IntKind.u64.wrap less) (y + 1) ≤ y := by
        have a := Int.tmod_nonneg (y + 1) hu
        have b := Int.tmod_lt_of_pos (IntKind.u64.wrap less) (show 0 < y + 1 by omega)
        omega
      have ew2 : wrap64 (Int.tmod (IntKind.u64.wrap less) (y + 1)) = Int.tmod (IntKind.u64.wrap less) (y + 1) := w_in (by omega) (by omega)
      obtain ⟨k1, f1⟩ := few_of ((okP_iff _ _).1 pl3) n y o _ (by rw [l1]; omega) ⟨c1, c2, c3, c4⟩ hls.1 hls.2 True (fun _ => by rw [sLooks_single hs, l1])
      obtain ⟨k2, f2⟩ := few_of ((okP_iff _ _).1 pl4) n y o _ (by rw [l2]; omega) ⟨c1, c2, c3, c4⟩ hls.1 hls.2 False (fun h => h.elim)
      refine ⟨max ka (max k1 k2), _, _, _, _, _, _, hS, hQ, haw _ (by omega), Or.inr ⟨rfl, hnum, Or.inr ⟨by rw [Is_ok, decide_eq_true ⟨c1, c2, c3, c4⟩], by omega, by omega, ⟨?_, rfl⟩, ?_, ?_⟩⟩⟩
      · rw [ew, eu]; omega
      · rw [ew, eu, ew2]; exact f1 _ (by omega)
      · rw [ew, eu, ew2]; exact f2 _ (by omega)
    · exact ⟨ka, _, _, _, _, _, 0, hS, hQ, haw _ (by omega), Or.inr ⟨rfl, hnum, Or.inl (by rw [Is_ok, decide_eq_false hc])⟩⟩
  · have hS := Single_ok n c
    have hQ := Short_ok n c
    rw [if_neg hs] at hS hQ
    exact ⟨ka, _, _, _, _, _, 0, hS, hQ, haw _ (by omega), Or.inl rfl⟩
end Go.Proofs.Ytdppnmfljfdhaaa.Pure
