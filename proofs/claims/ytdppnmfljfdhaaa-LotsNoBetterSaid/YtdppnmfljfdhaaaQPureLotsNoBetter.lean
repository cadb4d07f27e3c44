/- No plan has a lesser price than Wise for as many items, and a wise one for one item more costs no more: for every plan, chance and cost, no conditions. -/
import Derived.Test.YtdppnmfljfdhaaaQMWise
import Derived.Test.YtdppnmfljfdhaaaQHNoBetter
set_option linter.unusedVariables false
set_option linter.unusedSimpArgs false
namespace Go.Proofs.Ytdppnmfljfdhaaa.Pure
open Go.RowKit Go.Proofs.Ytdppnmfljfdhaaa.X Go.Proofs.YtdppnmfljfdhaaaW.PrintWords Go.Proofs.YtdppnmfljfdhaaaW.PrintLast Go.Proofs.YtdppnmfljfdhaaaW.PrintMore

/-- A fraction in lowest terms, over its own denominator and over a multiple of it. -/
theorem fr_whole (S D m : Int) (hD : 0 < D) (hm : 0 < m) : 1 ≤ (fr (Rat.divInt S D)).2 ∧ (fr (Rat.divInt S D)).2 ≤ D ∧ Int.tmod D (fr (Rat.divInt S D)).2 = 0 ∧ (fr (Rat.divInt S D)).1 * Int.tdiv D (fr (Rat.divInt S D)).2 = S ∧ 0 ≤ Int.tdiv D (fr (Rat.divInt S D)).2 ∧ Int.tdiv D (fr (Rat.divInt S D)).2 ≤ D ∧
    (0 ≤ S → 0 ≤ (fr (Rat.divInt S D)).1) ∧ (S ≤ 200 * D → (fr (Rat.divInt S D)).1 ≤ 200 * (fr (Rat.divInt S D)).2) ∧
    (fr (Rat.divInt S D)).1 * Int.tdiv (D * m) (fr (Rat.divInt S D)).2 = S * m ∧ 0 ≤ Int.tdiv (D * m) (fr (Rat.divInt S D)).2 ∧ Int.tdiv (D * m) (fr (Rat.divInt S D)).2 ≤ D * m := by
  obtain ⟨c, hc, e1, e2⟩ := divInt_parts S D hD
  unfold fr
  dsimp only
  have hd : (0 : Int) < ((Rat.divInt S D).den : Int) := by have := (Rat.divInt S D).den_nz; omega
  generalize ((Rat.divInt S D).den : Int) = d at *
  generalize (Rat.divInt S D).num = p at *
  subst e1 e2
  have t1 : Int.tdiv (d * c) d = c := Int.mul_tdiv_cancel_left _ (by omega)
  have t2 : Int.tdiv (d * c * m) d = c * m := by rw [Int.mul_assoc]; exact Int.mul_tdiv_cancel_left _ (by omega)
  have hdc : d ≤ d * c := by
    have := Int.mul_le_mul_of_nonneg_left (show 1 ≤ c by omega) (show 0 ≤ d by omega)
    omega
  have hcd : c ≤ d * c := by
    have := Int.mul_le_mul_of_nonneg_right (show 1 ≤ d by omega) (show 0 ≤ c by omega)
    omega
  have hcm : 0 ≤ c * m := Int.mul_nonneg (by omega) (by omega)
  have hcm2 : c * m ≤ d * c * m := Int.mul_le_mul_of_nonneg_right hcd (by omega)
  rw [t1, t2]
  refine ⟨by omega, hdc, Int.mul_tmod_right .., rfl, by omega, hcd, fun h => Int.nonneg_of_mul_nonneg_left h hc, fun h => ?_, by rw [Int.mul_assoc], hcm, hcm2⟩
  have : p * c ≤ (200 * d) * c := by rw [Int.mul_assoc]; exact h
  exact Int.le_of_mul_le_mul_right this hc
theorem allI_ok (wo go bo : Int) (hg : okC 0 go) (hb : okC 0 bo) (hw : okC 0 wo) : ∀ n : Nat, n ≤ 6 → allI wo go bo n = wo * go ^ n * bo ^ n := by
  intro n
  induction n with
  | zero => intro _; simp [allI]
  | succ n ih =>
    intro hn
    have hW := whole_bound (n + 1) hn hg hb hw
    show wrap64 (allI wo go bo n * wrap64 (go * bo)) = _
    rw [ih (by omega), w_mulr]
    have e : wo * go ^ n * bo ^ n * (go * bo) = wo * go ^ (n + 1) * bo ^ (n + 1) := by
      rw [Int.pow_succ, Int.pow_succ]
      generalize go ^ n = p
      generalize bo ^ n = q
      grind
    rw [e]
    exact w_in (by omega) (by omega)
theorem LotsNoBetter (l0 l1 : List Int) (gy go by_ bo wy wo tk lv : Int) (_ : l0.length ≤ maxLen) (_ : ∀ x ∈ l0, (Lit.int .i64 x).wf = true) (_ : l1.length ≤ maxLen) (_ : ∀ x ∈ l1, (Lit.int .i64 x).wf = true) (_ : (Lit.int .i64 gy).wf = true) (_ : (Lit.int .i64 go).wf = true) (_ : (Lit.int .i64 by_).wf = true) (_ : (Lit.int .i64 bo).wf = true) (_ : (Lit.int .i64 wy).wf = true) (_ : (Lit.int .i64 wo).wf = true) (_ : (Lit.int .i64 tk).wf = true) (_ : (Lit.int .i64 lv).wf = true) :
    ∃ (k : Nat) (x1 x2 e0 : Int), comfitlaw02_Of.f l0 l1 = some (l0.take 15, l1.take 15) ∧ lots_Price.f k (l0.take 15) (l1.take 15) gy go by_ bo wy wo tk lv = some (x1, x2, e0) ∧ comfitlaw02_awake.f k = some true ∧
      (e0 = 2 ∨ (e0 = 0 ∧ comfitref02_Valid.f k l0 l1 = some true ∧ l0.length ≤ 6 ∧ comfitref02_Is.f gy go = some true ∧ comfitref02_Is.f by_ bo = some true ∧ comfitref02_Is.f wy wo = some true ∧ comfitref02_Cost.f tk lv = some true ∧
      ∃ (y1 y2 f : Int), lots_Wise.f k (l0.length : Int) gy go by_ bo wy wo tk lv = some (y1, y2, f) ∧
        ((wrap64 (by_ * go) < wrap64 (gy * bo) ∧ f = 2) ∨ (¬ wrap64 (by_ * go) < wrap64 (gy * bo) ∧ f = 0 ∧ 1 ≤ x2 ∧ 1 ≤ y2 ∧ Int.tmod (allI wo go bo l0.length) x2 = 0 ∧ Int.tmod (allI wo go bo l0.length) y2 = 0 ∧ 0 ≤ x1 ∧ 0 ≤ y1 ∧ x1 ≤ wrap64 (200 * x2) ∧ y1 ≤ wrap64 (200 * y2) ∧
          ¬ (wrap64 (x1 * wrap64 (Int.tdiv (allI wo go bo l0.length) x2)) < wrap64 (y1 * wrap64 (Int.tdiv (allI wo go bo l0.length) y2))) ∧
          (l0.length = 6 ∨ (l0.length ≠ 6 ∧ ∃ z1 z2 : Int, lots_Wise.f k (((l0.length + 1 : Nat) : Nat) : Int) gy go by_ bo wy wo tk lv = some (z1, z2, 0) ∧ 1 ≤ z2 ∧ Int.tmod (allI wo go bo (l0.length + 1)) z2 = 0 ∧ 0 ≤ z1 ∧ z1 ≤ wrap64 (200 * z2) ∧
            wrap64 (z1 * wrap64 (Int.tdiv (allI wo go bo (l0.length + 1)) z2)) ≤ wrap64 (y1 * wrap64 (Int.tdiv (allI wo go bo (l0.length + 1)) y2)))))))) := by
  obtain ⟨ka, haw⟩ := awake_ev
  by_cases h : okP l0 l1 = true ∧ l0.length ≤ 6 ∧ okC gy go ∧ okC by_ bo ∧ okC wy wo ∧ okW tk lv
  · obtain ⟨ho, hn, hg, hb, hw, hc⟩ := h
    have ok := (okP_iff l0 l1).1 ho
    obtain ⟨e0, e1⟩ := take_ok ok
    have hpos := ok.pos
    have hD := whole_bound l0.length hn hg hb hw
    have okt : T8.Ok ⟨gy, go, by_, bo, wy, wo, tk, lv⟩ := ⟨hg, hb, hw, hc⟩
    obtain ⟨k1, h1⟩ := Price_ev ok hn hg hb hw hc
    obtain ⟨k2, h2⟩ := ref_valid_ev l0 l1
    rw [ho] at h2
    have i1 : comfitref02_Is.f gy go = some true := by rw [Is_ok, decide_eq_true hg]
    have i2 : comfitref02_Is.f by_ bo = some true := by rw [Is_ok, decide_eq_true hb]
    have i3 : comfitref02_Is.f wy wo = some true := by rw [Is_ok, decide_eq_true hw]
    have i4 : comfitref02_Cost.f tk lv = some true := by rw [Cost_ok, decide_eq_true hc]
    by_cases hm : wrap64 (gy * bo) ≤ wrap64 (by_ * go)
    · obtain ⟨k3, h3⟩ := Wise_ev okt l0.length hn hpos hm
      have hz : ∃ k4 : Nat, l0.length = 6 ∨ (l0.length ≠ 6 ∧ ∀ k, k4 ≤ k → lots_Wise.f k (((l0.length + 1 : Nat) : Nat) : Int) gy go by_ bo wy wo tk lv = some ((T8.wA ⟨gy, go, by_, bo, wy, wo, tk, lv⟩ (l0.length + 1)).1, (T8.wA ⟨gy, go, by_, bo, wy, wo, tk, lv⟩ (l0.length + 1)).2, 0)) := by
        by_cases h6 : l0.length = 6
        · exact ⟨0, Or.inl h6⟩
        · obtain ⟨k4, h4⟩ := Wise_ev okt (l0.length + 1) (by omega) (by omega) hm
          exact ⟨k4, Or.inr ⟨h6, h4⟩⟩
      obtain ⟨k4, h4⟩ := hz
      have hS := sP_bound ok hn hg hb hw hc
      have hS2 := sP_200 ok hn hg hb hw hc
      have hN := T8.no_better (t := ⟨gy, go, by_, bo, wy, wo, tk, lv⟩) ok
      have hT := okt.top l0.length hn hpos
      have hgb : 0 < go * bo := Int.mul_pos (by have := hg.1; omega) (by have := hb.1; omega)
      have x := fr_whole (sP l0 l1 gy go by_ bo wy wo tk lv) (wo * go ^ l0.length * bo ^ l0.length) (go * bo) (by omega) hgb
      have y := fr_whole (T8.wI ⟨gy, go, by_, bo, wy, wo, tk, lv⟩ l0.length l0.length 0 0) (wo * go ^ l0.length * bo ^ l0.length) (go * bo) (by omega) hgb
      have eA := allI_ok wo go bo ⟨hg.1, hg.2.1, by omega, by have := hg.1; omega⟩ ⟨hb.1, hb.2.1, by omega, by have := hb.1; omega⟩ ⟨hw.1, hw.2.1, by omega, by have := hw.1; omega⟩
      refine ⟨max ka (max k1 (max k2 (max k3 k4))), _, _, _, Of_ok l0 l1, by rw [e0, e1]; exact h1 _ (by omega), haw _ (by omega), Or.inr ⟨rfl, h2 _ (by omega), hn, i1, i2, i3, i4, _, _, _, h3 _ (by omega), Or.inr ⟨by omega, rfl, ?_⟩⟩⟩
      unfold priceA T8.wA
      dsimp only at hN y ⊢
      rw [eA l0.length hn]
      have next : l0.length = 6 ∨ (l0.length ≠ 6 ∧ ∃ z1 z2 : Int, lots_Wise.f (max ka (max k1 (max k2 (max k3 k4)))) (((l0.length + 1 : Nat) : Nat) : Int) gy go by_ bo wy wo tk lv = some (z1, z2, 0) ∧ 1 ≤ z2 ∧ Int.tmod (allI wo go bo (l0.length + 1)) z2 = 0 ∧ 0 ≤ z1 ∧ z1 ≤ wrap64 (200 * z2) ∧
            wrap64 (z1 * wrap64 (Int.tdiv (allI wo go bo (l0.length + 1)) z2)) ≤ wrap64 ((fr (Rat.divInt (T8.wI ⟨gy, go, by_, bo, wy, wo, tk, lv⟩ l0.length l0.length 0 0) (wo * go ^ l0.length * bo ^ l0.length))).1 * wrap64 (Int.tdiv (allI wo go bo (l0.length + 1)) (fr (Rat.divInt (T8.wI ⟨gy, go, by_, bo, wy, wo, tk, lv⟩ l0.length l0.length 0 0) (wo * go ^ l0.length * bo ^ l0.length))).2))) := by
        rcases h4 with h6 | ⟨h6, h4⟩
        · exact Or.inl h6
        · refine Or.inr ⟨h6, _, _, h4 _ (by omega), ?_⟩
          have hD2 := whole_bound (l0.length + 1) (by omega) hg hb hw
          have eD : wo * go ^ (l0.length + 1) * bo ^ (l0.length + 1) = wo * go ^ l0.length * bo ^ l0.length * (go * bo) := by
            rw [Int.pow_succ, Int.pow_succ]
            generalize go ^ l0.length = p
            generalize bo ^ l0.length = q
            grind
          have hNx := okt.next l0.length hpos l0.length 0 0 (by omega)
          have hT2 := okt.top (l0.length + 1) (by omega) (by omega)
          have z := fr_whole (T8.wI ⟨gy, go, by_, bo, wy, wo, tk, lv⟩ (l0.length + 1) (l0.length + 1) 0 0) (wo * go ^ (l0.length + 1) * bo ^ (l0.length + 1)) 1 (by omega) (by omega)
          rw [eA (l0.length + 1) (by omega)]
          unfold T8.wA
          dsimp only at z hNx ⊢
          rw [eD] at z hD2 ⊢
          generalize T8.wI ⟨gy, go, by_, bo, wy, wo, tk, lv⟩ (l0.length + 1) (l0.length + 1) 0 0 = Z at *
          generalize T8.wI ⟨gy, go, by_, bo, wy, wo, tk, lv⟩ l0.length l0.length 0 0 = Y at *
          generalize sP l0 l1 gy go by_ bo wy wo tk lv = X at *
          generalize wo * go ^ l0.length * bo ^ l0.length = D at *
          generalize go * bo = m at *
          generalize fr (Rat.divInt Z (D * m)) = fz at *
          generalize fr (Rat.divInt Y D) = fy at *
          obtain ⟨z1, z2, z3, z4, z5, z6, z7, z8, z9⟩ := z
          obtain ⟨y1, y2, y3, y4, y5, y6, y7, y8, y9, y10, y11⟩ := y
          have hY200 : Y ≤ 200 * D := by omega
          have hYm : Y * m ≤ 200 * D * m := Int.mul_le_mul_of_nonneg_right hY200 (by omega)
          have hmY : m * Y = Y * m := Int.mul_comm ..
          have hDm : 200 * D * m = 200 * (D * m) := Int.mul_assoc ..
          have hYm0 : 0 ≤ Y * m := Int.mul_nonneg (by omega) (by omega)
          refine ⟨z1, z3, z7 hT2.1, by rw [w_in (by omega) (by omega)]; exact z8 (by omega), ?_⟩
          rw [w_in (n := Int.tdiv (D * m) fz.2) (by omega) (by omega), w_in (n := Int.tdiv (D * m) fy.2) (by omega) (by omega), z4, y9, w_in (by omega) (by omega), w_in (by omega) (by omega)]
          omega
      refine ⟨x.1, y.1, x.2.2.1, y.2.2.1, x.2.2.2.2.2.2.1 hS.1, y.2.2.2.2.2.2.1 hT.1, ?_, ?_, ?_, next⟩
      · rw [w_in (by have := x.1; omega) (by have := x.2.1; omega)]; exact x.2.2.2.2.2.2.2.1 hS2
      · rw [w_in (by have := y.1; omega) (by have := y.2.1; omega)]; exact y.2.2.2.2.2.2.2.1 (by omega)
      · have xd := x.2.2.2.2
        have yd := y.2.2.2.2
        rw [w_in (n := Int.tdiv _ _) (by omega) (by omega), w_in (n := Int.tdiv _ (fr (Rat.divInt (T8.wI ⟨gy, go, by_, bo, wy, wo, tk, lv⟩ l0.length l0.length 0 0) _)).2) (by omega) (by omega), x.2.2.2.1, y.2.2.2.1, w_in (by omega) (by omega), w_in (by omega) (by omega)]
        omega
    · obtain ⟨k3, h3⟩ := Wise_no okt l0.length hn hpos hm
      exact ⟨max ka (max k1 (max k2 k3)), _, _, _, Of_ok l0 l1, by rw [e0, e1]; exact h1 _ (by omega), haw _ (by omega), Or.inr ⟨rfl, h2 _ (by omega), hn, i1, i2, i3, i4, _, _, _, h3 _ (by omega), Or.inl ⟨by omega, rfl⟩⟩⟩
  · have hno : ¬ (okP (l0.take 15) (l1.take 15) = true ∧ (l0.take 15).length ≤ 6 ∧ okC gy go ∧ okC by_ bo ∧ okC wy wo ∧ okW tk lv) := by
      rintro ⟨a, b, c⟩
      rw [okP_take] at a
      rw [(take_ok ((okP_iff l0 l1).1 a)).1] at b
      exact h ⟨a, b, c⟩
    obtain ⟨k1, h1⟩ := Price_no hno
    exact ⟨max ka k1, _, _, _, Of_ok l0 l1, h1 _ (by omega), haw _ (by omega), Or.inl rfl⟩
end Go.Proofs.Ytdppnmfljfdhaaa.Pure
