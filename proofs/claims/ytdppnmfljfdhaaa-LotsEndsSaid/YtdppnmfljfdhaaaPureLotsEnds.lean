/- It is sure that at most all bad items, or all that are looked at, are bad; bad items and those that are looked at may be exchanged; with one more allowed the chance is no less: for every input, no conditions. -/
import Derived.Test.YtdppnmfljfdhaaaMBin
import Derived.Test.YtdppnmfljfdhaaaXcomfitlaw02LotsEnds
set_option linter.unusedVariables false
set_option linter.unusedSimpArgs false
namespace Go.Proofs.Ytdppnmfljfdhaaa.Pure
open Go.RowKit Go.Proofs.Ytdppnmfljfdhaaa.X Go.Proofs.YtdppnmfljfdhaaaW.PrintWords Go.Proofs.YtdppnmfljfdhaaaW.PrintLast Go.Proofs.YtdppnmfljfdhaaaW.PrintMore

/-! ### Pascal's numbers by factorials, and the exchange -/
def fac : Nat → Nat
  | 0 => 1
  | n + 1 => (n + 1) * fac n
theorem fac_pos : ∀ n, 0 < fac n
  | 0 => by simp [fac]
  | n + 1 => Nat.mul_pos (by omega) (fac_pos n)
theorem pas_fac : ∀ n k : Nat, k ≤ n → pas n k * (fac k * fac (n - k)) = fac n := by
  intro n
  induction n with
  | zero =>
    intro k hk
    obtain rfl : k = 0 := by omega
    simp [pas, fac]
  | succ n ih =>
    intro k hk
    cases k with
    | zero => simp [pas, fac]
    | succ k =>
      rw [pas, Nat.succ_sub_succ]
      have h1 := ih k (by omega)
      by_cases hkn : k = n
      · subst hkn
        rw [pas_zero k (k + 1) (by omega)] at *
        rw [Nat.sub_self] at h1 ⊢
        have : pas k k * (fac (k + 1) * fac 0) = (k + 1) * (pas k k * (fac k * fac 0)) := by rw [show fac (k + 1) = (k + 1) * fac k from rfl]; ac_rfl
        rw [Nat.add_zero, this, h1]; rfl
      · have h2 := ih (k + 1) (by omega)
        obtain ⟨d, hd⟩ : ∃ d, n - k = d + 1 := ⟨n - k - 1, by omega⟩
        have hd2 : n - (k + 1) = d := by omega
        rw [hd] at h1 ⊢
        rw [hd2] at h2
        have e1 : pas n k * (fac (k + 1) * fac (d + 1)) = (k + 1) * (pas n k * (fac k * fac (d + 1))) := by rw [show fac (k + 1) = (k + 1) * fac k from rfl]; ac_rfl
        have e2 : pas n (k + 1) * (fac (k + 1) * fac (d + 1)) = (d + 1) * (pas n (k + 1) * (fac (k + 1) * fac d)) := by rw [show fac (d + 1) = (d + 1) * fac d from rfl]; ac_rfl
        rw [Nat.add_mul, e1, e2, h1, h2, ← Nat.add_mul, show k + 1 + (d + 1) = n + 1 by omega]; rfl
theorem tm_swap (n b m k : Nat) (hb : b ≤ n) (hm : m ≤ n) (hkb : k ≤ b) (hkm : k ≤ m) : tm b (n - b) m k * pas n b = tm m (n - m) b k * pas n m := by
  unfold tm
  by_cases hz : n - b < m - k
  · rw [pas_zero (n - b) (m - k) hz, pas_zero (n - m) (b - k) (by omega)]
    simp
  · have a1 := pas_fac b k hkb
    have a2 := pas_fac (n - b) (m - k) (by omega)
    have a3 := pas_fac n b hb
    have b1 := pas_fac m k hkm
    have b2 := pas_fac (n - m) (b - k) (by omega)
    have b3 := pas_fac n m hm
    rw [show n - m - (b - k) = n - b - (m - k) by omega] at b2
    generalize n - b - (m - k) = e at *
    have pos : 0 < fac k * fac (b - k) * (fac (m - k) * fac e) := Nat.mul_pos (Nat.mul_pos (fac_pos _) (fac_pos _)) (Nat.mul_pos (fac_pos _) (fac_pos _))
    refine Nat.eq_of_mul_eq_mul_right pos ?_
    have l : pas b k * pas (n - b) (m - k) * pas n b * (fac k * fac (b - k) * (fac (m - k) * fac e)) = fac n := by
      have : pas b k * pas (n - b) (m - k) * pas n b * (fac k * fac (b - k) * (fac (m - k) * fac e)) = pas n b * ((pas b k * (fac k * fac (b - k))) * (pas (n - b) (m - k) * (fac (m - k) * fac e))) := by ac_rfl
      rw [this, a1, a2, a3]
    have r : pas m k * pas (n - m) (b - k) * pas n m * (fac k * fac (b - k) * (fac (m - k) * fac e)) = fac n := by
      have : pas m k * pas (n - m) (b - k) * pas n m * (fac k * fac (b - k) * (fac (m - k) * fac e)) = pas n m * ((pas m k * (fac k * fac (m - k))) * (pas (n - m) (b - k) * (fac (b - k) * fac e))) := by ac_rfl
      rw [this, b1, b2, b3]
    rw [l, r]
theorem fin_swap (n b m i : Nat) (hb : b ≤ n) (hm : m ≤ n) (hib : i ≤ b + 1) (him : i ≤ m + 1) : fin n b m i * pas n b = fin n m b i * pas n m := by
  unfold fin
  rw [su_mul, su_mul]
  exact su_congr _ (fun k hk => tm_swap n b m k hb hm (by omega) (by omega))
theorem su_tail (f : Nat → Nat) : ∀ {i j : Nat}, i ≤ j → (∀ k, i ≤ k → k < j → f k = 0) → su f j = su f i := by
  intro i j h
  induction h with
  | refl => exact fun _ => rfl
  | @step j h ih =>
    intro hz
    rw [su, ih (fun k h1 h2 => hz k h1 (by omega)), hz j h (by omega), Nat.add_zero]
theorem fin_all (n b m c : Nat) (hb : b ≤ n) (hc : c ≤ m) (h : b ≤ c ∨ m ≤ c) : fin n b m (c + 1) = pas n m := by
  have hv : fin n b m (m + 1) = pas n m := by unfold fin; rw [vander, show b + (n - b) = n by omega]
  rw [← hv]
  unfold fin
  refine (su_tail _ (by omega) (fun k h1 h2 => ?_)).symm
  unfold tm
  rw [pas_zero b k (by omega), Nat.zero_mul]

/-! ### the parts of an answer -/
theorem parts (F P : Nat) (hP : 0 < P) (hP2 : P ≤ 137846528820) (hF : F ≤ P) : ∃ q : Int, 0 < q ∧ (P : Int) = (fr (Rat.divInt F P)).2 * q ∧ (F : Int) = (fr (Rat.divInt F P)).1 * q ∧ 1 ≤ (fr (Rat.divInt F P)).2 ∧ (fr (Rat.divInt F P)).2 ≤ P ∧ 0 ≤ (fr (Rat.divInt F P)).1 ∧ (fr (Rat.divInt F P)).1 ≤ (fr (Rat.divInt F P)).2 := by
  obtain ⟨q, hq, e1, e2⟩ := divInt_parts (F : Int) (P : Int) (by omega)
  have hd : 0 < ((Rat.divInt F P).den : Int) := by have := (Rat.divInt F P).den_pos; omega
  unfold fr
  dsimp only
  refine ⟨q, hq, e1, e2, by omega, ?_, ?_, ?_⟩
  · have := Int.mul_le_mul_of_nonneg_left (show 1 ≤ q by omega) (show 0 ≤ ((Rat.divInt (F : Int) (P : Int)).den : Int) by omega)
    omega
  · refine Int.le_of_mul_le_mul_right (a := q) ?_ hq
    omega
  · refine Int.le_of_mul_le_mul_right (a := q) ?_ hq
    omega
theorem unit_ok (F P : Nat) (hP : 0 < P) (hP2 : P ≤ 137846528820) (hF : F ≤ P) : comfitlaw02_unit.f (fr (Rat.divInt F P)).1 (fr (Rat.divInt F P)).2 = some true := by
  obtain ⟨q, _, _, _, h1, h2, h3, h4⟩ := parts F P hP hP2 hF
  unfold comfitlaw02_unit.f
  rw [if_pos (by omega), if_pos (by omega), if_pos (by omega), decide_eq_true (by omega)]
theorem ends_last {r : Int} {p q u v : Int} {n m : Int} {w : Bool} (hw : Ev (fun k => if q = 0 then (none : Option Bool) else (if (Int.tmod r q) = 0 then (if v = 0 then (none) else (if (Int.tmod r v) = 0 then (if (wrap64 (p * (wrap64 (Int.tdiv r q)))) ≤ (wrap64 (u * (wrap64 (Int.tdiv r v)))) then ((comfitlaw02_awake.f k).bind fun t268 => (some t268)) else (some false)) else (some false))) else (some false))) w) :
    ∀ (K : Nat) (acc i : Int), lots_choose.l0 K n acc m i = some r → Ev (fun k => comfitlaw02_LotsEnds.l0 k n acc m i p q u v) w := by
  intro K
  induction K with
  | zero => intro acc i h; rw [lots_choose.l0] at h; cases h
  | succ K ih =>
    intro acc i h
    rw [lots_choose.l0] at h
    by_cases hi : i < m
    · rw [if_pos hi] at h
      by_cases h0 : wrap64 (i + 1) = 0
      · rw [if_pos h0] at h; cases h
      · rw [if_neg h0] at h
        exact Ev.succ (ih _ _ h) (fun k => by rw [comfitlaw02_LotsEnds.l0, if_pos hi, if_neg h0])
    · rw [if_neg hi] at h
      obtain rfl := Option.some.inj h
      exact Ev.succ hw (fun k => by rw [comfitlaw02_LotsEnds.l0, if_neg hi])
theorem LotsEnds : comfitlaw02_LotsEnds.Pure := by
  intro a0 a1 a2 a3 _ _ _ _
  refine Ev.get (g := fun k => comfitlaw02_LotsEnds.f k a0 a1 a2 a3) ?_
  unfold comfitlaw02_LotsEnds.f
  by_cases h : okL a0 a1 a2 a3
  · refine Ev.bind (Finite_ev a0 a1 a2 a3 h) ?_
    simp only [if_true]
    rw [Lot_ok, decide_eq_true h]
    simp only [Option.bind_some, Bool.not_true]
    have h' := h
    obtain ⟨h1, h2, h3, h4, h5, h6, h7, h8⟩ := h
    obtain ⟨n, rfl⟩ := Int.eq_ofNat_of_zero_le (by omega : 0 ≤ a0)
    obtain ⟨b, rfl⟩ := Int.eq_ofNat_of_zero_le h3
    obtain ⟨m, rfl⟩ := Int.eq_ofNat_of_zero_le h5
    obtain ⟨c, rfl⟩ := Int.eq_ofNat_of_zero_le h7
    have hP := pas_pos n m (by omega)
    have hP2 := pas_le n m (by omega) (by omega)
    have hF := fin_le n b m (c + 1) (by omega) (by omega)
    have eA : finA n b m c = fr (Rat.divInt (fin n b m (c + 1)) (pas n m)) := rfl
    rw [eA]
    -- what comes behind the exchange
    have hj2 : Ev (fun k => comfitlaw02_LotsEnds.j2 k n b m c (fr (Rat.divInt (fin n b m (c + 1)) (pas n m))).1 (fr (Rat.divInt (fin n b m (c + 1)) (pas n m))).2) true := by
      by_cases hcm : (c : Int) = m
      · exact Ev.succ (g := fun k => ((comfitlaw02_awake.f k).bind fun t262 => (some t262))) (Ev.bind awake_ev (Ev.const rfl)) (fun k => by rw [comfitlaw02_LotsEnds.j2, if_pos hcm])
      · have hok : okL n b m ((c + 1 : Nat) : Int) := by unfold okL; omega
        have hF2 := fin_le n b m (c + 1 + 1) (by omega) (by omega)
        have eA2 : finA n b m ((c + 1 : Nat) : Int) = fr (Rat.divInt (fin n b m (c + 1 + 1)) (pas n m)) := rfl
        have hmono : fin n b m (c + 1) ≤ fin n b m (c + 1 + 1) := su_mono _ (by omega)
        refine Ev.succ (g := fun k => ((lots_Finite.f k n b m ((c + 1 : Nat) : Int)).bind fun bt263 => (if bt263.2.2 = 0 then ((comfitlaw02_unit.f bt263.1 bt263.2.1).bind fun t267 => (comfitlaw02_LotsEnds.j3 k n m (!t267) (fr (Rat.divInt (fin n b m (c + 1)) (pas n m))).1 (fr (Rat.divInt (fin n b m (c + 1)) (pas n m))).2 bt263.1 bt263.2.1)) else (comfitlaw02_LotsEnds.j3 k n m true (fr (Rat.divInt (fin n b m (c + 1)) (pas n m))).1 (fr (Rat.divInt (fin n b m (c + 1)) (pas n m))).2 bt263.1 bt263.2.1)))) ?_ (fun k => by rw [comfitlaw02_LotsEnds.j2, if_neg hcm, w_in (n := (c : Int) + 1) (by omega) (by omega), show (c : Int) + 1 = ((c + 1 : Nat) : Int) by omega])
        refine Ev.bind (Finite_ev _ _ _ _ hok) ?_
        simp only [if_true]
        rw [eA2, unit_ok _ _ hP hP2 hF2]
        simp only [Option.bind_some, Bool.not_true]
        obtain ⟨q, hq, e1, e2, p1, p2, p3, p4⟩ := parts _ _ hP hP2 hF
        obtain ⟨q', hq', e1', e2', p1', p2', p3', p4'⟩ := parts _ _ hP hP2 hF2
        generalize fr (Rat.divInt (fin n b m (c + 1)) (pas n m)) = x at *
        generalize fr (Rat.divInt (fin n b m (c + 1 + 1)) (pas n m)) = y at *
        refine Ev.succ (g := fun k => comfitlaw02_LotsEnds.l0 k n 1 m 0 x.1 x.2 y.1 y.2) ?_ (fun k => by rw [comfitlaw02_LotsEnds.j3, if_neg (by decide)])
        have hch : lots_choose.l0 59 n 1 m 0 = some (pas n m : Int) := by
          have := (choose_dec ⟨n, by omega⟩ ⟨m, by omega⟩).1
          rw [row_at] at this
          unfold lots_choose.f at this
          rw [if_neg (by dsimp only; omega), decide_eq_false (by dsimp only; omega), lots_choose.j0, if_neg (by decide)] at this
          exact this
        refine ends_last ?_ 59 1 0 hch
        have d1 : Int.tdiv (pas n m : Int) x.2 = q := by rw [e1]; exact Int.mul_tdiv_cancel_left _ (by omega)
        have d2 : Int.tdiv (pas n m : Int) y.2 = q' := by rw [e1']; exact Int.mul_tdiv_cancel_left _ (by omega)
        have m1 : Int.tmod (pas n m : Int) x.2 = 0 := by rw [e1]; exact Int.mul_tmod_right ..
        have m2 : Int.tmod (pas n m : Int) y.2 = 0 := by rw [e1']; exact Int.mul_tmod_right ..
        have hqP : q ≤ pas n m := by
          have := Int.mul_le_mul_of_nonneg_right (show 1 ≤ x.2 by omega) (show 0 ≤ q by omega)
          omega
        have hqP' : q' ≤ pas n m := by
          have := Int.mul_le_mul_of_nonneg_right (show 1 ≤ y.2 by omega) (show 0 ≤ q' by omega)
          omega
        refine Ev.ifNeg (by omega) (Ev.ifPos m1 (Ev.ifNeg (by omega) (Ev.ifPos m2 (Ev.ifPos ?_ (Ev.bind awake_ev (Ev.const rfl))))))
        rw [d1, d2, w_in (n := q) (by omega) (by omega), w_in (n := q') (by omega) (by omega), ← e2, ← e2', w_in (by omega) (by omega), w_in (by omega) (by omega)]
        omega
    have hj1 : Ev (fun k => comfitlaw02_LotsEnds.j1 k n b m c false (fr (Rat.divInt (fin n b m (c + 1)) (pas n m))).1 (fr (Rat.divInt (fin n b m (c + 1)) (pas n m))).2) true := by
      by_cases hcb : (c : Int) ≤ b
      · have hok : okL n m b c := by unfold okL; omega
        refine Ev.succ (g := fun k => ((lots_Finite.f k n m b c).bind fun bt258 => (if bt258.2.2 = 0 then (if (!(bt258.1 == (fr (Rat.divInt (fin n b m (c + 1)) (pas n m))).1) || (!(bt258.2.1 == (fr (Rat.divInt (fin n b m (c + 1)) (pas n m))).2))) = true then (some false) else (comfitlaw02_LotsEnds.j2 k n b m c (fr (Rat.divInt (fin n b m (c + 1)) (pas n m))).1 (fr (Rat.divInt (fin n b m (c + 1)) (pas n m))).2)) else (some false)))) ?_ (fun k => by rw [comfitlaw02_LotsEnds.j1, if_neg (by decide), if_pos hcb])
        refine Ev.bind (Finite_ev _ _ _ _ hok) ?_
        have eS : finA n m b c = fr (Rat.divInt (fin n b m (c + 1)) (pas n m)) := by
          show fr (Rat.divInt (fin n m b (c + 1)) (pas n b)) = _
          have hs := fin_swap n b m (c + 1) (by omega) (by omega) (by omega) (by omega)
          have hPb := pas_pos n b (by omega)
          congr 1
          rw [← divInt_cancel (fin n m b (c + 1)) (pas n b) (pas n m) (by omega) (by omega), ← divInt_cancel (fin n b m (c + 1)) (pas n m) (pas n b) (by omega) (by omega), show ((fin n m b (c + 1) : Nat) : Int) * (pas n m : Int) = ((fin n b m (c + 1) : Nat) : Int) * (pas n b : Int) by exact_mod_cast hs.symm, Int.mul_comm (pas n b : Int)]
        rw [eS]
        simp only [if_true, beq_self_eq_true, Bool.not_true, Bool.or_self, Bool.false_eq_true, if_false]
        exact hj2
      · exact Ev.succ hj2 (fun k => by rw [comfitlaw02_LotsEnds.j1, if_neg (by decide), if_neg hcb])
    refine Ev.succ hj1 (fun k => ?_)
    rw [comfitlaw02_LotsEnds.j0, if_neg (by decide), unit_ok _ _ hP hP2 hF]
    simp only [Option.bind_some, if_true]
    by_cases hmin : (c : Int) ≥ mn b m
    · rw [if_pos hmin]
      have e1 : fin n b m (c + 1) = pas n m := fin_all n b m c (by omega) (by omega) (by unfold mn at hmin; split at hmin <;> omega)
      have e2 : fr (Rat.divInt (fin n b m (c + 1)) (pas n m)) = (1, 1) := by
        rw [e1, show Rat.divInt (pas n m : Int) (pas n m : Int) = Rat.divInt (1 * (pas n m : Int)) (1 * (pas n m : Int)) by rw [Int.one_mul], divInt_cancel 1 1 _ (by omega) (by omega)]
        decide +kernel
      rw [e2]
      rfl
    · rw [if_neg hmin]
  · refine Ev.bind (Finite_no a0 a1 a2 a3 h) ?_
    simp only [show ¬ ((2 : Int) = 0) by decide, if_false]
    refine Ev.succ (g := fun k => ((comfitlaw02_awake.f k).bind fun t256 => (some t256))) (Ev.bind awake_ev (Ev.const rfl)) (fun k => ?_)
    rw [comfitlaw02_LotsEnds.j0, if_pos rfl, if_pos rfl]
end Go.Proofs.Ytdppnmfljfdhaaa.Pure
