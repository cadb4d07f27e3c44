/- The plan that Find tells is good enough, and no lesser one is: for all chances and numbers, no conditions. -/
import Derived.Test.YtdppnmfljfdhaaaQMFind
import Derived.Test.YtdppnmfljfdhaaaQHFound
set_option linter.unusedVariables false
set_option linter.unusedSimpArgs false
namespace Go.Proofs.Ytdppnmfljfdhaaa.Pure
open Go.RowKit Go.Proofs.Ytdppnmfljfdhaaa.X Go.Proofs.YtdppnmfljfdhaaaW.PrintWords Go.Proofs.YtdppnmfljfdhaaaW.PrintLast Go.Proofs.YtdppnmfljfdhaaaW.PrintMore

theorem fC_some (C : Nat → Nat → Bool) (n : Nat) : ∀ (d c a b : Nat), fC C n d c = some (a, b) → a = n ∧ c ≤ b ∧ b < c + d ∧ C n b = true ∧ ∀ c', c ≤ c' → C n c' = true → b ≤ c'
  | 0, c, a, b, h => by simp [fC] at h
  | d + 1, c, a, b, h => by
    unfold fC at h
    by_cases hc : C n c = true
    · rw [if_pos hc] at h
      simp only [Option.some.injEq, Prod.mk.injEq] at h
      obtain ⟨rfl, rfl⟩ := h
      exact ⟨rfl, by omega, by omega, hc, fun c' h1 _ => h1⟩
    · rw [if_neg hc] at h
      obtain ⟨h1, h2, h3, h4, h5⟩ := fC_some C n d (c + 1) a b h
      refine ⟨h1, by omega, by omega, h4, fun c' h6 h7 => ?_⟩
      by_cases he : c' = c
      · subst he; exact absurd h7 hc
      · exact h5 c' (by omega) h7
theorem fC_none (C : Nat → Nat → Bool) (n : Nat) : ∀ (d c : Nat), fC C n d c = none → ∀ c', c ≤ c' → c' < c + d → C n c' = false
  | 0, c, _, c', h1, h2 => absurd h2 (by omega)
  | d + 1, c, h, c', h1, h2 => by
    unfold fC at h
    by_cases hc : C n c = true
    · rw [if_pos hc] at h; simp at h
    · rw [if_neg hc] at h
      by_cases he : c' = c
      · subst he; simpa using hc
      · exact fC_none C n d (c + 1) h c' (by omega) (by omega)
theorem fN_some (C : Nat → Nat → Bool) : ∀ (d n a b : Nat), fN C d n = some (a, b) → n ≤ a ∧ a < n + d ∧ b < a ∧ C a b = true ∧ ∀ n' c', n ≤ n' → c' < n' → C n' c' = true → a < n' ∨ (a = n' ∧ b ≤ c')
  | 0, n, a, b, h => by simp [fN] at h
  | d + 1, n, a, b, h => by
    unfold fN at h
    cases hf : fC C n n 0 with
    | some r =>
      rw [hf] at h
      obtain rfl : r = (a, b) := by simpa using h
      obtain ⟨h1, h2, h3, h4, h5⟩ := fC_some C n n 0 a b hf
      subst h1
      refine ⟨by omega, by omega, by omega, h4, fun n' c' h6 h7 h8 => ?_⟩
      by_cases he : n' = a
      · subst he; exact Or.inr ⟨rfl, h5 c' (by omega) h8⟩
      · exact Or.inl (by omega)
    | none =>
      rw [hf] at h
      obtain ⟨h1, h2, h3, h4, h5⟩ := fN_some C d (n + 1) a b h
      refine ⟨by omega, by omega, h3, h4, fun n' c' h6 h7 h8 => ?_⟩
      by_cases he : n' = n
      · subst he
        have := fC_none C n' n' 0 hf c' (by omega) (by omega)
        rw [this] at h8
        simp at h8
      · exact h5 n' c' (by omega) h7 h8
theorem fN_none (C : Nat → Nat → Bool) : ∀ (d n : Nat), fN C d n = none → ∀ n' c', n ≤ n' → n' < n + d → c' < n' → C n' c' = false
  | 0, n, _, n', c', h1, h2, _ => absurd h2 (by omega)
  | d + 1, n, h, n', c', h1, h2, h3 => by
    unfold fN at h
    cases hf : fC C n n 0 with
    | some r => rw [hf] at h; simp at h
    | none =>
      rw [hf] at h
      by_cases he : n' = n
      · subst he; exact fC_none C n' n' 0 hf c' (by omega) (by omega)
      · exact fN_none C d (n + 1) h n' c' (by omega) (by omega) h3
theorem unit_tk {T L : List Int} {y o : Int} (ok : Ok T L) (hc : okC y o) : comfitlaw02_unit.f (fr (Rat.divInt (sTaken T L y o) (o ^ T.length))).1 (fr (Rat.divInt (sTaken T L y o) (o ^ T.length))).2 = some true := by
  have hb := sTaken_bound ok hc.2.2.1 hc.2.2.2
  have hp := pow_bound o hc.1 hc.2.1 T.length ok.most
  obtain ⟨c, hc0, e1, e2⟩ := divInt_parts (sTaken T L y o) (o ^ T.length) (by omega)
  unfold fr
  dsimp only
  have hd : (0 : Int) < ((Rat.divInt (sTaken T L y o) (o ^ T.length)).den : Int) := by have := (Rat.divInt (sTaken T L y o) (o ^ T.length)).den_nz; omega
  generalize ((Rat.divInt (sTaken T L y o) (o ^ T.length)).den : Int) = d at *
  generalize (Rat.divInt (sTaken T L y o) (o ^ T.length)).num = p at *
  rw [e1, e2] at hb
  rw [e1] at hp
  have h1 : 0 ≤ p := Int.nonneg_of_mul_nonneg_left hb.1 hc0
  have h2 : p ≤ d := Int.le_of_mul_le_mul_right hb.2 hc0
  have h3 : d ≤ d * c := by
    have := Int.mul_le_mul_of_nonneg_left (show 1 ≤ c by omega) (show 0 ≤ d by omega)
    omega
  unfold comfitlaw02_unit.f
  rw [if_pos (by omega), if_pos (by omega), if_pos (by omega), decide_eq_true h2]
theorem enough_ev {gy go by_ bo ry ro ay ao : Int} (hg : okC gy go) (hb : okC by_ bo) (n c : Nat) (h1 : 1 ≤ n) (h2 : n ≤ 12) (h3 : c < n) : ∃ k0, ∀ k, k0 ≤ k → EnoughIs k gy go by_ bo ry ro ay ao n c (okF gy go by_ bo ry ro ay ao n c) := by
  have hs := isS_nat h1 h2 h3
  have ok := (okP_iff _ _).1 (plans hs).2.2.1
  obtain ⟨e0, e1⟩ := take_ok ok
  obtain ⟨k1, t1⟩ := Taken_ev ok hg
  obtain ⟨k2, t2⟩ := Taken_ev ok hb
  refine ⟨max k1 k2, fun k hk => ⟨singleT n c, singleL n c, singleT n c, singleL n c, _, _, _, _, ?_, ?_, t1 k (by omega), t2 k (by omega), unit_tk ok hg, unit_tk ok hb, rfl⟩⟩
  · rw [Single_ok, if_pos hs]
  · have := Of_ok (singleT (n : Int) (c : Int)) (singleL (n : Int) (c : Int))
    rw [e0, e1] at this
    exact this
theorem LotsFound (gy go by_ bo ry ro ay ao n c : Int) (_ : (Lit.int .i64 gy).wf = true) (_ : (Lit.int .i64 go).wf = true) (_ : (Lit.int .i64 by_).wf = true) (_ : (Lit.int .i64 bo).wf = true) (_ : (Lit.int .i64 ry).wf = true) (_ : (Lit.int .i64 ro).wf = true) (_ : (Lit.int .i64 ay).wf = true) (_ : (Lit.int .i64 ao).wf = true) (_ : (Lit.int .i64 n).wf = true) (_ : (Lit.int .i64 c).wf = true) :
    ∃ (k : Nat) (r1 r2 e0 nv cv : Int) (i1 i2 i3 i4 : Bool), FindIs k gy go by_ bo ry ro ay ao r1 r2 e0 ∧ comfitlaw02_awake.f k = some true ∧
    comfitref02_Is.f gy go = some i1 ∧ comfitref02_Is.f by_ bo = some i2 ∧ comfitref02_Is.f ry ro = some i3 ∧ comfitref02_Is.f ay ao = some i4 ∧
    ((i1 && i2 && i3 && i4) = false → e0 = 2) ∧
    ((i1 && i2 && i3 && i4) = true → ((e0 = 0 ∧ EnoughIs k gy go by_ bo ry ro ay ao r1 r2 true) ∨ e0 = 4) ∧ wrap64 (1 + wrap64 (Int.tmod (IntKind.u64.wrap n) 12)) = nv ∧ ¬ IntKind.u64.wrap nv = 0 ∧ wrap64 (Int.tmod (IntKind.u64.wrap c) (IntKind.u64.wrap nv)) = cv ∧
      ((EnoughIs k gy go by_ bo ry ro ay ao nv cv false) ∨ (EnoughIs k gy go by_ bo ry ro ay ao nv cv true ∧ e0 = 0 ∧ (r1 < nv ∨ (¬ r1 < nv ∧ r1 = nv ∧ r2 ≤ cv))))) := by
  obtain ⟨ka, haw⟩ := awake_ev
  by_cases h : okC gy go ∧ okC by_ bo ∧ okC ry ro ∧ okC ay ao
  · obtain ⟨hg, hb, hr, ha⟩ := h
    obtain ⟨k1, h1⟩ := find_yes hg hb hr ha
    have hu : ∀ x : Int, 0 ≤ IntKind.u64.wrap x := fun x => by simp only [IntKind.wrap, IntKind.bits, IntKind.signed]; first | omega | (simp; omega)
    have hl := Int.tmod_lt_of_pos (IntKind.u64.wrap n) (show (0 : Int) < 12 by decide)
    have hl0 := Int.tmod_nonneg 12 (hu n)
    have e1 : wrap64 (Int.tmod (IntKind.u64.wrap n) 12) = Int.tmod (IntKind.u64.wrap n) 12 := w_in (by omega) (by omega)
    have e2 : wrap64 (1 + Int.tmod (IntKind.u64.wrap n) 12) = 1 + Int.tmod (IntKind.u64.wrap n) 12 := w_in (by omega) (by omega)
    obtain ⟨N, hN⟩ : ∃ N : Nat, 1 + Int.tmod (IntKind.u64.wrap n) 12 = (N : Int) := ⟨(1 + Int.tmod (IntKind.u64.wrap n) 12).toNat, by omega⟩
    have hN1 : 1 ≤ N := by omega
    have hN12 : N ≤ 12 := by omega
    have euN : IntKind.u64.wrap (N : Int) = (N : Int) := by simp only [IntKind.wrap, IntKind.bits, IntKind.signed]; first | omega | (simp; omega)
    have hm := Int.tmod_lt_of_pos (IntKind.u64.wrap c) (show (0 : Int) < (N : Int) by omega)
    have hm0 := Int.tmod_nonneg (N : Int) (hu c)
    have e3 : wrap64 (Int.tmod (IntKind.u64.wrap c) (N : Int)) = Int.tmod (IntKind.u64.wrap c) (N : Int) := w_in (by omega) (by omega)
    obtain ⟨M, hM⟩ : ∃ M : Nat, Int.tmod (IntKind.u64.wrap c) (N : Int) = (M : Int) := ⟨(Int.tmod (IntKind.u64.wrap c) (N : Int)).toNat, by omega⟩
    have hMN : M < N := by omega
    obtain ⟨k2, h2⟩ := enough_ev (ry := ry) (ro := ro) (ay := ay) (ao := ao) hg hb N M hN1 hN12 hMN
    generalize hC : okF gy go by_ bo ry ro ay ao = C at h1 h2
    have hf : ∃ k3, ∀ k, k3 ≤ k → (((fRes C).2.2 = 0 ∧ EnoughIs k gy go by_ bo ry ro ay ao (fRes C).1 (fRes C).2.1 true) ∨ (fRes C).2.2 = 4) := by
      rcases fRes_is C with ⟨a, b, hab, q1, q2, q3⟩ | ⟨_, _, _, q⟩
      · obtain ⟨p1, p2, p3, p4, _⟩ := fN_some C 12 1 a b hab
        obtain ⟨k3, h3⟩ := enough_ev (ry := ry) (ro := ro) (ay := ay) (ao := ao) hg hb a b (by omega) (by omega) p3
        rw [hC, p4] at h3
        exact ⟨k3, fun k hk => Or.inl ⟨q3, by rw [q1, q2]; exact h3 k hk⟩⟩
      · exact ⟨0, fun _ _ => Or.inr q⟩
    obtain ⟨k3, h3⟩ := hf
    refine ⟨max ka (max k1 (max k2 k3)), _, _, _, (N : Int), (M : Int), true, true, true, true, h1 _ (by omega), haw _ (by omega), by rw [Is_ok, decide_eq_true hg], by rw [Is_ok, decide_eq_true hb], by rw [Is_ok, decide_eq_true hr], by rw [Is_ok, decide_eq_true ha], fun h => by simp at h, fun _ => ⟨h3 _ (by omega), by rw [e1, e2, hN], by rw [euN]; omega, by rw [euN, e3, hM], ?_⟩⟩
    have h2' := h2 (max ka (max k1 (max k2 k3))) (by omega)
    cases hCv : C N M with
    | false => rw [hCv] at h2'; exact Or.inl h2'
    | true =>
      rw [hCv] at h2'
      rcases fRes_is C with ⟨a, b, hab, q1, q2, q3⟩ | ⟨hno, _, _, q⟩
      · obtain ⟨p1, p2, p3, p4, p5⟩ := fN_some C 12 1 a b hab
        refine Or.inr ⟨h2', q3, ?_⟩
        rw [q1, q2]
        rcases p5 N M hN1 hMN hCv with h | ⟨h, h'⟩
        · exact Or.inl (by omega)
        · exact Or.inr ⟨by omega, by omega, by omega⟩
      · have := fN_none C 12 1 hno N M hN1 (by omega) hMN
        rw [this] at hCv
        simp at hCv
  · refine ⟨ka, 0, 0, 2, 0, 0, _, _, _, _, find_no ka h, haw _ (by omega), Is_ok _ _, Is_ok _ _, Is_ok _ _, Is_ok _ _, fun _ => rfl, fun hh => ?_⟩
    simp only [Bool.and_eq_true, decide_eq_true_eq] at hh
    exact absurd ⟨hh.1.1.1, hh.1.1.2, hh.1.2, hh.2⟩ h
end Go.Proofs.Ytdppnmfljfdhaaa.Pure
