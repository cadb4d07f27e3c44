/- The plain law of TagsRound: where a tape comes again it is the same, and not before. No conditions but the sizes that the arguments have. -/
import Derived.Test.YtjmbjnobbeflfaaDoorQPureTagsCuts
import Derived.Test.YtjmbjnobbeflfaaDoorQMSeq
import Derived.Test.YtjmbjnobbeflfaaDoorQXcomfitlaw06TagsRound
set_option linter.unusedVariables false
set_option linter.unusedSimpArgs false
namespace Go.Proofs.YtjmbjnobbeflfaaDoor.Pure
open Go.RowKit Go.Proofs.YtjmbjnobbeflfaaDoor.X Go.Proofs.YtjmbjnobbeflfaaDoorW.PrintWords Go.Proofs.YtjmbjnobbeflfaaDoorW.PrintLast Go.Proofs.YtjmbjnobbeflfaaDoorW.PrintMore
theorem u64_nat (m : Nat) (h : m ≤ 1000) : IntKind.u64.wrap (m : Int) = (m : Int) := by
  unfold IntKind.wrap
  simp [IntKind.signed, IntKind.bits]
  omega
theorem list_eq {a b : ByteArray} : (a.toList = b.toList) ↔ a = b := by
  rw [ByteArray.toList_eq, ByteArray.toList_eq]
  exact ⟨ba_ext, fun e => by rw [e]⟩
theorem Round_err {x : Int} (hx : x = 2 ∨ x = 4 ∨ x = 5 ∨ x = 6) (c : Int) (t s0 s1 s2 s3 : ByteArray) (a3 a4 b n : Int) : Ev (fun k => comfitlaw06_TagsRound.j0 k c t a3 a4 b n x true s0 s1 s2 s3) true := by
  refine Ev.succ (g := fun k => (comfitlaw06_awake.f k).bind fun t => some t) awake_bind (fun k => ?_)
  rw [comfitlaw06_TagsRound.j0, if_pos rfl]
  rcases hx with rfl | rfl | rfl | rfl
  · rw [if_pos rfl]
  · rw [if_neg (by decide), if_neg (by decide), if_pos rfl]
  · rw [if_neg (by decide), if_neg (by decide), if_neg (by decide), if_pos rfl]
  · rw [if_neg (by decide), if_pos rfl]
theorem Round_yes {c : Int} {s0 s1 s2 s3 t : ByteArray} (hb : cutB c s0 s1 s2 s3 t = true) (h0 : s0.size ≤ lim) (h1 : s1.size ≤ lim) (h2 : s2.size ≤ lim) (h3 : s3.size ≤ lim) (B N : Nat) (hN : 1 ≤ N) (hBN : B + N ≤ 1000)
    (he : sq (nextT c s0 s1 s2 s3) t B = sq (nextT c s0 s1 s2 s3) t (B + N)) (ho : ∀ i, i < B + N → okT c s0 s1 s2 s3 (sq (nextT c s0 s1 s2 s3) t i)) (hne : ∀ i j, i < j → j < B + N → sq (nextT c s0 s1 s2 s3) t i ≠ sq (nextT c s0 s1 s2 s3) t j)
    (a3 a4 x13 : Int) : Ev (fun k => comfitlaw06_TagsRound.j0 k c t a3 a4 (B : Int) (N : Int) x13 false s0 s1 s2 s3) true := by
  have hw : wrap64 ((B : Int) + (N : Int)) = ((B + N : Nat) : Int) := by unfold wrap64; omega
  obtain ⟨I, hI, hI2⟩ := mod_lt a3 (B + N) (by omega) hBN
  obtain ⟨J, hJ, hJ2⟩ := mod_lt a4 (B + N) (by omega) hBN
  have R := fun n hn ho => Run_at hb h0 h1 h2 h3 n hn ho
  have R1 := R B (by omega) (fun i hi => ho i (by omega))
  have R2 := R (B + N) hBN ho
  have R3 := R I (by omega) (fun i hi => ho i (by omega))
  have R4 := R J (by omega) (fun i hi => ho i (by omega))
  clear R
  have hEq : ((sq (nextT c s0 s1 s2 s3) t I).toList == (sq (nextT c s0 s1 s2 s3) t J).toList) = ((I : Int) == (J : Int)) := by
    by_cases e : I = J
    · rw [e, beq_self_eq_true, beq_self_eq_true]
    · rw [beq_eq_false_iff_ne.mpr (show (I : Int) ≠ (J : Int) by omega), beq_eq_false_iff_ne]
      intro e2
      rcases Nat.lt_or_gt_of_ne e with hl | hl
      · exact hne I J hl hJ2 (list_eq.mp e2)
      · exact hne J I hl hI2 (list_eq.mp e2).symm
  refine Ev.succ (g := fun k => comfitlaw06_TagsRound.j1 k c t a3 a4 (B : Int) (N : Int) false s0 s1 s2 s3) ?_ (fun k => by
    rw [comfitlaw06_TagsRound.j0, if_neg (by decide), if_neg (by omega), if_neg (by omega), hw, show decide (((B + N : Nat) : Int) > 1000) = false from decide_eq_false (by omega)])
  refine Ev.succ (g := fun k => comfitlaw06_TagsRound.j2 k c t a3 a4 (B : Int) (N : Int) false s0 s1 s2 s3) ?_ (fun k => by
    rw [comfitlaw06_TagsRound.j1, if_neg (by decide), hw, R1, Option.bind_some, R2, Option.bind_some, if_pos rfl, if_pos rfl, if_pos (by rw [he]), if_pos rfl, bne_self_eq_false])
  refine Ev.succ (g := fun k => (comfitlaw06_awake.f k).bind fun t => some t) awake_bind (fun k => ?_)
  rw [comfitlaw06_TagsRound.j2, if_neg (by decide), hw, u64_nat _ hBN, if_neg (by omega), hI, hJ, R3, Option.bind_some, R4, Option.bind_some, if_pos rfl, if_pos rfl, hEq, if_pos (by simp)]
theorem TagsRound_ev (c : Int) (s0 s1 s2 s3 t : ByteArray) (a3 a4 : Int) (h0 : s0.size ≤ lim) (h1 : s1.size ≤ lim) (h2 : s2.size ≤ lim) (h3 : s3.size ≤ lim) (ht : t.size ≤ lim) : Ev (fun k => comfitlaw06_TagsRound.f k c s0 s1 s2 s3 t a3 a4) true := by
  have hC : comfitref06_Cutter.f c s0 s1 s2 s3 t = some (cutB c s0 s1 s2 s3 t) := by unfold comfitref06_Cutter.f; rw [if_pos ⟨h0, h1, h2, h3, ht⟩]
  obtain ⟨T, hT, hTs, hcT, hTt⟩ := text_ev c s0 s1 s2 s3 t ht
  have hv : tags_cutter_valid.f c s0 s1 s2 s3 T = some (cutB c s0 s1 s2 s3 t) := by unfold tags_cutter_valid.f; rw [if_pos ⟨h0, h1, h2, h3, hTs⟩, hcT]
  unfold comfitlaw06_TagsRound.f
  rw [hT, hC]
  refine Ev.bind (g := fun _ => some _) (Ev.const rfl) ?_
  by_cases hb : cutB c s0 s1 s2 s3 t = true
  · have hTt := hTt hb
    subst hTt
    obtain ⟨hc, hl⟩ := Cuts.of hb
    obtain ⟨e, last, b, n, hr, hcase⟩ := tapesA_is hc hl 1000 0 (by omega) (fun i hi => by omega) (fun i j _ hj => by omega)
    have hr' : tapesA c s0 s1 s2 s3 1000 [] T = some (e, last, b, n) := hr
    have hA : tags_Again.f c s0 s1 s2 s3 T = some (if e = 0 then (if n = 0 then (if (last.size : Int) < c then (0, 0, 4) else (0, 0, 5)) else (b, n, 0)) else (0, 0, e)) := by
      unfold tags_Again.f
      rw [hv, hb, Option.bind_some, if_pos rfl, hr', Option.bind_some]
      split
      · split
        · split <;> rfl
        · rfl
      · rfl
    rw [hA]
    refine Ev.bind (g := fun _ => some _) (Ev.const rfl) ?_
    rcases hcase with ⟨rfl, rfl⟩ | rfl | rfl | ⟨rfl, B, N, rfl, rfl, g1, g2, g3, g4, g5⟩
    · rw [if_pos rfl, if_pos rfl]
      by_cases hs : (last.size : Int) < c
      · rw [if_pos hs]
        exact Ev.ifNeg (by decide) (Round_err (.inr (.inl rfl)) _ _ _ _ _ _ _ _ _ _)
      · rw [if_neg hs]
        exact Ev.ifNeg (by decide) (Round_err (.inr (.inr (.inl rfl))) _ _ _ _ _ _ _ _ _ _)
    · rw [if_neg (by decide)]
      exact Ev.ifNeg (by decide) (Round_err (.inr (.inl rfl)) _ _ _ _ _ _ _ _ _ _)
    · rw [if_neg (by decide)]
      exact Ev.ifNeg (by decide) (Round_err (.inr (.inr (.inr rfl))) _ _ _ _ _ _ _ _ _ _)
    · rw [if_pos rfl, if_neg (by omega), hb]
      refine Ev.ifPos (by first | rfl | trivial) ?_
      refine Ev.bind (g := fun _ => some _) (Ev.const rfl) ?_
      exact Round_yes hb h0 h1 h2 h3 B N g1 g2 g3 g4 g5 a3 a4 0
  · have hA : tags_Again.f c s0 s1 s2 s3 T = some (0, 0, 2) := by
      unfold tags_Again.f
      rw [hv, Bool.eq_false_iff.mpr hb, Option.bind_some, if_neg (by decide)]
    rw [hA]
    refine Ev.bind (g := fun _ => some _) (Ev.const rfl) ?_
    exact Ev.ifNeg (by decide) (Round_err (.inl rfl) _ _ _ _ _ _ _ _ _ _)
theorem TagsRound (a0 : Int) (s0 s1 s2 s3 t : ByteArray) (a3 a4 : Int) (w0 : (Lit.int .i64 a0).wf = true) (h0 : s0.size ≤ maxLen) (h1 : s1.size ≤ maxLen) (h2 : s2.size ≤ maxLen) (h3 : s3.size ≤ maxLen) (ht : t.size ≤ maxLen) (w3 : (Lit.int .i64 a3).wf = true) (w4 : (Lit.int .i64 a4).wf = true) : ∃ k, comfitlaw06_TagsRound.f k a0 s0 s1 s2 s3 t a3 a4 = some true :=
  (TagsRound_ev a0 s0 s1 s2 s3 t a3 a4 (lim_le h0) (lim_le h1) (lim_le h2) (lim_le h3) (lim_le ht)).get
end Go.Proofs.YtjmbjnobbeflfaaDoor.Pure
