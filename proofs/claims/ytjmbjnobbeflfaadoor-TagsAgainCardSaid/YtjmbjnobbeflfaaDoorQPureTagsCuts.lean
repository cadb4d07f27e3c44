/- The plain law of TagsCuts: Cut and Run answer as the reference. No conditions but the sizes that the arguments have. -/
import Derived.Test.YtjmbjnobbeflfaaDoorQMTape
import Derived.Test.YtjmbjnobbeflfaaDoorQXcomfitlaw06TagsCuts
set_option linter.unusedVariables false
set_option linter.unusedSimpArgs false
namespace Go.Proofs.YtjmbjnobbeflfaaDoor.Pure
open Go.RowKit Go.Proofs.YtjmbjnobbeflfaaDoor.X Go.Proofs.YtjmbjnobbeflfaaDoorW.PrintWords Go.Proofs.YtjmbjnobbeflfaaDoorW.PrintLast Go.Proofs.YtjmbjnobbeflfaaDoorW.PrintMore
theorem Run_both {c : Int} {s0 s1 s2 s3 : ByteArray} (h : Cuts c s0 s1 s2 s3) {n : Int} (hn : 0 ≤ n ∧ n ≤ 1000) : ∀ (d : Nat) (k : Int) (t : ByteArray), k + d = n → 0 ≤ k → lettersB t 200 = true →
    ∃ e last done, tapesR c s0 s1 s2 s3 d k t = some (e, last, done) ∧ Ev (fun K => comfitref06_Run.l0 K c t n n k s0 s1 s2 s3) (if e = 6 then (noT, 0, 6) else (last, done, 0)) := by
  intro d
  induction d with
  | zero =>
    intro k t hk h0 ht
    refine ⟨0, t, k, rfl, ?_⟩
    rw [if_neg (by decide)]
    exact Ev.succ (g := fun _ => some (t, k, 0)) (Ev.const rfl) (fun K => by rw [comfitref06_Run.l0, if_neg (by omega), show n = k by omega])
  | succ d ih =>
    intro k t hk h0 ht
    have hs := step_ok h ht
    have hr := ref_step h ht
    have hgo : ∀ K, comfitref06_Run.l0 (K + 1) c t n n k s0 s1 s2 s3 = ((comfitref06_Cut.f c s0 s1 s2 s3 t).bind fun bt166 => (if bt166.2 = 4 then (some (t, k, 0)) else (if bt166.2 = 0 then (comfitref06_Run.l0 K c bt166.1 n n (wrap64 (k + 1)) s0 s1 s2 s3) else (some ((⟨#[]⟩ : ByteArray), 0, bt166.2))))) := fun K => by
      rw [comfitref06_Run.l0, if_pos (by omega)]
    rw [hr] at hgo
    rw [tapesR, hs, Option.bind_some]
    by_cases h1 : (t.size : Int) < c
    · rw [if_pos h1] at hgo ⊢
      refine ⟨4, t, k, by rw [if_neg (show ¬ (4 : Int) = 0 by decide)], ?_⟩
      rw [if_neg (by decide)]
      exact Ev.succ (g := fun _ => some (t, k, 0)) (Ev.const rfl) (fun K => by rw [hgo, Option.bind_some, if_pos rfl])
    · rw [if_neg h1] at hgo ⊢
      by_cases h2 : ((nextT c s0 s1 s2 s3 t).size : Int) > 200
      · rw [if_pos h2] at hgo ⊢
        refine ⟨6, t, k, by rw [if_neg (by decide)], ?_⟩
        rw [if_pos rfl]
        exact Ev.succ (g := fun _ => some (noT, 0, 6)) (Ev.const rfl) (fun K => by rw [hgo, Option.bind_some, if_neg (by decide), if_neg (by decide)]; rfl)
      · rw [if_neg h2] at hgo ⊢
        obtain ⟨e, last, done, h3, h4⟩ := ih (k + 1) (nextT c s0 s1 s2 s3 t) (by omega) (by omega) (next_let h ht h2)
        refine ⟨e, last, done, by rw [if_pos rfl]; exact h3, ?_⟩
        exact Ev.succ (g := fun K => _) h4 (fun K => by rw [hgo, Option.bind_some, if_neg (show ¬ (0 : Int) = 4 by decide), if_pos rfl, show wrap64 (k + 1) = k + 1 by unfold wrap64; omega])
theorem extract_all (t : ByteArray) : t.extract 0 t.size = t := ba_ext (by rw [cut_data, List.drop_zero])
theorem text_ev (c : Int) (s0 s1 s2 s3 t : ByteArray) (ht : t.size ≤ lim) : ∃ T, comfitlaw06_text.f t = some T ∧ T.size ≤ lim ∧ cutB c s0 s1 s2 s3 T = cutB c s0 s1 s2 s3 t ∧ (cutB c s0 s1 s2 s3 t = true → T = t) := by
  unfold lim at *
  unfold comfitlaw06_text.f mn
  by_cases h : (210 : Int) < (t.size : Int)
  · rw [if_pos h, if_pos (by omega), if_pos (by omega)]
    have hsz : (t.extract 0 (210 : Int).toNat).size = 210 := by rw [ByteArray.size_extract]; show min 210 t.size - 0 = 210; omega
    have f1 : ∀ x : ByteArray, 200 < x.size → cutB c s0 s1 s2 s3 x = false := by
      intro x hx
      unfold cutB lettersB
      rw [show decide ((x.size : Int) ≤ 200) = false from decide_eq_false (by omega)]
      simp
    refine ⟨_, rfl, by omega, by rw [f1 _ (by omega), f1 t (by omega)], fun e => ?_⟩
    rw [f1 t (by omega)] at e
    cases e
  · rw [if_neg h, if_pos (by omega), if_pos (by omega), show ((t.size : Int)).toNat = t.size from Int.toNat_natCast _, extract_all]
    exact ⟨t, rfl, by omega, rfl, fun _ => rfl⟩
theorem noT_list : noT.toList = [] := by rw [ByteArray.toList_eq]; rfl
theorem TagsCuts_ev (c : Int) (s0 s1 s2 s3 t : ByteArray) (n : Int) (h0 : s0.size ≤ lim) (h1 : s1.size ≤ lim) (h2 : s2.size ≤ lim) (h3 : s3.size ≤ lim) (ht : t.size ≤ lim) : Ev (fun k => comfitlaw06_TagsCuts.f k c s0 s1 s2 s3 t n) true := by
  obtain ⟨T, hT, hTs, hcT, hTt⟩ := text_ev c s0 s1 s2 s3 t ht
  have hv : tags_cutter_valid.f c s0 s1 s2 s3 T = some (cutB c s0 s1 s2 s3 t) := by unfold tags_cutter_valid.f; rw [if_pos ⟨h0, h1, h2, h3, hTs⟩, hcT]
  have hC : comfitref06_Cutter.f c s0 s1 s2 s3 t = some (cutB c s0 s1 s2 s3 t) := by unfold comfitref06_Cutter.f; rw [if_pos ⟨h0, h1, h2, h3, ht⟩]
  unfold comfitlaw06_TagsCuts.f
  rw [hT]
  simp only [Option.bind_some]
  by_cases hb : cutB c s0 s1 s2 s3 t = true
  · obtain rfl := hTt hb
    obtain ⟨hc, hl⟩ := Cuts.of hb
    rw [hb] at hv hC
    have hs := step_ok hc hl
    have hr := ref_step hc hl
    have hcut : tags_Cut.f c s0 s1 s2 s3 T = comfitref06_Cut.f c s0 s1 s2 s3 T := by
      unfold tags_Cut.f
      rw [hv, Option.bind_some, if_pos rfl, hs, hr, Option.bind_some]
      split
      · rfl
      · split
        · rfl
        · rfl
    obtain ⟨⟨q1, q2⟩, hq⟩ : ∃ q, comfitref06_Cut.f c s0 s1 s2 s3 T = some q := ⟨_, hr⟩
    rw [hcut, hq, hC]
    simp only [Option.bind_some]
    by_cases hn : 0 ≤ n ∧ n ≤ 1000
    · obtain ⟨e, last, done, h4, h5⟩ := Run_both hc hn n.toNat 0 T (by omega) (by omega) hl
      have hR : tags_Run.f c s0 s1 s2 s3 T n = some (if e = 6 then (noT, 0, 6) else (last, done, 0)) := by
        unfold tags_Run.f
        rw [hv, Option.bind_some, if_pos rfl, if_neg (by omega), if_neg (by omega), h4, Option.bind_some]
        dsimp only
        split <;> rfl
      rw [hR]
      simp only [Option.bind_some]
      generalize (if e = 6 then (noT, (0 : Int), (6 : Int)) else (last, done, 0)) = y at *
      refine Ev.ifPos (by first | rfl | trivial) (Ev.ifPos (by first | rfl | trivial) (Ev.ifPos (by first | rfl | trivial) (Ev.bind awake_ev ?_)))
      refine Ev.succ (g := fun k => (comfitref06_Run.f k c s0 s1 s2 s3 T n).bind fun bt185 => (if y.1.toList = bt185.1.toList then (if y.2.1 = bt185.2.1 then (some (y.2.2 == bt185.2.2)) else (none)) else (none))) (Ev.bind h5 (Ev.const ?_)) (fun k => ?_)
      · rw [if_pos rfl, if_pos rfl]; simp
      · rw [comfitlaw06_TagsCuts.j0, if_neg (by decide), if_neg (by omega), if_neg (by omega)]
    · have hR : tags_Run.f c s0 s1 s2 s3 T n = some (noT, 0, 2) := by
        unfold tags_Run.f
        rw [hv, Option.bind_some, if_pos rfl]
        by_cases hn0 : n < 0
        · rw [if_pos hn0]
        · rw [if_neg hn0, if_pos (by omega)]
      rw [hR]
      simp only [Option.bind_some]
      refine Ev.ifPos (by first | rfl | trivial) (Ev.ifPos (by first | rfl | trivial) (Ev.ifPos (by first | rfl | trivial) (Ev.bind awake_ev ?_)))
      refine Ev.succ (g := fun _ => some true) (Ev.const rfl) (fun k => ?_)
      rw [comfitlaw06_TagsCuts.j0, if_neg (by decide)]
      by_cases hn0 : n < 0
      · rw [if_pos hn0, if_pos noT_list, if_pos rfl]; rfl
      · rw [if_neg hn0, if_pos (by omega), if_pos noT_list, if_pos rfl]; rfl
  · have hbf := Bool.eq_false_iff.mpr hb
    rw [hbf] at hv hC
    have hcut : tags_Cut.f c s0 s1 s2 s3 T = some (noT, 2) := by
      unfold tags_Cut.f
      rw [hv, Option.bind_some, if_neg (by decide)]
      rfl
    have hR : tags_Run.f c s0 s1 s2 s3 T n = some (noT, 0, 2) := by
      unfold tags_Run.f
      rw [hv, Option.bind_some, if_neg (by decide)]
    rw [hcut, hR, hC]
    simp only [Option.bind_some]
    exact Ev.ifNeg (by decide) (Ev.ifPos noT_list (Ev.ifPos noT_list (Ev.ifPos (by first | rfl | trivial) (Ev.ifPos (by first | rfl | trivial) (Ev.ifPos (by first | rfl | trivial) awake_bind)))))
theorem lim_le {s : ByteArray} (h : s.size ≤ maxLen) : s.size ≤ lim := Nat.le_trans h (by decide)
theorem TagsCuts (a0 : Int) (s0 s1 s2 s3 t : ByteArray) (a3 : Int) (w0 : (Lit.int .i64 a0).wf = true) (h0 : s0.size ≤ maxLen) (h1 : s1.size ≤ maxLen) (h2 : s2.size ≤ maxLen) (h3 : s3.size ≤ maxLen) (ht : t.size ≤ maxLen) (w3 : (Lit.int .i64 a3).wf = true) : ∃ k, comfitlaw06_TagsCuts.f k a0 s0 s1 s2 s3 t a3 = some true :=
  (TagsCuts_ev a0 s0 s1 s2 s3 t a3 (lim_le h0) (lim_le h1) (lim_le h2) (lim_le h3) (lim_le ht)).get
end Go.Proofs.YtjmbjnobbeflfaaDoor.Pure
