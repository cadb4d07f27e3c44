/- Plain laws of machines: Go, Ends of the program and of the reference; awake. -/
import Derived.Test.YtjmbjnobbeflfaaQMTag
set_option linter.unusedVariables false
set_option linter.unusedSimpArgs false
namespace Go.Proofs.Ytjmbjnobbeflfaa.Pure
open Go.RowKit Go.Proofs.Ytjmbjnobbeflfaa.X Go.Proofs.YtjmbjnobbeflfaaW.PrintWords Go.Proofs.YtjmbjnobbeflfaaW.PrintLast Go.Proofs.YtjmbjnobbeflfaaW.PrintMore
theorem awake_ev : Ev (fun k => comfitlaw06_awake.f k) true := Ev.of comfitlaw06_awake.mono 10 (by decide +kernel)
theorem lastP_eq {T : List S66} (h : 1 ≤ T.length) (hl : T.length ≤ 100000) : wrap64 ((T.length : Int) - 1) = ((T.length - 1 : Nat) : Int) ∧ rd_T66 T ((T.length - 1 : Nat) : Int) = lastP T := by
  refine ⟨by unfold wrap64; omega, ?_⟩
  unfold rd_T66 lastP
  rw [List.getLastD_eq_getLast?, List.getLast?_eq_getElem?]
  simp
theorem lastP_map {T : List S66} (h : 1 ≤ T.length) (l : List S57) : rd_T71 (T.map (pf l)) ((T.length - 1 : Nat) : Int) = pf l (lastP T) := by
  unfold rd_T71 lastP
  rw [List.getLastD_eq_getLast?, List.getLast?_eq_getElem?]
  rw [List.getD_eq_getElem?_getD]
  simp
  rw [List.getElem?_eq_getElem (by omega)]
  simp
/-! ### Go -/
def goodGo (l : List S57) (a b s : Int) : Prop := isM l = true ∧ jarsOk a b = true ∧ 0 ≤ s ∧ s ≤ 1000
theorem Go_bad (l : List S57) (a b s : Int) (h : ¬ goodGo l a b s) : Ev (fun k => tags_Go.f k l a b s) (0, 0, 0, 0, 2) := by
  have hj : Ev (fun k => tags_Go.j0 k l s true a b) (0, 0, 0, 0, 2) := Ev.succ (g := fun _ => some (0, 0, 0, 0, 2)) (Ev.const rfl) (fun k => by rw [tags_Go.j0, if_pos rfl])
  unfold tags_Go.f tags_isMachine.f
  simp only [Option.bind_some, isJars_is]
  by_cases h1 : isM l = true
  · refine Ev.ifPos h1 ?_
    by_cases h2 : jarsOk a b = true
    · refine Ev.ifPos h2 ?_
      by_cases h3 : s < 0
      · exact Ev.ifPos h3 hj
      · refine Ev.ifNeg h3 ?_
        rw [show decide (s > 1000) = true from decide_eq_true (by
          by_cases h4 : s ≤ 1000
          · exact absurd ⟨h1, h2, by omega, h4⟩ h
          · omega)]
        exact hj
    · exact Ev.ifNeg h2 hj
  · exact Ev.ifNeg h1 hj
theorem Go_ok {l : List S57} (hg : Good l) {a b : Int} (hj : jarsOk a b = true) (n : Nat) (hn : n ≤ 1000) :
    Ev (fun k => tags_Go.f k l a b (n : Int)) ((lastP (tr l n (p0 a b))).f0, (lastP (tr l n (p0 a b))).f1.f0, (lastP (tr l n (p0 a b))).f1.f1, (((tr l n (p0 a b)).length - 1 : Nat) : Int), 0) := by
  have h0 : Ev (fun k => tags_Go.j0 k l (n : Int) false a b) ((lastP (tr l n (p0 a b))).f0, (lastP (tr l n (p0 a b))).f1.f0, (lastP (tr l n (p0 a b))).f1.f1, (((tr l n (p0 a b)).length - 1 : Nat) : Int), 0) := by
    have hlen := tr_len l n (p0 a b)
    obtain ⟨e1, e2⟩ := lastP_eq (T := tr l n (p0 a b)) hlen.1 (by omega)
    refine Ev.succ (g := fun k => (tags_runs.f k l a b (n : Int)).bind fun bt172 => (if 0 ≤ (wrap64 ((bt172.1.length : Int) - 1)) then (if (wrap64 ((bt172.1.length : Int) - 1)) < (bt172.1.length : Int) then (some ((rd_T66 bt172.1 (wrap64 ((bt172.1.length : Int) - 1))).f0, (rd_T66 bt172.1 (wrap64 ((bt172.1.length : Int) - 1))).f1.f0, (rd_T66 bt172.1 (wrap64 ((bt172.1.length : Int) - 1))).f1.f1, (bt172.2.length : Int), 0)) else (none)) else (none)))
      (Ev.bind (runs_ev hg hj n hn) (Ev.const ?_)) (fun k => by rw [tags_Go.j0, if_neg (by decide)])
    dsimp only
    rw [e1, if_pos (by omega), if_pos (by omega), e2]
    simp
  unfold tags_Go.f tags_isMachine.f
  simp only [Option.bind_some, isJars_is]
  refine Ev.ifPos ((isM_good l).mpr hg) (Ev.ifPos hj (Ev.ifNeg (by omega) ?_))
  rw [show decide ((n : Int) > 1000) = false from decide_eq_false (by omega)]
  exact h0
theorem ref_Go {lr : List S39} (hg : Good (lr.map cv)) {a b : Int} (hj : jarsOk a b = true) (n : Nat) (hn : n ≤ 1000) :
    Ev (fun k => comfitref06_Go.f k lr a b (n : Int)) ((lastP (tr (lr.map cv) n (p0 a b))).f0, (lastP (tr (lr.map cv) n (p0 a b))).f1.f0, (lastP (tr (lr.map cv) n (p0 a b))).f1.f1, (((tr (lr.map cv) n (p0 a b)).length - 1 : Nat) : Int)) := by
  have hlen := tr_len (lr.map cv) n (p0 a b)
  obtain ⟨e1, e2⟩ := lastP_eq (T := tr (lr.map cv) n (p0 a b)) hlen.1 (by omega)
  refine Ev.bind (Places_ev hg hj n hn) (Ev.const ?_)
  dsimp only
  rw [List.length_map, e1, if_pos (by omega), if_pos (by omega), lastP_map hlen.1]
  rfl

/-! ### Ends -/
end Go.Proofs.Ytjmbjnobbeflfaa.Pure
