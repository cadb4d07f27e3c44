/- The plain law of TagsGoes: Go of the program and Go of the reference tell the last place of one and the same run. No conditions but the sizes that the arguments have. -/
import Derived.Test.YtjmbjnobbeflfaaQMGo
import Derived.Test.YtjmbjnobbeflfaaQXcomfitlaw06TagsGoes
import Derived.Test.YtjmbjnobbeflfaaQHRow
set_option linter.unusedVariables false
set_option linter.unusedSimpArgs false
namespace Go.Proofs.Ytjmbjnobbeflfaa.Pure
open Go.RowKit Go.Proofs.Ytjmbjnobbeflfaa.X Go.Proofs.YtjmbjnobbeflfaaW.PrintWords Go.Proofs.YtjmbjnobbeflfaaW.PrintLast Go.Proofs.YtjmbjnobbeflfaaW.PrintMore
theorem TagsGoes (l : List S39) (a b s : Int) (hl : l.length ≤ maxLen) (hw : ∀ x ∈ l, S39.wf x) (wa : (Lit.int .i64 a).wf = true) (wb : (Lit.int .i64 b).wf = true) (ws : (Lit.int .i64 s).wf = true) : ∃ k, comfitlaw06_TagsGoes.f k l a b s = some true := by
  unfold maxLen at hl
  refine Ev.get ?_
  have hawake : Ev (fun k => (comfitlaw06_awake.f k).bind fun t255 => (some t255)) true := Ev.bind awake_ev (Ev.const rfl)
  by_cases hg : goodGo (l.map cv) a b s
  · obtain ⟨hm, hj, h0, h1⟩ := hg
    have hgood := (isM_good _).mp hm
    obtain ⟨n, rfl⟩ : ∃ n : Nat, s = (n : Int) := ⟨s.toNat, by omega⟩
    have hof := Of_ev l hl
    rw [good_take l hm] at hof
    refine Ev.bind hof ?_
    refine Ev.bind (Go_ok hgood hj n (by omega)) ?_
    refine Ev.bind (ref_Machine l hl) ?_
    refine Ev.ifPos hm ?_
    simp only [Jars_is, Option.bind_some]
    refine Ev.ifPos hj (Ev.ifNeg (by omega) ?_)
    rw [show decide ((n : Int) > 1000) = false from decide_eq_false (by omega)]
    refine Ev.succ (g := fun k => _) (Ev.bind (ref_Go hgood hj n (by omega)) (f := fun k bt256 => _) ?_) (fun k => by rw [comfitlaw06_TagsGoes.j0, if_neg (by decide)])
    dsimp only
    refine Ev.ifPos rfl (Ev.ifPos (by simp) (Ev.ifPos rfl (Ev.ifPos rfl hawake)))
  · have hb : Ev (fun k => tags_Go.f k ((l.take 11).map cv) a b s) (0, 0, 0, 0, 2) := Go_bad _ a b s (by unfold goodGo at hg ⊢; rw [isM_take]; exact hg)
    have hj0 : Ev (fun k => comfitlaw06_TagsGoes.j0 k l s 0 0 2 true a b 0 0) true :=
      Ev.succ (g := fun k => (comfitlaw06_awake.f k).bind fun t255 => (some t255)) hawake (fun k => by rw [comfitlaw06_TagsGoes.j0, if_pos rfl, if_pos rfl, if_pos (by decide), if_pos rfl, if_pos rfl])
    refine Ev.bind (Of_ev l hl) ?_
    refine Ev.bind hb ?_
    refine Ev.bind (ref_Machine l hl) ?_
    by_cases h1 : isM (l.map cv) = true
    · refine Ev.ifPos h1 ?_
      simp only [Jars_is, Option.bind_some]
      by_cases h2 : jarsOk a b = true
      · refine Ev.ifPos h2 ?_
        by_cases h3 : s < 0
        · exact Ev.ifPos h3 hj0
        · refine Ev.ifNeg h3 ?_
          rw [show decide (s > 1000) = true from decide_eq_true (by
            by_cases h4 : s ≤ 1000
            · exact absurd ⟨h1, h2, by omega, h4⟩ hg
            · omega)]
          exact hj0
      · exact Ev.ifNeg h2 hj0
    · exact Ev.ifNeg h1 hj0
end Go.Proofs.Ytjmbjnobbeflfaa.Pure
