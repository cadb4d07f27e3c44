/- The plain law of TagsEnds: Ends, Circle and CheckCircle of the program and of the reference tell the same of one and the same run. No conditions but the sizes that the arguments have. -/
import Derived.Test.YtjmbjnobbeflfaaQMCirc
import Derived.Test.YtjmbjnobbeflfaaQXcomfitlaw06TagsEnds
import Derived.Test.YtjmbjnobbeflfaaQHRow
set_option linter.unusedVariables false
set_option linter.unusedSimpArgs false
namespace Go.Proofs.Ytjmbjnobbeflfaa.Pure
open Go.RowKit Go.Proofs.Ytjmbjnobbeflfaa.X Go.Proofs.YtjmbjnobbeflfaaW.PrintWords Go.Proofs.YtjmbjnobbeflfaaW.PrintLast Go.Proofs.YtjmbjnobbeflfaaW.PrintMore
theorem TagsEnds (l : List S39) (a b c d : Int) (hl : l.length ≤ maxLen) (hw : ∀ x ∈ l, S39.wf x) (wa : (Lit.int .i64 a).wf = true) (wb : (Lit.int .i64 b).wf = true) (wc : (Lit.int .i64 c).wf = true) (wd : (Lit.int .i64 d).wf = true) : ∃ k, comfitlaw06_TagsEnds.f k l a b c d = some true := by
  unfold maxLen at hl
  refine Ev.get ?_
  have hawake : Ev (fun k => (comfitlaw06_awake.f k).bind fun t255 => (some t255)) true := Ev.bind awake_ev (Ev.const rfl)
  by_cases hg : isM (l.map cv) = true ∧ jarsOk a b = true
  · obtain ⟨hm, hj⟩ := hg
    have hgood := (isM_good _).mp hm
    have hof := Of_ev l hl
    rw [good_take l hm] at hof
    refine Ev.bind hof (Ev.bind (Ends_ok hgood hj) (Ev.bind hof (Ev.bind (Circle_ok hgood hj) (Ev.bind hof (Ev.bind (Check_ok hgood hj c d) (Ev.bind (ref_Machine l hl) ?_))))))
    refine Ev.ifPos hm ?_
    simp only [Jars_is, Option.bind_some]
    rw [hj]
    refine Ev.succ (g := fun k => _) (Ev.bind (ref_Ends hgood hj) (f := fun k bt380 => _) ?_) (fun k => by rw [comfitlaw06_TagsEnds.j0, if_neg (by decide)])
    refine Ev.bind (ref_Circle hgood hj) ?_
    refine Ev.ifPos rfl (Ev.ifPos rfl (Ev.ifPos (by simp) (Ev.ifPos rfl ?_)))
    refine Ev.bind (ref_Check hgood hj c d) ?_
    exact Ev.ifPos (by simp) (Ev.ifPos rfl hawake)
  · have hg' : ¬ (isM ((l.take 11).map cv) = true ∧ jarsOk a b = true) := by rw [isM_take]; exact hg
    have hj0 : Ev (fun k => comfitlaw06_TagsEnds.j0 k l 0 2 2 false 2 true a b c d 0 0) true :=
      Ev.succ (g := fun k => (comfitlaw06_awake.f k).bind fun t255 => (some t255)) hawake (fun k => by rw [comfitlaw06_TagsEnds.j0, if_pos rfl, if_pos rfl, if_pos (by decide), if_neg (by decide), if_pos rfl, if_pos rfl, if_pos rfl])
    refine Ev.bind (Of_ev l hl) (Ev.bind (Ends_bad _ a b hg') (Ev.bind (Of_ev l hl) (Ev.bind (Circle_bad _ a b hg') (Ev.bind (Of_ev l hl) (Ev.bind (Check_bad _ a b c d hg') (Ev.bind (ref_Machine l hl) ?_))))))
    by_cases h1 : isM (l.map cv) = true
    · refine Ev.ifPos h1 ?_
      simp only [Jars_is, Option.bind_some]
      rw [show jarsOk a b = false by cases hq : jarsOk a b with
        | false => rfl
        | true => exact absurd ⟨h1, hq⟩ hg]
      exact hj0
    · exact Ev.ifNeg h1 hj0
end Go.Proofs.Ytjmbjnobbeflfaa.Pure
