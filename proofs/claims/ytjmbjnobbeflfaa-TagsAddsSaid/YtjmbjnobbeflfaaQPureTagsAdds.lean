/- The plain law of TagsAdds: Adds and Fewer answer as the reference. No conditions but the sizes that the arguments have. -/
import Derived.Test.YtjmbjnobbeflfaaQMAdds
import Derived.Test.YtjmbjnobbeflfaaQMFewer
import Derived.Test.YtjmbjnobbeflfaaQXcomfitlaw06TagsAdds
import Derived.Test.YtjmbjnobbeflfaaQHRow
set_option linter.unusedVariables false
set_option linter.unusedSimpArgs false
namespace Go.Proofs.Ytjmbjnobbeflfaa.Pure
open Go.RowKit Go.Proofs.Ytjmbjnobbeflfaa.X Go.Proofs.YtjmbjnobbeflfaaW.PrintWords Go.Proofs.YtjmbjnobbeflfaaW.PrintLast Go.Proofs.YtjmbjnobbeflfaaW.PrintMore
theorem TagsAdds_ev (l : List S39) (a : Int) (hl : l.length ≤ 9223372036854775807) : Ev (fun k => comfitlaw06_TagsAdds.f k l a) true := by
  have hb : Ev (fun k => (comfitlaw06_awake.f k).bind fun t463 => (some t463)) true := Ev.bind awake_ev (Ev.const rfl)
  have hO := Of_ev l hl
  by_cases hm : isM (l.map cv) = true
  · have hg := (isM_good _).mp hm
    have hle : l.length ≤ 8 := by have := hg.le; simpa using this
    rw [good_take l hm] at hO
    have hF : ∀ k : Nat, tags_Fewer.f (l.map cv) = some (outB (marks (l.map cv)) (l.map cv) l.length, 0) := fun _ => by unfold tags_Fewer.f; rw [if_pos hm, List.length_map]
    have hob := outB_le (marks (l.map cv)) (l.map cv) l.length
    have tail : ∀ b : Bool × Int, (a = 0 ∨ a = 1 → b = (addsB (l.map cv) a, 0)) → (¬ (a = 0 ∨ a = 1) → b = (false, 2)) → Ev (fun k => comfitlaw06_TagsAdds.j0 k l a b.1 b.2 (!true)) true := by
      intro b h1 h2
      by_cases ha : a = 0 ∨ a = 1
      · obtain rfl := h1 ha
        refine Ev.succ (g := fun k => (comfitref06_Adds.f k l a).bind fun t472 => (if (addsB (l.map cv) a == t472) = true then (some ((0 : Int) == 0)) else (none))) (Ev.bind (ref_Adds hg a ha) (Ev.const ?_)) (fun k => ?_)
        · rw [if_pos (by simp)]; rfl
        · rw [comfitlaw06_TagsAdds.j0, if_neg (by decide), if_neg (by omega), if_neg (by omega)]
      · obtain rfl := h2 ha
        refine Ev.succ (g := fun _ => some true) (Ev.const rfl) (fun k => ?_)
        rw [comfitlaw06_TagsAdds.j0, if_neg (by decide)]
        by_cases h0 : a < 0
        · rw [if_pos h0, if_neg (by decide)]; rfl
        · rw [if_neg h0, if_pos (by omega), if_neg (by decide)]; rfl
    have hA : ∃ b : Bool × Int, Ev (fun k => tags_Adds.f k (l.map cv) a) b ∧ (a = 0 ∨ a = 1 → b = (addsB (l.map cv) a, 0)) ∧ (¬ (a = 0 ∨ a = 1) → b = (false, 2)) := by
      by_cases ha : a = 0 ∨ a = 1
      · exact ⟨_, Adds_ok hg a ha, fun _ => rfl, fun h => absurd ha h⟩
      · exact ⟨_, Adds_bad a (.inr ha), fun h => absurd h ha, fun _ => rfl⟩
    obtain ⟨b, hA, h1, h2⟩ := hA
    unfold comfitlaw06_TagsAdds.f
    refine Ev.bind hO (Ev.bind hA (Ev.bind hO ?_))
    rw [hF 0]
    refine Ev.bind (g := fun _ => some _) (Ev.const rfl) ?_
    refine Ev.bind (ref_Machine l hl) (Ev.ifPos hm ?_)
    refine Ev.bind (own_ev _ (Nat.le_trans hob (by omega))) (Ev.bind (ref_Fewer hg) (Ev.bind (Order_refl _ (by rw [List.length_map]; omega)) ?_))
    exact Ev.ifPos rfl (Ev.ifPos rfl (Ev.bind awake_ev (tail b h1 h2)))
  · have hmf := Bool.eq_false_iff.mpr hm
    have hmt : isM ((l.take 11).map cv) = false := by rw [isM_take]; exact hmf
    have hF : tags_Fewer.f ((l.take 11).map cv) = some ([], 2) := by unfold tags_Fewer.f; rw [hmt]; rfl
    unfold comfitlaw06_TagsAdds.f
    refine Ev.bind hO (Ev.bind (Adds_bad a (.inl hmt)) (Ev.bind hO ?_))
    rw [hF]
    refine Ev.bind (g := fun _ => some _) (Ev.const rfl) ?_
    refine Ev.bind (ref_Machine l hl) (Ev.ifNeg hm (Ev.ifNeg (by decide) (Ev.ifPos (by decide) (Ev.ifPos rfl (Ev.ifPos rfl hb)))))
theorem TagsAdds (l : List S39) (a : Int) (hl : l.length ≤ maxLen) (hw : ∀ x ∈ l, S39.wf x) (wa : (Lit.int .i64 a).wf = true) : ∃ k, comfitlaw06_TagsAdds.f k l a = some true := (TagsAdds_ev l a (by unfold maxLen at hl; omega)).get
end Go.Proofs.Ytjmbjnobbeflfaa.Pure
