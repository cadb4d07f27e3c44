/- The plain law of TagsAgain: when a tape comes again, as the reference says. No conditions but the sizes that the arguments have. -/
import Derived.Test.YtjmbjnobbeflfaaDoorQPureTagsCuts
import Derived.Test.YtjmbjnobbeflfaaDoorQMSeq
import Derived.Test.YtjmbjnobbeflfaaDoorQXcomfitlaw06TagsAgain
set_option linter.unusedVariables false
set_option linter.unusedSimpArgs false
namespace Go.Proofs.YtjmbjnobbeflfaaDoor.Pure
open Go.RowKit Go.Proofs.YtjmbjnobbeflfaaDoor.X Go.Proofs.YtjmbjnobbeflfaaDoorW.PrintWords Go.Proofs.YtjmbjnobbeflfaaDoorW.PrintLast Go.Proofs.YtjmbjnobbeflfaaDoorW.PrintMore
theorem toList_iff {a b : ByteArray} : (a.toList = b.toList) ↔ a = b := by
  rw [ByteArray.toList_eq, ByteArray.toList_eq]
  exact ⟨ba_ext, fun e => by rw [e]⟩
/-- The tapes before the k-th one, as the reference keeps them. -/
def tl (nx : ByteArray → ByteArray) (t : ByteArray) (k : Nat) : List ByteArray := (List.range k).map (sq nx t)
theorem tl_len (nx : ByteArray → ByteArray) (t : ByteArray) (k : Nat) : (tl nx t k).length = k := by simp [tl]
theorem tl_succ (nx : ByteArray → ByteArray) (t : ByteArray) (k : Nat) : tl nx t k ++ [sq nx t k] = tl nx t (k + 1) := by simp [tl, List.range_succ]
theorem tl_at (nx : ByteArray → ByteArray) (t : ByteArray) (k i : Nat) (h : i < k) : rdOf ByteArray.empty (tl nx t k) (i : Int) = sq nx t i := by
  unfold rdOf
  simp [tl, h]
/-- What Again answers of a run. -/
def ansOf (c : Int) (r : Int × ByteArray × Int × Int) : Int × Int × Int := if r.1 = 0 then (if r.2.2.2 = 0 then (if (r.2.1.size : Int) < c then (0, 0, 4) else (0, 0, 5)) else (r.2.2.1, r.2.2.2, 0)) else (0, 0, r.1)
theorem find_ev {c : Int} {s0 s1 s2 s3 x : ByteArray} (nx : ByteArray → ByteArray) (t : ByteArray) (k : Nat) (hk : k ≤ 1000) (v : Int × Int × Int) : ∀ (m i : Nat), i + m = k →
    (∀ i0, i ≤ i0 → i0 < k → sq nx t i0 = x → (∀ j, i ≤ j → j < i0 → sq nx t j ≠ x) → v = ((i0 : Int), (k : Int) - (i0 : Int), 0)) →
    ((∀ j, i ≤ j → j < k → sq nx t j ≠ x) → Ev (fun K => comfitref06_Again.l0 K c x (tl nx t k ++ [x]) ((k : Int) + 1) s0 s1 s2 s3) v) →
    Ev (fun K => comfitref06_Again.l1 K c x (tl nx t k) (k : Int) (tl nx t k) (k : Int) (i : Int) s0 s1 s2 s3) v := by
  intro m
  induction m with
  | zero =>
    intro i hi hA hB
    have h2 := hB (fun j h1 h2 => by omega)
    exact Ev.succ (g := fun K => _) h2 (fun K => by
      rw [comfitref06_Again.l1, if_neg (by omega), tl_len, if_pos (by omega), show wrap64 ((k : Int) + 1) = (k : Int) + 1 by unfold wrap64; omega])
  | succ m ih =>
    intro i hi hA hB
    by_cases he : sq nx t i = x
    · have hv := hA i (Nat.le_refl _) (by omega) he (fun j h1 h2 => by omega)
      exact Ev.succ (g := fun _ => some v) (Ev.const rfl) (fun K => by
        rw [comfitref06_Again.l1, if_pos (by omega), if_pos (by omega), tl_len, if_pos (by omega), tl_at nx t k i (by omega), if_pos (toList_iff.mpr he), hv, show wrap64 ((k : Int) - (i : Int)) = (k : Int) - (i : Int) by unfold wrap64; omega])
    · have h2 := ih (i + 1) (by omega) (fun i0 h1 h2 h3 h4 => hA i0 (by omega) h2 h3 (fun j h5 h6 => by
          by_cases e : j = i
          · rw [e]; exact he
          · exact h4 j (by omega) h6)) (fun h1 => hB (fun j h5 h6 => by
          by_cases e : j = i
          · rw [e]; exact he
          · exact h1 j (by omega) h6))
      exact Ev.succ (g := fun K => _) h2 (fun K => by
        rw [comfitref06_Again.l1, if_pos (by omega), if_pos (by omega), tl_len, if_pos (by omega), tl_at nx t k i (by omega), if_neg (fun e => he (toList_iff.mp e)), show wrap64 ((i : Int) + 1) = ((i + 1 : Nat) : Int) by unfold wrap64; omega])
theorem ref_ev {c : Int} {s0 s1 s2 s3 t : ByteArray} (h : Cuts c s0 s1 s2 s3) (ht : lettersB t 200 = true) : ∀ (d k : Nat), k + d = 1000 →
    (∀ i, i < k → okT c s0 s1 s2 s3 (sq (nextT c s0 s1 s2 s3) t i)) → (∀ i j, i < j → j ≤ k → sq (nextT c s0 s1 s2 s3) t i ≠ sq (nextT c s0 s1 s2 s3) t j) → ∀ r,
    tapesA c s0 s1 s2 s3 d (sqs (nextT c s0 s1 s2 s3) t k) (sq (nextT c s0 s1 s2 s3) t k) = some r →
    Ev (fun K => comfitref06_Again.l0 K c (sq (nextT c s0 s1 s2 s3) t k) (tl (nextT c s0 s1 s2 s3) t (k + 1)) ((k : Int) + 1) s0 s1 s2 s3) (ansOf c r) := by
  intro d
  induction d with
  | zero =>
    intro k hk ho hne r hr
    have hl := sq_let h ht k ho
    have hni : (sq (nextT c s0 s1 s2 s3) t k).data.toList ∉ sqs (nextT c s0 s1 s2 s3) t k := fun hm => by
      obtain ⟨i, hi, he, -⟩ := sqs_mem hm
      exact hne i k hi (Nat.le_refl _) he
    have hsz := tapesA_size hr
    rw [tapesA, if_pos hsz, if_neg hni] at hr
    cases hr
    have hs := ref_step h hl
    by_cases h1 : ((sq (nextT c s0 s1 s2 s3) t k).size : Int) < c
    · rw [if_pos h1] at hs
      exact Ev.succ (g := fun _ => some (0, 0, 4)) (Ev.const (by unfold ansOf; rw [if_pos rfl, if_pos rfl, if_pos h1])) (fun K => by rw [comfitref06_Again.l0, if_neg (by omega), hs, Option.bind_some, if_pos rfl])
    · rw [if_neg h1] at hs
      refine Ev.succ (g := fun _ => some (0, 0, 5)) (Ev.const (by unfold ansOf; rw [if_pos rfl, if_pos rfl, if_neg h1])) (fun K => ?_)
      rw [comfitref06_Again.l0, if_neg (by omega), hs, Option.bind_some]
      split
      · rw [if_neg (show ¬ (6 : Int) = 4 by decide)]
      · rw [if_neg (show ¬ (0 : Int) = 4 by decide)]
  | succ d ih =>
    intro k hk ho hne r hr
    have hl := sq_let h ht k ho
    have hni : (sq (nextT c s0 s1 s2 s3) t k).data.toList ∉ sqs (nextT c s0 s1 s2 s3) t k := fun hm => by
      obtain ⟨i, hi, he, -⟩ := sqs_mem hm
      exact hne i k hi (Nat.le_refl _) he
    have hsz := tapesA_size hr
    rw [tapesA, if_pos hsz, if_neg hni, step_ok h hl, Option.bind_some] at hr
    have hs := ref_step h hl
    by_cases h1 : ((sq (nextT c s0 s1 s2 s3) t k).size : Int) < c
    · rw [if_pos h1] at hs hr
      rw [if_neg (show ¬ (4 : Int) = 0 by decide)] at hr
      cases hr
      exact Ev.succ (g := fun _ => some (0, 0, 4)) (Ev.const (by unfold ansOf; rw [if_neg (show ¬ (4 : Int) = 0 by decide)])) (fun K => by rw [comfitref06_Again.l0, if_pos (by omega), hs, Option.bind_some, if_neg (show ¬ (4 : Int) = 0 by decide)])
    · rw [if_neg h1] at hs hr
      by_cases h2 : ((nextT c s0 s1 s2 s3 (sq (nextT c s0 s1 s2 s3) t k)).size : Int) > 200
      · rw [if_pos h2] at hs hr
        rw [if_neg (show ¬ (6 : Int) = 0 by decide)] at hr
        cases hr
        exact Ev.succ (g := fun _ => some (0, 0, 6)) (Ev.const (by unfold ansOf; rw [if_neg (show ¬ (6 : Int) = 0 by decide)])) (fun K => by rw [comfitref06_Again.l0, if_pos (by omega), hs, Option.bind_some, if_neg (show ¬ (6 : Int) = 0 by decide)])
      · rw [if_neg h2] at hs hr
        rw [if_pos rfl, ← sqs_succ] at hr
        have ho' : ∀ i, i < k + 1 → okT c s0 s1 s2 s3 (sq (nextT c s0 s1 s2 s3) t i) := fun i hi => by
          by_cases e : i = k
          · rw [e]; exact ⟨h1, h2⟩
          · exact ho i (by omega)
        have hgo : ∀ K, comfitref06_Again.l0 (K + 1) c (sq (nextT c s0 s1 s2 s3) t k) (tl (nextT c s0 s1 s2 s3) t (k + 1)) ((k : Int) + 1) s0 s1 s2 s3 = comfitref06_Again.l1 K c (sq (nextT c s0 s1 s2 s3) t (k + 1)) (tl (nextT c s0 s1 s2 s3) t (k + 1)) ((k + 1 : Nat) : Int) (tl (nextT c s0 s1 s2 s3) t (k + 1)) ((k + 1 : Nat) : Int) ((0 : Nat) : Int) s0 s1 s2 s3 := fun K => by
          rw [comfitref06_Again.l0, if_pos (by omega), hs, Option.bind_some, if_pos rfl, tl_len]
          rfl
        refine Ev.succ (g := fun K => _) (find_ev (nextT c s0 s1 s2 s3) t (k + 1) (by omega) (ansOf c r) (k + 1) 0 (by omega) (fun i0 _ hi0 he hfirst => ?_) (fun hno => ?_)) hgo
        · have hr' : tapesA c s0 s1 s2 s3 d (sqs (nextT c s0 s1 s2 s3) t (k + 1)) (sq (nextT c s0 s1 s2 s3) t (k + 1)) = some r := hr
          have hm : (sq (nextT c s0 s1 s2 s3) t (k + 1)).data.toList ∈ sqs (nextT c s0 s1 s2 s3) t (k + 1) := by
            unfold sqs
            rw [List.mem_map]
            exact ⟨i0, by simpa using hi0, by rw [he]⟩
          obtain ⟨i, hi, he2, hx⟩ := sqs_mem hm
          have hii : i = i0 := by
            by_cases e : i = i0
            · exact e
            · rcases Nat.lt_or_gt_of_ne e with hlt | hlt
              · exact absurd (he2.trans he.symm) (hne i i0 hlt (by omega))
              · exact absurd (he.trans he2.symm) (hne i0 i hlt (by omega))
          rw [tapesA_in (tapesA_size hr') hm, hx, hii, sqs_len] at hr'
          cases hr'
          unfold ansOf
          rw [if_pos rfl, if_neg (by dsimp only; omega)]
        · rw [tl_succ, show (((k + 1 : Nat) : Int) + 1) = ((k + 1 : Nat) : Int) + 1 from rfl]
          exact ih (k + 1) (by omega) ho' (fun i j hij hj => by
            by_cases e : j = k + 1
            · rw [e]; exact hno i (by omega) (by omega)
            · exact hne i j hij (by omega)) r hr
theorem TagsAgain_ev (c : Int) (s0 s1 s2 s3 t : ByteArray) (h0 : s0.size ≤ lim) (h1 : s1.size ≤ lim) (h2 : s2.size ≤ lim) (h3 : s3.size ≤ lim) (ht : t.size ≤ lim) : Ev (fun k => comfitlaw06_TagsAgain.f k c s0 s1 s2 s3 t) true := by
  have hC : comfitref06_Cutter.f c s0 s1 s2 s3 t = some (cutB c s0 s1 s2 s3 t) := by unfold comfitref06_Cutter.f; rw [if_pos ⟨h0, h1, h2, h3, ht⟩]
  obtain ⟨T, hT, hTs, hcT, hTt⟩ := text_ev c s0 s1 s2 s3 t ht
  have hv : tags_cutter_valid.f c s0 s1 s2 s3 T = some (cutB c s0 s1 s2 s3 t) := by unfold tags_cutter_valid.f; rw [if_pos ⟨h0, h1, h2, h3, hTs⟩, hcT]
  unfold comfitlaw06_TagsAgain.f
  rw [hT, hC]
  refine Ev.bind (g := fun _ => some _) (Ev.const rfl) ?_
  by_cases hb : cutB c s0 s1 s2 s3 t = true
  · have hTt := hTt hb
    subst hTt
    obtain ⟨hc, hl⟩ := Cuts.of hb
    obtain ⟨e, last, b, n, hr, -⟩ := tapesA_is hc hl 1000 0 (by omega) (fun i hi => by omega) (fun i j _ hj => by omega)
    have hr' : tapesA c s0 s1 s2 s3 1000 [] T = some (e, last, b, n) := hr
    have hA : tags_Again.f c s0 s1 s2 s3 T = some (ansOf c (e, last, b, n)) := by
      unfold tags_Again.f ansOf
      rw [hv, hb, Option.bind_some, if_pos rfl, hr', Option.bind_some]
      split
      · split
        · split <;> rfl
        · rfl
      · rfl
    have hR := ref_ev hc hl 1000 0 (by omega) (fun i hi => by omega) (fun i j hij hj => by omega) _ hr
    have hR' : Ev (fun K => comfitref06_Again.f K c s0 s1 s2 s3 T) (ansOf c (e, last, b, n)) := hR
    rw [hA]
    refine Ev.bind (g := fun _ => some _) (Ev.const rfl) ?_
    refine Ev.bind (g := fun _ => some _) (Ev.const rfl) ?_
    refine Ev.ifPos hb ?_
    refine Ev.bind hR' ?_
    exact Ev.ifPos rfl (Ev.ifPos rfl (Ev.ifPos rfl awake_bind))
  · have hA : tags_Again.f c s0 s1 s2 s3 T = some (0, 0, 2) := by
      unfold tags_Again.f
      rw [hv, Bool.eq_false_iff.mpr hb, Option.bind_some, if_neg (by decide)]
    rw [hA]
    refine Ev.bind (g := fun _ => some _) (Ev.const rfl) ?_
    refine Ev.bind (g := fun _ => some _) (Ev.const rfl) ?_
    exact Ev.ifNeg hb (Ev.ifPos rfl (Ev.ifPos rfl (Ev.ifPos rfl awake_bind)))
theorem TagsAgain (a0 : Int) (s0 s1 s2 s3 t : ByteArray) (w0 : (Lit.int .i64 a0).wf = true) (h0 : s0.size ≤ maxLen) (h1 : s1.size ≤ maxLen) (h2 : s2.size ≤ maxLen) (h3 : s3.size ≤ maxLen) (ht : t.size ≤ maxLen) : ∃ k, comfitlaw06_TagsAgain.f k a0 s0 s1 s2 s3 t = some true :=
  (TagsAgain_ev a0 s0 s1 s2 s3 t (lim_le h0) (lim_le h1) (lim_le h2) (lim_le h3) (lim_le ht)).get
end Go.Proofs.YtjmbjnobbeflfaaDoor.Pure
