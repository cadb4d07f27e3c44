/- Plain laws of machines: Go, Ends of the program and of the reference; awake. -/
import Derived.Test.YtjmbjnobbeflfaaQMTag
set_option linter.unusedVariables false
set_option linter.unusedSimpArgs false
namespace Go.Proofs.Ytjmbjnobbeflfaa.Pure
open Go.RowKit Go.Proofs.Ytjmbjnobbeflfaa.X Go.Proofs.YtjmbjnobbeflfaaW.PrintWords Go.Proofs.YtjmbjnobbeflfaaW.PrintLast Go.Proofs.YtjmbjnobbeflfaaW.PrintMore
theorem awake_ev : Ev (fun k => comfitlaw06_awake.f k) true := Ev.of comfitlaw06_awake.mono 10 (by decide +kernel)
theorem lastP_eq {T : List S66} (h : 1 ≤ T.length) (hl : T.length ≤ 100000) : wrap64 ((T.length : Int) - 1) = ((T.length - 1 : Nat) : Int) ∧ rd_T66 T ((T.length - 1 : Nat) : Int) = lastP T := by
  refine ⟨by unfold wrap64; omega, ?_⟩
  unfold rd_T66 lastP
  rw [List.getLastD_eq_getLast?, List.getLast?_eq_getElem?]
  simp
theorem tr_at {l : List S57} (hg : Good l) : ∀ (n : Nat) (p : S66) (B : Int), At l B p → ∀ q ∈ tr l n p, At l (B + n) q := by
  intro n
  induction n with
  | zero =>
    intro p B h q hq
    simp [tr] at hq
    subst hq
    simpa using h
  | succ n ih =>
    intro p B h q hq
    have hup : At l (B + ((n + 1 : Nat) : Int)) p := ⟨h.o0, h.o1, h.a0, by have := h.a1; omega, h.b0, by have := h.b1; omega⟩
    rw [tr] at hq
    split at hq
    · simp at hq; subst hq; exact hup
    · rcases List.mem_cons.mp hq with rfl | hq
      · exact hup
      · have := ih (nx l p) (B + 1) (h.next hg) q hq
        exact ⟨this.o0, this.o1, this.a0, by have := this.a1; omega, this.b0, by have := this.b1; omega⟩
theorem lastP_mem {T : List S66} (h : T ≠ []) : lastP T ∈ T := by
  unfold lastP
  rw [List.getLastD_eq_getLast?, List.getLast?_eq_some_getLast h]
  exact List.getLast_mem h
theorem last_at {l : List S57} (hg : Good l) {a b : Int} (hj : jarsOk a b = true) (n : Nat) : At l (100 + n) (lastP (tr l n (p0 a b))) :=
  tr_at hg n _ 100 (At.start hg hj) _ (lastP_mem (tr_ne _ _ _))

/-! ### Go -/
def goodGo (l : List S57) (a b s : Int) : Prop := isM l = true ∧ jarsOk a b = true ∧ 0 ≤ s ∧ s ≤ 1000
theorem Go_bad (l : List S57) (a b s : Int) (h : ¬ goodGo l a b s) : Ev (fun k => tags_Go.f k l a b s) (0, 0, 0, 0, 2) := by
  have hj : Ev (fun k => tags_Go.j0 k l s true a b) (0, 0, 0, 0, 2) := Ev.succ (g := fun _ => some (0, 0, 0, 0, 2)) (Ev.const rfl) (fun k => by rw [tags_Go.j0, if_pos rfl])
  unfold tags_Go.f tags_isMachine.f
  simp only [Option.bind_some, isJars_is]
  by_cases h1 : isM l = true
  · refine Ev.ifPos h1 ?_
    by_cases h2 : jarsOk a b = true
    · refine Ev.ifPos h2 ?_
      by_cases h3 : s < 0
      · exact Ev.ifPos h3 hj
      · refine Ev.ifNeg h3 ?_
        rw [show decide (s > 1000) = true from decide_eq_true (by
          by_cases h4 : s ≤ 1000
          · exact absurd ⟨h1, h2, by omega, h4⟩ h
          · omega)]
        exact hj
    · exact Ev.ifNeg h2 hj
  · exact Ev.ifNeg h1 hj
theorem Go_ok {l : List S57} (hg : Good l) {a b : Int} (hj : jarsOk a b = true) (n : Nat) (hn : n ≤ 1000) :
    Ev (fun k => tags_Go.f k l a b (n : Int)) ((lastP (tr l n (p0 a b))).f0, (lastP (tr l n (p0 a b))).f1.f0, (lastP (tr l n (p0 a b))).f1.f1, (((tr l n (p0 a b)).length - 1 : Nat) : Int), 0) := by
  have h0 : Ev (fun k => tags_Go.j0 k l (n : Int) false a b) ((lastP (tr l n (p0 a b))).f0, (lastP (tr l n (p0 a b))).f1.f0, (lastP (tr l n (p0 a b))).f1.f1, (((tr l n (p0 a b)).length - 1 : Nat) : Int), 0) := by
    have hlen := tr_len l n (p0 a b)
    obtain ⟨e1, e2⟩ := lastP_eq (T := tr l n (p0 a b)) hlen.1 (by omega)
    refine Ev.succ (g := fun k => (tags_runs.f k l a b (n : Int)).bind fun bt172 => (if 0 ≤ (wrap64 ((bt172.1.length : Int) - 1)) then (if (wrap64 ((bt172.1.length : Int) - 1)) < (bt172.1.length : Int) then (some ((rd_T66 bt172.1 (wrap64 ((bt172.1.length : Int) - 1))).f0, (rd_T66 bt172.1 (wrap64 ((bt172.1.length : Int) - 1))).f1.f0, (rd_T66 bt172.1 (wrap64 ((bt172.1.length : Int) - 1))).f1.f1, (bt172.2.length : Int), 0)) else (none)) else (none)))
      (Ev.bind (runs_ev hg hj n hn) (Ev.const ?_)) (fun k => by rw [tags_Go.j0, if_neg (by decide)])
    dsimp only
    rw [e1, if_pos (by omega), if_pos (by omega), e2]
    simp
  unfold tags_Go.f tags_isMachine.f
  simp only [Option.bind_some, isJars_is]
  refine Ev.ifPos ((isM_good l).mpr hg) (Ev.ifPos hj (Ev.ifNeg (by omega) ?_))
  rw [show decide ((n : Int) > 1000) = false from decide_eq_false (by omega)]
  exact h0
/-! ### Ends -/
theorem ends_ev {l : List S57} (hg : Good l) {a b : Int} (hj : jarsOk a b = true) :
    Ev (fun k => tags_ends.f k l a b) (tr l 1000 (p0 a b), (tr l 1000 (p0 a b)).dropLast.map (em l), stop l (lastP (tr l 1000 (p0 a b)))) := by
  have hlen := tr_len l 1000 (p0 a b)
  obtain ⟨e1, e2⟩ := lastP_eq (T := tr l 1000 (p0 a b)) hlen.1 (by omega)
  have hA := last_at hg hj 1000
  refine Ev.bind (runs_ev hg hj 1000 (by omega)) (Ev.const ?_)
  dsimp only
  rw [e1, if_pos (by omega), if_pos (by omega), e2, if_pos hA.o0, if_pos hA.o1]
  rfl
/-- What Ends tells of a run. -/
def endsOf (l : List S57) (a b : Int) : Int × Int := if stop l (lastP (tr l 1000 (p0 a b))) = true then ((((tr l 1000 (p0 a b)).length - 1 : Nat) : Int), 0) else (0, 4)
theorem Ends_ok {l : List S57} (hg : Good l) {a b : Int} (hj : jarsOk a b = true) : Ev (fun k => tags_Ends.f k l a b) (endsOf l a b) := by
  have h0 : Ev (fun k => tags_Ends.j0 k l false a b) (endsOf l a b) := by
    refine Ev.succ (g := fun k => (tags_ends.f k l a b).bind fun bt195 => (if bt195.2.2 = true then (some ((bt195.2.1.length : Int), 0)) else (some (0, 4)))) (Ev.bind (ends_ev hg hj) (Ev.const ?_)) (fun k => by rw [tags_Ends.j0, if_neg (by decide)])
    dsimp only
    unfold endsOf
    split <;> simp
  unfold tags_Ends.f tags_isMachine.f
  simp only [Option.bind_some, isJars_is]
  refine Ev.ifPos ((isM_good l).mpr hg) ?_
  rw [hj]
  exact h0
end Go.Proofs.Ytjmbjnobbeflfaa.Pure
