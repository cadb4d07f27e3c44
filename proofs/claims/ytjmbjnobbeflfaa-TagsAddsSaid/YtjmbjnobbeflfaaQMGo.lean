/- Plain laws of machines: Go, Ends of the program and of the reference; awake. -/
import Derived.Test.YtjmbjnobbeflfaaQMTag
set_option linter.unusedVariables false
set_option linter.unusedSimpArgs false
namespace Go.Proofs.Ytjmbjnobbeflfaa.Pure
open Go.RowKit Go.Proofs.Ytjmbjnobbeflfaa.X Go.Proofs.YtjmbjnobbeflfaaW.PrintWords Go.Proofs.YtjmbjnobbeflfaaW.PrintLast Go.Proofs.YtjmbjnobbeflfaaW.PrintMore
theorem awake_ev : Ev (fun k => comfitlaw06_awake.f k) true := Ev.of comfitlaw06_awake.mono 10 (by decide +kernel)
theorem lastP_eq {T : List S66} (h : 1 ≤ T.length) (hl : T.length ≤ 100000) : wrap64 ((T.length : Int) - 1) = ((T.length - 1 : Nat) : Int) ∧ rd_T66 T ((T.length - 1 : Nat) : Int) = lastP T := by
  refine ⟨by unfold wrap64; omega, ?_⟩
  unfold rd_T66 lastP
  rw [List.getLastD_eq_getLast?, List.getLast?_eq_getElem?]
  simp
theorem lastP_map {T : List S66} (h : 1 ≤ T.length) (l : List S57) : rd_T71 (T.map (pf l)) ((T.length - 1 : Nat) : Int) = pf l (lastP T) := by
  unfold rd_T71 lastP
  rw [List.getLastD_eq_getLast?, List.getLast?_eq_getElem?]
  rw [List.getD_eq_getElem?_getD]
  simp
  rw [List.getElem?_eq_getElem (by omega)]
  simp
theorem tr_at {l : List S57} (hg : Good l) : ∀ (n : Nat) (p : S66) (B : Int), At l B p → ∀ q ∈ tr l n p, At l (B + n) q := by
  intro n
  induction n with
  | zero =>
    intro p B h q hq
    simp [tr] at hq
    subst hq
    simpa using h
  | succ n ih =>
    intro p B h q hq
    have hup : At l (B + ((n + 1 : Nat) : Int)) p := ⟨h.o0, h.o1, h.a0, by have := h.a1; omega, h.b0, by have := h.b1; omega⟩
    rw [tr] at hq
    split at hq
    · simp at hq; subst hq; exact hup
    · rcases List.mem_cons.mp hq with rfl | hq
      · exact hup
      · have := ih (nx l p) (B + 1) (h.next hg) q hq
        exact ⟨this.o0, this.o1, this.a0, by have := this.a1; omega, this.b0, by have := this.b1; omega⟩
theorem lastP_mem {T : List S66} (h : T ≠ []) : lastP T ∈ T := by
  unfold lastP
  rw [List.getLastD_eq_getLast?, List.getLast?_eq_some_getLast h]
  exact List.getLast_mem h
theorem last_at {l : List S57} (hg : Good l) {a b : Int} (hj : jarsOk a b = true) (n : Nat) : At l (100 + n) (lastP (tr l n (p0 a b))) :=
  tr_at hg n _ 100 (At.start hg hj) _ (lastP_mem (tr_ne _ _ _))

/-! ### Go -/
/-! ### Ends -/
theorem ends_ev {l : List S57} (hg : Good l) {a b : Int} (hj : jarsOk a b = true) :
    Ev (fun k => tags_ends.f k l a b) (tr l 1000 (p0 a b), (tr l 1000 (p0 a b)).dropLast.map (em l), stop l (lastP (tr l 1000 (p0 a b)))) := by
  have hlen := tr_len l 1000 (p0 a b)
  obtain ⟨e1, e2⟩ := lastP_eq (T := tr l 1000 (p0 a b)) hlen.1 (by omega)
  have hA := last_at hg hj 1000
  refine Ev.bind (runs_ev hg hj 1000 (by omega)) (Ev.const ?_)
  dsimp only
  rw [e1, if_pos (by omega), if_pos (by omega), e2, if_pos hA.o0, if_pos hA.o1]
  rfl
end Go.Proofs.Ytjmbjnobbeflfaa.Pure
