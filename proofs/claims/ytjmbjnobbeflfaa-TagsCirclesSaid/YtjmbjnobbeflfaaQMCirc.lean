/- Plain laws of machines: circles of a run, as the program and as the reference tell them. -/
import Derived.Test.YtjmbjnobbeflfaaQMGo
import Derived.Test.YtjmbjnobbeflfaaQXtagsCircle
import Derived.Test.YtjmbjnobbeflfaaQXtagsCheckCircle
import Derived.Test.YtjmbjnobbeflfaaQX0
set_option linter.unusedVariables false
set_option linter.unusedSimpArgs false
namespace Go.Proofs.Ytjmbjnobbeflfaa.Pure
open Go.RowKit Go.Proofs.Ytjmbjnobbeflfaa.X Go.Proofs.YtjmbjnobbeflfaaW.PrintWords Go.Proofs.YtjmbjnobbeflfaaW.PrintLast Go.Proofs.YtjmbjnobbeflfaaW.PrintMore

/-- The part of a run from i to before j. -/
def seg (T : List S66) (i j : Nat) : List S66 := (T.take j).drop i
def was (l : List S57) (c : Int) (S : List S66) : Bool := S.any (fun p => fd l p == c)
def at_ (T : List S66) (i : Nat) : S66 := T.getD i z66
/-- Are two places of a run a circle? -/
def circ (l : List S57) (T : List S66) (i j : Nat) : Bool :=
  ((at_ T i).f0 == (at_ T j).f0) && (!decide ((at_ T j).f1.f0 < (at_ T i).f1.f0) && (!decide ((at_ T j).f1.f1 < (at_ T i).f1.f1) &&
    ((!was l 0 (seg T i j) || ((at_ T j).f1.f0 == (at_ T i).f1.f0)) && (!was l 1 (seg T i j) || ((at_ T j).f1.f1 == (at_ T i).f1.f1)))))
/-! ### The program's circle -/
def enc (p q : Bool) : Int := (if p then 1 else 0) + (if q then 2 else 0)
theorem or_enc (p q : Bool) (f : Int) (hf : f = -1 ∨ f = 0 ∨ f = 1) : Go.bits .or .i64 (enc p q) (if f = 0 then 1 else if f = 1 then 2 else 0) = enc (p || f == 0) (q || f == 1) := by
  rcases hf with rfl | rfl | rfl <;> cases p <;> cases q <;> decide +kernel
theorem and_enc0 (p q : Bool) : (Go.bits .and .i64 (enc p q) 1 = 1) ↔ p = true := by cases p <;> cases q <;> decide +kernel
theorem and_enc1 (p q : Bool) : (Go.bits .and .i64 (enc p q / 2) 1 = 1) ↔ q = true := by cases p <;> cases q <;> decide +kernel
theorem fd_is (l : List S57) (p : S66) : fd l p = -1 ∨ fd l p = 0 ∨ fd l p = 1 := by
  unfold fd
  split
  · split <;> split <;> simp
  · simp
theorem circle_l1 (p q : Bool) (a0 a1 a2 b0 b1 b2 : Int) : Ev (fun k => tags_run_circle.l1 k (enc p q) 0 a0 a1 a2 b0 b1 b2)
    ((a0 == b0) && (!decide (b1 < a1) && (!decide (b2 < a2) && ((!p || (b1 == a1)) && (!q || (b2 == a2)))))) := by
  have h2 : Ev (fun k => tags_run_circle.l1 k (enc p q) 2 a0 a1 a2 b0 b1 b2) (a0 == b0) := Ev.succ (g := fun _ => some (a0 == b0)) (Ev.const rfl) (fun k => by rw [tags_run_circle.l1, if_neg (by omega)])
  have j1 : ∀ b : Bool, Ev (fun k => tags_run_circle.j3 k (enc p q) 1 b a0 a1 a2 b0 b1 b2) (!b && (a0 == b0)) := by
    intro b
    cases b with
    | true => exact Ev.succ (g := fun _ => some false) (Ev.const rfl) (fun k => by rw [tags_run_circle.j3, if_pos rfl])
    | false => exact Ev.succ (g := fun k => tags_run_circle.l1 k (enc p q) 2 a0 a1 a2 b0 b1 b2) h2 (fun k => by rw [tags_run_circle.j3, if_neg (by decide), show wrap64 (1 + 1) = 2 from w_in (by omega) (by omega)])
  have h1 : Ev (fun k => tags_run_circle.l1 k (enc p q) 1 a0 a1 a2 b0 b1 b2) ((a0 == b0) && (!decide (b2 < a2) && (!q || (b2 == a2)))) := by
    by_cases c1 : b2 < a2
    · exact Ev.succ (g := fun k => tags_run_circle.j3 k (enc p q) 1 true a0 a1 a2 b0 b1 b2) ((j1 true).cast (by simp [c1])) (fun k => by rw [tags_run_circle.l1, if_pos (by omega), if_neg (by omega), if_pos rfl, if_pos c1])
    · by_cases c2 : q = true
      · exact Ev.succ (g := fun k => tags_run_circle.j3 k (enc p q) 1 (b2 != a2) a0 a1 a2 b0 b1 b2) ((j1 _).cast (by simp [c1, c2, Bool.and_comm, bne])) (fun k => by rw [tags_run_circle.l1, if_pos (by omega), if_neg (by omega), if_pos rfl, if_neg c1, if_pos ((and_enc1 p q).mpr c2)])
      · exact Ev.succ (g := fun k => tags_run_circle.j3 k (enc p q) 1 false a0 a1 a2 b0 b1 b2) ((j1 false).cast (by simp [c1, c2])) (fun k => by rw [tags_run_circle.l1, if_pos (by omega), if_neg (by omega), if_pos rfl, if_neg c1, if_neg (fun h => c2 ((and_enc1 p q).mp h))])
  have j0 : ∀ b : Bool, Ev (fun k => tags_run_circle.j3 k (enc p q) 0 b a0 a1 a2 b0 b1 b2) (!b && ((a0 == b0) && (!decide (b2 < a2) && (!q || (b2 == a2))))) := by
    intro b
    cases b with
    | true => exact Ev.succ (g := fun _ => some false) (Ev.const rfl) (fun k => by rw [tags_run_circle.j3, if_pos rfl])
    | false => exact Ev.succ (g := fun k => tags_run_circle.l1 k (enc p q) 1 a0 a1 a2 b0 b1 b2) h1 (fun k => by rw [tags_run_circle.j3, if_neg (by decide), show wrap64 (0 + 1) = 1 from w_in (by omega) (by omega)])
  by_cases c1 : b1 < a1
  · exact Ev.succ (g := fun k => tags_run_circle.j3 k (enc p q) 0 true a0 a1 a2 b0 b1 b2) ((j0 true).cast (by simp [c1])) (fun k => by rw [tags_run_circle.l1, if_pos (by omega), if_pos rfl, if_pos c1])
  · by_cases c2 : p = true
    · exact Ev.succ (g := fun k => tags_run_circle.j3 k (enc p q) 0 (b1 != a1) a0 a1 a2 b0 b1 b2) ((j0 _).cast (by
        simp only [c1, c2, bne, Bool.not_not, decide_false, Bool.not_false, Bool.true_and, Bool.not_true, Bool.false_or]
        cases (b1 == a1) <;> cases (a0 == b0) <;> simp)) (fun k => by rw [tags_run_circle.l1, if_pos (by omega), if_pos rfl, if_neg c1, if_pos ((and_enc0 p q).mpr c2)])
    · exact Ev.succ (g := fun k => tags_run_circle.j3 k (enc p q) 0 false a0 a1 a2 b0 b1 b2) ((j0 false).cast (by simp [c1, c2])) (fun k => by rw [tags_run_circle.l1, if_pos (by omega), if_pos rfl, if_neg c1, if_neg (fun h => c2 ((and_enc0 p q).mp h))])
theorem circle_l0 (l : List S57) (S : List S66) (hS : S.length ≤ 100000) (a0 a1 a2 b0 b1 b2 : Int) : ∀ (d i : Nat) (p q : Bool), i + d = S.length → Ev (fun k => tags_run_circle.l0 k (enc p q) (S.map (em l)) (((S.map (em l)).length : Nat) : Int) (i : Int) a0 a1 a2 b0 b1 b2)
    ((a0 == b0) && (!decide (b1 < a1) && (!decide (b2 < a2) && ((!(p || was l 0 (S.drop i)) || (b1 == a1)) && (!(q || was l 1 (S.drop i)) || (b2 == a2)))))) := by
  intro d
  induction d with
  | zero =>
    intro i p q hi
    rw [List.drop_eq_nil_of_le (by omega)]
    refine Ev.succ (g := fun k => tags_run_circle.l1 k (enc p q) 0 a0 a1 a2 b0 b1 b2) ((circle_l1 p q a0 a1 a2 b0 b1 b2).cast (by simp [was])) (fun k => ?_)
    rw [tags_run_circle.l0, if_neg (by simp; omega)]
  | succ d ih =>
    intro i p q hi
    have hil : i < S.length := by omega
    have hx : rd (S.map (em l)) (i : Int) = em l S[i] := by unfold rd; simp [hil]
    have hw : wrap64 ((i : Int) + 1) = ((i + 1 : Nat) : Int) := by unfold wrap64; omega
    refine Ev.succ (g := fun k => tags_run_circle.l0 k (enc (p || fd l S[i] == 0) (q || fd l S[i] == 1)) (S.map (em l)) (((S.map (em l)).length : Nat) : Int) ((i + 1 : Nat) : Int) a0 a1 a2 b0 b1 b2) ((ih (i + 1) _ _ (by omega)).cast ?_) (fun k => ?_)
    · rw [List.drop_eq_getElem_cons hil]
      simp only [was, List.any_cons, Bool.or_assoc]
    · rw [tags_run_circle.l0, if_pos (by simp; omega), if_pos (by omega), if_pos (by simp; omega), hx, hw]
      unfold em
      rw [or_enc p q _ (fd_is l _)]
theorem circle_ev (l : List S57) (T : List S66) (hT : T.length ≤ 100000) (i j : Nat) (hij : i < j) (hj : j < T.length) : Ev (fun k => tags_run_circle.f k T (T.dropLast.map (em l)) (i : Int) (j : Int)) (circ l T i j) := by
  unfold tags_run_circle.f
  refine Ev.ifNeg (by omega) (Ev.ifNeg (by omega) ?_)
  rw [show decide ((j : Int) ≥ (T.length : Int)) = false from decide_eq_false (by omega)]
  have hseg : ((T.dropLast.map (em l)).take j).drop i = (seg T i j).map (em l) := by
    unfold seg
    rw [List.map_drop]
    congr 1
    rw [List.dropLast_eq_take, ← List.map_take, List.take_take, show min j (T.length - 1) = j by omega]
  have hl := circle_l0 l (seg T i j) (by unfold seg; simp; omega) (at_ T i).f0 (at_ T i).f1.f0 (at_ T i).f1.f1 (at_ T j).f0 (at_ T j).f1.f0 (at_ T j).f1.f1 (seg T i j).length 0 false false (by omega)
  refine Ev.succ (g := fun k => tags_run_circle.l0 k (enc false false) ((seg T i j).map (em l)) (((seg T i j).map (em l)).length : Int) 0 (at_ T i).f0 (at_ T i).f1.f0 (at_ T i).f1.f1 (at_ T j).f0 (at_ T j).f1.f0 (at_ T j).f1.f1) (hl.cast ?_) (fun k => ?_)
  · simp only [List.drop_zero, Bool.false_or]; rfl
  · rw [tags_run_circle.j0, if_neg (by decide), if_pos (by omega), if_pos (by omega), if_pos (by omega), if_pos (by omega), if_pos (by omega), if_pos (by simp; omega), Option.bind_some]
    simp only [Int.toNat_natCast]
    rw [hseg]
    rfl
theorem circle_no (T : List S66) (es : List Int) (i j : Int) (h : ¬ (0 ≤ i ∧ i < j ∧ j < T.length)) : Ev (fun k => tags_run_circle.f k T es i j) false := by
  have h0 : Ev (fun k => tags_run_circle.j0 k i j true T es) false := Ev.succ (g := fun _ => some false) (Ev.const rfl) (fun k => by rw [tags_run_circle.j0, if_pos rfl])
  unfold tags_run_circle.f
  by_cases h1 : i < 0
  · exact Ev.ifPos h1 h0
  refine Ev.ifNeg h1 ?_
  by_cases h2 : i ≥ j
  · exact Ev.ifPos h2 h0
  refine Ev.ifNeg h2 ?_
  rw [show decide (j ≥ (T.length : Int)) = true from decide_eq_true (by omega)]
  exact h0

/-! ### The reference's circle -/
/-! ### The first circle -/
def fI (c : Nat → Nat → Bool) (j : Nat) : Nat → Nat → Option Nat
  | 0, _ => none
  | d + 1, i => if c i j = true then some i else fI c j d (i + 1)
def fJ (c : Nat → Nat → Bool) : Nat → Nat → Option (Nat × Nat)
  | 0, _ => none
  | d + 1, j => match fI c j j 0 with
    | some i => some (i, j)
    | none => fJ c d (j + 1)
def tellC : Option (Nat × Nat) → Int × Int × Int
  | some (i, j) => ((i : Int), (j : Int), 0)
  | none => (0, 0, 4)
theorem Circle_go (l : List S57) (T : List S66) (hT : T.length ≤ 100000) : ∀ (d j : Nat), j + d = T.length → Ev (fun k => tags_Circle.l0 k (T.length : Int) (j : Int) T (T.dropLast.map (em l))) (tellC (fJ (circ l T) d j)) := by
  intro d
  induction d with
  | zero =>
    intro j hj
    exact Ev.succ (g := fun _ => some (0, 0, 4)) (Ev.const rfl) (fun k => by rw [tags_Circle.l0, if_neg (by omega)])
  | succ d ih =>
    intro j hj
    have hw : wrap64 ((j : Int) + 1) = ((j + 1 : Nat) : Int) := by unfold wrap64; omega
    have hin : ∀ (e i : Nat), i + e = j → Ev (fun k => tags_Circle.l1 k (j : Int) (T.length : Int) (j : Int) (j : Int) (i : Int) T (T.dropLast.map (em l))) (match fI (circ l T) j e i with
      | some i => tellC (some (i, j))
      | none => tellC (fJ (circ l T) d (j + 1))) := by
      intro e
      induction e with
      | zero =>
        intro i hi
        refine Ev.succ (g := fun k => tags_Circle.l0 k (T.length : Int) ((j + 1 : Nat) : Int) T (T.dropLast.map (em l))) (ih (j + 1) (by omega)) (fun k => by rw [tags_Circle.l1, if_neg (by omega), hw])
      | succ e ih2 =>
        intro i hi
        have hwi : wrap64 ((i : Int) + 1) = ((i + 1 : Nat) : Int) := by unfold wrap64; omega
        refine Ev.succ (g := fun k => (tags_run_circle.f k T (T.dropLast.map (em l)) (i : Int) (j : Int)).bind fun t322 => (if t322 = true then (some ((i : Int), (j : Int), 0)) else (tags_Circle.l1 k (j : Int) (T.length : Int) (j : Int) (j : Int) ((i + 1 : Nat) : Int) T (T.dropLast.map (em l))))) (Ev.bind (circle_ev l T hT i j (by omega) (by omega)) ?_) (fun k => by rw [tags_Circle.l1, if_pos (by omega), hwi])
        rw [fI]
        by_cases hc : circ l T i j = true
        · rw [if_pos hc]
          exact Ev.ifPos hc (Ev.const rfl)
        · rw [if_neg hc]
          exact Ev.ifNeg hc (ih2 (i + 1) (by omega))
    refine Ev.succ (g := fun k => tags_Circle.l1 k (j : Int) (T.length : Int) (j : Int) (j : Int) 0 T (T.dropLast.map (em l))) ((hin j 0 (by omega)).cast ?_) (fun k => by rw [tags_Circle.l0, if_pos (by omega)])
    rw [fJ]
    split <;> rename_i h <;> simp only [h]
theorem Circle_bad (l : List S57) (a b : Int) (h : ¬ (isM l = true ∧ jarsOk a b = true)) : Ev (fun k => tags_Circle.f k l a b) (0, 0, 2) := by
  have hj : Ev (fun k => tags_Circle.j0 k l true a b) (0, 0, 2) := Ev.succ (g := fun _ => some (0, 0, 2)) (Ev.const rfl) (fun k => by rw [tags_Circle.j0, if_pos rfl])
  unfold tags_Circle.f tags_isMachine.f
  simp only [Option.bind_some, isJars_is]
  by_cases h1 : isM l = true
  · refine Ev.ifPos h1 ?_
    rw [show jarsOk a b = false by cases hq : jarsOk a b with
      | false => rfl
      | true => exact absurd ⟨h1, hq⟩ h]
    exact hj
  · exact Ev.ifNeg h1 hj
/-- The first circle of a run of 200 steps. -/
def firstC (l : List S57) (a b : Int) : Option (Nat × Nat) := fJ (circ l (tr l 200 (p0 a b))) (tr l 200 (p0 a b)).length 0
theorem Circle_ok {l : List S57} (hg : Good l) {a b : Int} (hj : jarsOk a b = true) : Ev (fun k => tags_Circle.f k l a b) (tellC (firstC l a b)) := by
  have hlen := tr_len l 200 (p0 a b)
  have h0 : Ev (fun k => tags_Circle.j0 k l false a b) (tellC (firstC l a b)) :=
    Ev.succ (g := fun k => (tags_runs.f k l a b 200).bind fun bt315 => (tags_Circle.l0 k (bt315.1.length : Int) 0 bt315.1 bt315.2)) (Ev.bind (runs_ev hg hj 200 (by omega)) (Circle_go l (tr l 200 (p0 a b)) (by omega) _ 0 (by omega))) (fun k => by rw [tags_Circle.j0, if_neg (by decide)])
  unfold tags_Circle.f tags_isMachine.f
  simp only [Option.bind_some, isJars_is]
  refine Ev.ifPos ((isM_good l).mpr hg) ?_
  rw [hj]
  exact h0
/-! ### CheckCircle -/
/-- Is a pair a circle of the run of 1000 steps? -/
def isC (l : List S57) (a b c d : Int) : Bool := decide (0 ≤ c ∧ c < d ∧ d < ((tr l 1000 (p0 a b)).length : Int)) && circ l (tr l 1000 (p0 a b)) c.toNat d.toNat
theorem Check_ok {l : List S57} (hg : Good l) {a b : Int} (hj : jarsOk a b = true) (c d : Int) : Ev (fun k => tags_CheckCircle.f k l a b c d) (isC l a b c d, 0) := by
  have hlen := tr_len l 1000 (p0 a b)
  have hc : Ev (fun k => tags_run_circle.f k (tr l 1000 (p0 a b)) ((tr l 1000 (p0 a b)).dropLast.map (em l)) c d) (isC l a b c d) := by
    unfold isC
    by_cases h : 0 ≤ c ∧ c < d ∧ d < ((tr l 1000 (p0 a b)).length : Int)
    · rw [decide_eq_true h, Bool.true_and]
      have := circle_ev l (tr l 1000 (p0 a b)) (by omega) c.toNat d.toNat (by omega) (by omega)
      rw [show ((c.toNat : Nat) : Int) = c by omega, show ((d.toNat : Nat) : Int) = d by omega] at this
      exact this
    · rw [decide_eq_false h, Bool.false_and]
      exact circle_no _ _ _ _ h
  have h0 : Ev (fun k => tags_CheckCircle.j0 k l false a b c d) (isC l a b c d, 0) :=
    Ev.succ (g := fun k => (tags_runs.f k l a b 1000).bind fun bt327 => ((tags_run_circle.f k bt327.1 bt327.2 c d).bind fun t333 => (some (t333, 0)))) (Ev.bind (runs_ev hg hj 1000 (by omega)) (Ev.bind hc (Ev.const rfl))) (fun k => by rw [tags_CheckCircle.j0, if_neg (by decide)])
  unfold tags_CheckCircle.f tags_isMachine.f
  simp only [Option.bind_some, isJars_is]
  refine Ev.ifPos ((isM_good l).mpr hg) ?_
  rw [hj]
  exact h0
end Go.Proofs.Ytjmbjnobbeflfaa.Pure
