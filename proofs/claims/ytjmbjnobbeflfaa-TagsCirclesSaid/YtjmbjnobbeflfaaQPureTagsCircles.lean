/- The plain law of TagsCircles: a circle that is found is one of the whole run, which never ends; the same place twice is a circle. No conditions but the sizes that the arguments have. -/
import Derived.Test.YtjmbjnobbeflfaaQMNever
import Derived.Test.YtjmbjnobbeflfaaQXcomfitlaw06TagsCircles
import Derived.Test.YtjmbjnobbeflfaaQHRow
set_option linter.unusedVariables false
set_option linter.unusedSimpArgs false
namespace Go.Proofs.Ytjmbjnobbeflfaa.Pure
open Go.RowKit Go.Proofs.Ytjmbjnobbeflfaa.X Go.Proofs.YtjmbjnobbeflfaaW.PrintWords Go.Proofs.YtjmbjnobbeflfaaW.PrintLast Go.Proofs.YtjmbjnobbeflfaaW.PrintMore
theorem u64_range (x : Int) : 0 ≤ IntKind.u64.wrap x ∧ IntKind.u64.wrap x < 18446744073709551616 := by
  simp [IntKind.wrap, IntKind.signed, IntKind.bits]
  omega
theorem umod_range (x n : Int) (h0 : 0 < n) (h1 : n ≤ 1000) : 0 ≤ wrap64 (Int.tmod (IntKind.u64.wrap x) n) ∧ wrap64 (Int.tmod (IntKind.u64.wrap x) n) < n := by
  have hx := u64_range x
  rw [Int.tmod_eq_emod_of_nonneg hx.1]
  have h2 := Int.emod_nonneg (IntKind.u64.wrap x) (show n ≠ 0 by omega)
  have h3 := Int.emod_lt_of_pos (IntKind.u64.wrap x) h0
  rw [w_in (by omega) (by omega)]
  exact ⟨h2, h3⟩
theorem awake_bind : Ev (fun k => (comfitlaw06_awake.f k).bind fun t255 => (some t255)) true := Ev.bind awake_ev (Ev.const rfl)
theorem Go_gp {l : List S57} (hg : Good l) {a b : Int} (hj : jarsOk a b = true) (n : Nat) (hn : n ≤ 1000) :
    Ev (fun k => tags_Go.f k l a b (n : Int)) ((gp l (p0 a b) (fin l (p0 a b) n)).f0, (gp l (p0 a b) (fin l (p0 a b) n)).f1.f0, (gp l (p0 a b) (fin l (p0 a b) n)).f1.f1, (fin l (p0 a b) n : Int), 0) := by
  have := Go_ok hg hj n hn
  rw [lastP_gp] at this
  exact this
/-- What Ends tells: the number of steps, or that there is no end. -/
theorem endsOf_gp (l : List S57) (a b : Int) : endsOf l a b = if stop l (gp l (p0 a b) (fin l (p0 a b) 1000)) = true then ((fin l (p0 a b) 1000 : Int), 0) else (0, 4) := by
  unfold endsOf
  rw [lastP_gp]
  rfl
theorem circ_never {l : List S57} (hg : Good l) {a b : Int} (hj : jarsOk a b = true) {i j n : Nat} (hij : i < j) (hjn : j ≤ fin l (p0 a b) n) (hc : Circ l (p0 a b) i j) : endsOf l a b = (0, 4) := by
  have hn := never hg (At.start hg hj) hij (fun k hk => fin_go l (p0 a b) n k (by omega)) hc
  rw [endsOf_gp, hn, if_neg (by decide)]
theorem Circles_j3 {lr : List S39} (hl : lr.length ≤ 9223372036854775807) (hm : isM (lr.map cv) = true) {a b : Int} (hj : jarsOk a b = true) (x y : Int) :
    Ev (fun k => comfitlaw06_TagsCircles.j3 k lr x y (tellC (firstC (lr.map cv) a b)).2.2 (endsOf (lr.map cv) a b).2 false a b (tellC (firstC (lr.map cv) a b)).1 (tellC (firstC (lr.map cv) a b)).2.1) true := by
  have hg := (isM_good _).mp hm
  have hof := Of_ev lr hl
  rw [good_take lr hm] at hof
  obtain ⟨x0, x1⟩ := umod_range x 201 (by omega) (by omega)
  obtain ⟨y0, y1⟩ := umod_range y 201 (by omega) (by omega)
  have hgo : ∀ k, comfitlaw06_TagsCircles.j3 (k + 1) lr x y (tellC (firstC (lr.map cv) a b)).2.2 (endsOf (lr.map cv) a b).2 false a b (tellC (firstC (lr.map cv) a b)).1 (tellC (firstC (lr.map cv) a b)).2.1 = (if (wrap64 (Int.tmod (IntKind.u64.wrap (x)) 201)) ≥ (wrap64 (Int.tmod (IntKind.u64.wrap (y)) 201)) then ((comfitlaw06_awake.f k).bind fun t409 => (some t409)) else ((comfitlaw06_Of.f k lr).bind fun t410 => ((tags_Go.f k t410 a b (wrap64 (Int.tmod (IntKind.u64.wrap (x)) 201))).bind fun bt413 => ((comfitlaw06_Of.f k lr).bind fun t419 => ((tags_Go.f k t419 a b (wrap64 (Int.tmod (IntKind.u64.wrap (y)) 201))).bind fun bt422 => (if bt413.2.2.2.2 = 0 then (comfitlaw06_TagsCircles.j4 k lr (wrap64 (Int.tmod (IntKind.u64.wrap (x)) 201)) (wrap64 (Int.tmod (IntKind.u64.wrap (y)) 201)) (tellC (firstC (lr.map cv) a b)).2.2 (endsOf (lr.map cv) a b).2 bt413.1 bt413.2.2.2.1 bt422.1 bt422.2.2.2.1 (bt422.2.2.2.2 != 0) a b (tellC (firstC (lr.map cv) a b)).1 (tellC (firstC (lr.map cv) a b)).2.1 bt413.2.1 bt413.2.2.1 bt422.2.1 bt422.2.2.1) else (comfitlaw06_TagsCircles.j4 k lr (wrap64 (Int.tmod (IntKind.u64.wrap (x)) 201)) (wrap64 (Int.tmod (IntKind.u64.wrap (y)) 201)) (tellC (firstC (lr.map cv) a b)).2.2 (endsOf (lr.map cv) a b).2 bt413.1 bt413.2.2.2.1 bt422.1 bt422.2.2.2.1 true a b (tellC (firstC (lr.map cv) a b)).1 (tellC (firstC (lr.map cv) a b)).2.1 bt413.2.1 bt413.2.2.1 bt422.2.1 bt422.2.2.1))))))) := fun k => by
    rw [comfitlaw06_TagsCircles.j3, if_neg (by decide)]
  generalize wrap64 (Int.tmod (IntKind.u64.wrap x) 201) = i at *
  generalize wrap64 (Int.tmod (IntKind.u64.wrap y) 201) = j at *
  obtain ⟨i, rfl⟩ : ∃ n : Nat, i = (n : Int) := ⟨i.toNat, by omega⟩
  obtain ⟨j, rfl⟩ : ∃ n : Nat, j = (n : Int) := ⟨j.toNat, by omega⟩
  refine Ev.succ (g := fun k => _) ?_ hgo
  by_cases hij : ¬ i < j
  · exact Ev.ifPos (by omega) awake_bind
  replace hij : i < j := by omega
  refine Ev.ifNeg (by omega) ?_
  refine Ev.bind hof (Ev.bind (Go_gp hg hj i (by omega)) (Ev.bind hof (Ev.bind (Go_gp hg hj j (by omega)) ?_)))
  refine Ev.ifPos rfl ?_
  clear hgo
  dsimp only
  have hmi := fin_mono (lr.map cv) (p0 a b) (n := i) (m := j) (by omega)
  have hmj := fin_mono (lr.map cv) (p0 a b) (n := j) (m := 1000) (by omega)
  have hmj2 := fin_mono (lr.map cv) (p0 a b) (n := j) (m := 200) (by omega)
  have hli := fin_le (lr.map cv) (p0 a b) i
  have hlj := fin_le (lr.map cv) (p0 a b) j
  have hok := isC_iff (lr.map cv) a b i j
  -- what is known where the pair is a circle
  have hyes : isC (lr.map cv) a b (i : Int) (j : Int) = true → fin (lr.map cv) (p0 a b) i = i ∧ fin (lr.map cv) (p0 a b) j = j ∧ Circ (lr.map cv) (p0 a b) i j ∧ endsOf (lr.map cv) a b = (0, 4) := by
    intro h
    obtain ⟨_, h2, h3⟩ := hok.mp h
    have e1 : fin (lr.map cv) (p0 a b) j = j := by
      by_cases c : fin (lr.map cv) (p0 a b) j < j
      · have := hmj.2 c; omega
      · omega
    have e2 : fin (lr.map cv) (p0 a b) i = i := by
      by_cases c : fin (lr.map cv) (p0 a b) i < i
      · have := hmi.2 c; omega
      · omega
    exact ⟨e2, e1, h3, circ_never hg hj hij h2 h3⟩
  have h6 : ∀ z : Bool, (z = true → isC (lr.map cv) a b (i : Int) (j : Int) = true ∧ (tellC (firstC (lr.map cv) a b)).2.2 = 0 ∧ (tellC (firstC (lr.map cv) a b)).2.1 ≤ (j : Int)) →
      Ev (fun k => comfitlaw06_TagsCircles.j6 k (j : Int) (tellC (firstC (lr.map cv) a b)).2.2 (isC (lr.map cv) a b (i : Int) (j : Int)) z (tellC (firstC (lr.map cv) a b)).1 (tellC (firstC (lr.map cv) a b)).2.1) true := by
    intro z hz
    cases z with
    | true =>
      obtain ⟨z1, z2, z3⟩ := hz rfl
      exact Ev.succ (g := fun k => _) awake_bind (fun k => by rw [comfitlaw06_TagsCircles.j6, if_pos rfl, if_pos z1, if_pos z2, if_pos z3])
    | false => exact Ev.succ (g := fun k => _) awake_bind (fun k => by rw [comfitlaw06_TagsCircles.j6, if_neg (by decide)])
  -- the same place twice
  have hsame : fin (lr.map cv) (p0 a b) i = i → fin (lr.map cv) (p0 a b) j = j → (gp (lr.map cv) (p0 a b) i).f0 = (gp (lr.map cv) (p0 a b) j).f0 → (gp (lr.map cv) (p0 a b) i).f1.f0 = (gp (lr.map cv) (p0 a b) j).f1.f0 → (gp (lr.map cv) (p0 a b) i).f1.f1 = (gp (lr.map cv) (p0 a b) j).f1.f1 →
      isC (lr.map cv) a b (i : Int) (j : Int) = true ∧ (tellC (firstC (lr.map cv) a b)).2.2 = 0 ∧ (tellC (firstC (lr.map cv) a b)).2.1 ≤ (j : Int) := by
    intro e1 e2 e3 e4 e5
    have hc : Circ (lr.map cv) (p0 a b) i j := ⟨e3, by omega, by omega, fun _ _ _ _ => e4.symm, fun _ _ _ _ => e5.symm⟩
    refine ⟨hok.mpr ⟨hij, by have := hmj.1; omega, hc⟩, ?_⟩
    cases hf : firstC (lr.map cv) a b with
    | none => exact absurd hc (first_none hf j i hij (by have := hmj2.1; omega))
    | some c =>
      obtain ⟨i', j'⟩ := c
      obtain ⟨_, _, _, h4⟩ := first_some hf
      refine ⟨rfl, ?_⟩
      show (j' : Int) ≤ (j : Int)
      by_cases c : j < j'
      · exact absurd hc (h4 j i hij c)
      · omega
  -- the last part
  have h5 : Ev (fun k => comfitlaw06_TagsCircles.j5 k (i : Int) (j : Int) (tellC (firstC (lr.map cv) a b)).2.2 (gp (lr.map cv) (p0 a b) (fin (lr.map cv) (p0 a b) i)).f0 (fin (lr.map cv) (p0 a b) i : Int) (gp (lr.map cv) (p0 a b) (fin (lr.map cv) (p0 a b) j)).f0 (fin (lr.map cv) (p0 a b) j : Int) (isC (lr.map cv) a b (i : Int) (j : Int)) false (tellC (firstC (lr.map cv) a b)).1 (tellC (firstC (lr.map cv) a b)).2.1 (gp (lr.map cv) (p0 a b) (fin (lr.map cv) (p0 a b) i)).f1.f0 (gp (lr.map cv) (p0 a b) (fin (lr.map cv) (p0 a b) i)).f1.f1 (gp (lr.map cv) (p0 a b) (fin (lr.map cv) (p0 a b) j)).f1.f0 (gp (lr.map cv) (p0 a b) (fin (lr.map cv) (p0 a b) j)).f1.f1) true := by
    by_cases c1 : (fin (lr.map cv) (p0 a b) i : Int) = (i : Int)
    · by_cases c2 : (fin (lr.map cv) (p0 a b) j : Int) = (j : Int)
      · by_cases c3 : (gp (lr.map cv) (p0 a b) (fin (lr.map cv) (p0 a b) i)).f0 = (gp (lr.map cv) (p0 a b) (fin (lr.map cv) (p0 a b) j)).f0
        · refine Ev.succ (g := fun k => _) (h6 _ (fun hz => ?_)) (fun k => by rw [comfitlaw06_TagsCircles.j5, if_neg (by decide), if_pos c1, if_pos c2, if_pos c3])
          have e1 : fin (lr.map cv) (p0 a b) i = i := by omega
          have e2 : fin (lr.map cv) (p0 a b) j = j := by omega
          rw [e1, e2] at hz c3
          simp only [Bool.and_eq_true, beq_iff_eq] at hz
          exact hsame e1 e2 c3 hz.1 hz.2
        · exact Ev.succ (g := fun k => _) (h6 false (fun hz => by simp at hz)) (fun k => by rw [comfitlaw06_TagsCircles.j5, if_neg (by decide), if_pos c1, if_pos c2, if_neg c3])
      · exact Ev.succ (g := fun k => _) (h6 false (fun hz => by simp at hz)) (fun k => by rw [comfitlaw06_TagsCircles.j5, if_neg (by decide), if_pos c1, if_neg c2])
    · exact Ev.succ (g := fun k => _) (h6 false (fun hz => by simp at hz)) (fun k => by rw [comfitlaw06_TagsCircles.j5, if_neg (by decide), if_neg c1])
  -- the pair's own part
  have hgo4 : ∀ k, comfitlaw06_TagsCircles.j4 (k + 1) lr (i : Int) (j : Int) (tellC (firstC (lr.map cv) a b)).2.2 (endsOf (lr.map cv) a b).2 (gp (lr.map cv) (p0 a b) (fin (lr.map cv) (p0 a b) i)).f0 (fin (lr.map cv) (p0 a b) i : Int) (gp (lr.map cv) (p0 a b) (fin (lr.map cv) (p0 a b) j)).f0 (fin (lr.map cv) (p0 a b) j : Int) (0 != 0) a b (tellC (firstC (lr.map cv) a b)).1 (tellC (firstC (lr.map cv) a b)).2.1 (gp (lr.map cv) (p0 a b) (fin (lr.map cv) (p0 a b) i)).f1.f0 (gp (lr.map cv) (p0 a b) (fin (lr.map cv) (p0 a b) i)).f1.f1 (gp (lr.map cv) (p0 a b) (fin (lr.map cv) (p0 a b) j)).f1.f0 (gp (lr.map cv) (p0 a b) (fin (lr.map cv) (p0 a b) j)).f1.f1 = _ := fun k => by
    rw [comfitlaw06_TagsCircles.j4, if_neg (by decide)]
  refine Ev.succ (g := fun k => _) ?_ hgo4
  refine Ev.bind hof (Ev.bind (Check_ok hg hj (i : Int) (j : Int)) ?_)
  refine Ev.ifPos rfl ?_
  by_cases hz : isC (lr.map cv) a b (i : Int) (j : Int) = true
  · obtain ⟨e1, e2, hc, he⟩ := hyes hz
    rw [hz] at h5 ⊢
    rw [e1, e2] at h5 ⊢
    refine Ev.ifNeg (by omega) (Ev.ifPos rfl (Ev.ifPos hc.ord (Ev.ifNeg (by have := hc.a; omega) (Ev.ifNeg (by have := hc.b; omega) ?_))))
    rw [he]
    exact h5
  · rw [Bool.eq_false_iff.mpr hz] at h5 ⊢
    by_cases hv : (fin (lr.map cv) (p0 a b) j : Int) < (j : Int)
    · exact Ev.ifPos hv (Ev.ifNeg (by decide) h5)
    · exact Ev.ifNeg hv (Ev.ifNeg (by decide) h5)
theorem TagsCircles (l : List S39) (a b x y : Int) (hl : l.length ≤ maxLen) (hw : ∀ x ∈ l, S39.wf x) (wa : (Lit.int .i64 a).wf = true) (wb : (Lit.int .i64 b).wf = true) (wx : (Lit.int .i64 x).wf = true) (wy : (Lit.int .i64 y).wf = true) : ∃ k, comfitlaw06_TagsCircles.f k l a b x y = some true := by
  unfold maxLen at hl
  refine Ev.get ?_
  by_cases hg : isM (l.map cv) = true ∧ jarsOk a b = true
  · obtain ⟨hm, hj⟩ := hg
    have hgood := (isM_good _).mp hm
    have hof := Of_ev l hl
    rw [good_take l hm] at hof
    have h3 := Circles_j3 hl hm hj x y
    -- Ends tells nothing that does not fit
    have h2 : Ev (fun k => comfitlaw06_TagsCircles.j2 k l x y (tellC (firstC (l.map cv) a b)).2.2 (endsOf (l.map cv) a b).1 (endsOf (l.map cv) a b).2 a b (tellC (firstC (l.map cv) a b)).1 (tellC (firstC (l.map cv) a b)).2.1) true := by
      have hle := fin_le (l.map cv) (p0 a b) 1000
      have he := endsOf_gp (l.map cv) a b
      by_cases hs : stop (l.map cv) (gp (l.map cv) (p0 a b) (fin (l.map cv) (p0 a b) 1000)) = true
      · rw [if_pos hs] at he
        rw [he] at h3 ⊢
        have hf : (tellC (firstC (l.map cv) a b)).2.2 = 4 := by
          cases hf : firstC (l.map cv) a b with
          | none => rfl
          | some c =>
            obtain ⟨i', j'⟩ := c
            obtain ⟨q1, q2, q3, _⟩ := first_some hf
            have := circ_never hgood hj q1 q2 q3
            rw [he] at this
            simp at this
        by_cases h200 : (fin (l.map cv) (p0 a b) 1000 : Int) ≤ 200
        · exact Ev.succ (g := fun k => _) h3 (fun k => by rw [comfitlaw06_TagsCircles.j2, if_pos rfl, if_neg (by dsimp only; omega), if_neg (by dsimp only; omega), if_pos h200, if_pos hf])
        · exact Ev.succ (g := fun k => _) h3 (fun k => by rw [comfitlaw06_TagsCircles.j2, if_pos rfl, if_neg (by dsimp only; omega), if_neg (by dsimp only; omega), if_neg h200])
      · rw [if_neg hs] at he
        rw [he] at h3 ⊢
        exact Ev.succ (g := fun k => _) h3 (fun k => by rw [comfitlaw06_TagsCircles.j2, if_neg (by decide)]; rfl)
    have h0 : Ev (fun k => comfitlaw06_TagsCircles.j0 k l x y (tellC (firstC (l.map cv) a b)).2.2 (endsOf (l.map cv) a b).1 (endsOf (l.map cv) a b).2 false a b (tellC (firstC (l.map cv) a b)).1 (tellC (firstC (l.map cv) a b)).2.1) true := by
      cases hf : firstC (l.map cv) a b with
      | none =>
        rw [hf] at h2
        exact Ev.succ (g := fun k => _) h2 (fun k => by rw [comfitlaw06_TagsCircles.j0, if_neg (by decide)]; rw [if_neg (by show ¬ (4 : Int) = 0; decide), if_pos (by rfl)])
      | some c =>
        obtain ⟨i', j'⟩ := c
        rw [hf] at h2
        obtain ⟨q1, q2, q3, _⟩ := first_some hf
        have he := circ_never hgood hj q1 q2 q3
        have hm2 := fin_mono (l.map cv) (p0 a b) (n := 200) (m := 1000) (by omega)
        have hc : isC (l.map cv) a b (i' : Int) (j' : Int) = true := (isC_iff _ a b i' j').mpr ⟨q1, by have := hm2.1; omega, q3⟩
        have hl200 := fin_le (l.map cv) (p0 a b) 200
        have h1 : Ev (fun k => comfitlaw06_TagsCircles.j1 k l x y 0 (endsOf (l.map cv) a b).1 (endsOf (l.map cv) a b).2 false a b (i' : Int) (j' : Int)) true :=
          Ev.succ (g := fun k => _) h2 (fun k => by rw [comfitlaw06_TagsCircles.j1, if_neg (by decide)]; rfl)
        have hgo : ∀ k, comfitlaw06_TagsCircles.j0 (k + 1) l x y 0 (endsOf (l.map cv) a b).1 (endsOf (l.map cv) a b).2 false a b (i' : Int) (j' : Int) = _ := fun k => by
          rw [comfitlaw06_TagsCircles.j0, if_neg (by decide), if_pos rfl]
        refine Ev.succ (g := fun k => _) ?_ hgo
        refine Ev.bind hof (Ev.bind (Check_ok hgood hj (i' : Int) (j' : Int)) ?_)
        refine Ev.ifPos hc (Ev.ifPos rfl (Ev.ifPos (by rw [he]) (Ev.ifNeg (by omega) (Ev.ifNeg (by omega) ?_))))
        rw [show decide ((j' : Int) > 200) = false from decide_eq_false (by omega)]
        exact h1
    refine Ev.bind hof (Ev.bind (Circle_ok hgood hj) (Ev.bind hof (Ev.bind (Ends_ok hgood hj) (Ev.bind (ref_Machine l hl) ?_))))
    refine Ev.ifPos hm ?_
    simp only [Jars_is, Option.bind_some]
    rw [hj]
    exact h0
  · have hg' : ¬ (isM ((l.take 11).map cv) = true ∧ jarsOk a b = true) := by rw [isM_take]; exact hg
    have hj0 : Ev (fun k => comfitlaw06_TagsCircles.j0 k l x y 2 0 2 true a b 0 0) true :=
      Ev.succ (g := fun k => _) awake_bind (fun k => by rw [comfitlaw06_TagsCircles.j0, if_pos rfl, if_pos rfl, if_pos rfl])
    refine Ev.bind (Of_ev l hl) (Ev.bind (Circle_bad _ a b hg') (Ev.bind (Of_ev l hl) (Ev.bind (Ends_bad _ a b hg') (Ev.bind (ref_Machine l hl) ?_))))
    by_cases h1 : isM (l.map cv) = true
    · refine Ev.ifPos h1 ?_
      simp only [Jars_is, Option.bind_some]
      rw [show jarsOk a b = false by cases hq : jarsOk a b with
        | false => rfl
        | true => exact absurd ⟨h1, hq⟩ hg]
      exact hj0
    · exact Ev.ifNeg h1 hj0
end Go.Proofs.Ytjmbjnobbeflfaa.Pure
