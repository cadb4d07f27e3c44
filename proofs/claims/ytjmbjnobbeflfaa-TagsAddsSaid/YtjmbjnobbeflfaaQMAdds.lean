/- Plain laws of machines: Adds of the program and of the reference. -/
import Derived.Test.YtjmbjnobbeflfaaQMGo
import Derived.Test.YtjmbjnobbeflfaaQXtagsAdds
import Derived.Test.YtjmbjnobbeflfaaQXcomfitref06Adds
set_option linter.unusedVariables false
set_option linter.unusedSimpArgs false
namespace Go.Proofs.Ytjmbjnobbeflfaa.Pure
open Go.RowKit Go.Proofs.Ytjmbjnobbeflfaa.X Go.Proofs.YtjmbjnobbeflfaaW.PrintWords Go.Proofs.YtjmbjnobbeflfaaW.PrintLast Go.Proofs.YtjmbjnobbeflfaaW.PrintMore
def jarN (c : Int) (p : S66) : Int := if c = 0 then p.f1.f0 else p.f1.f1
def addOk (l : List S57) (c x y : Int) : Bool := stop l (lastP (tr l 1000 (p0 x y))) && (jarN c (lastP (tr l 1000 (p0 x y))) == x + y)
def five : List Int := [0, 1, 2, 3, 4]
def addsB (l : List S57) (c : Int) : Bool := five.all fun x => five.all fun y => addOk l c x y
theorem Adds_j3 {l : List S57} (c : Int) (x x' y : Int) (b : Bool) (r : Bool × Int) (h : Ev (fun k => tags_Adds.l1 k l c x x' (y + 1)) r) (hy : 0 ≤ y ∧ y < 5) : Ev (fun k => tags_Adds.j3 k l c x x' y b) (if b = true then (false, 0) else r) := by
  cases b with
  | true => exact Ev.succ (g := fun _ => some (false, 0)) (Ev.const rfl) (fun k => by rw [tags_Adds.j3, if_pos rfl])
  | false => exact Ev.succ (g := fun k => _) h (fun k => by rw [tags_Adds.j3, if_neg (by decide), w_in (n := y + 1) (by omega) (by omega)])
theorem Adds_l1 {l : List S57} (hg : Good l) (c : Int) (hc : c = 0 ∨ c = 1) (x y : Int) (hx : 0 ≤ x ∧ x < 5) (hy : 0 ≤ y ∧ y < 5) (r : Bool × Int) (h : Ev (fun k => tags_Adds.l1 k l c x x (y + 1)) r) :
    Ev (fun k => tags_Adds.l1 k l c x x y) (if addOk l c x y = true then r else (false, 0)) := by
  have hj : jarsOk x y = true := by unfold jarsOk; rw [decide_eq_true_eq]; omega
  have hlen := tr_len l 1000 (p0 x y)
  obtain ⟨e1, e2⟩ := lastP_eq (T := tr l 1000 (p0 x y)) hlen.1 (by omega)
  have hA := last_at hg hj 1000
  have hgo : ∀ k, tags_Adds.l1 (k + 1) l c x x y = ((tags_ends.f k l x y).bind fun bt436 => (if bt436.2.2 = true then (if 0 ≤ (wrap64 ((bt436.1.length : Int) - 1)) then (if (wrap64 ((bt436.1.length : Int) - 1)) < (bt436.1.length : Int) then (if c = 0 then (tags_Adds.j3 k l 0 x x y (((rd_T66 bt436.1 (wrap64 ((bt436.1.length : Int) - 1))).f1.f0) != (wrap64 (x + y)))) else (if c = 1 then (tags_Adds.j3 k l 1 x x y (((rd_T66 bt436.1 (wrap64 ((bt436.1.length : Int) - 1))).f1.f1) != (wrap64 (x + y)))) else (none))) else (none)) else (none)) else (tags_Adds.j3 k l c x x y true))) := fun k => by
    rw [tags_Adds.l1, if_pos hy.2]
  refine Ev.succ (g := fun k => _) (Ev.bind (ends_ev hg hj) ?_) hgo
  dsimp only
  unfold addOk
  generalize lastP (tr l 1000 (p0 x y)) = q at *
  by_cases hs : stop l q = true
  · refine Ev.ifPos hs ?_
    rw [e1]
    refine Ev.ifPos (by omega) (Ev.ifPos (by omega) ?_)
    rw [e2, w_in (n := x + y) (by omega) (by omega), hs, Bool.true_and]
    unfold jarN
    rcases hc with rfl | rfl
    · refine Ev.ifPos rfl ?_
      rw [if_pos rfl]
      refine (Adds_j3 0 x x y _ r h hy).cast ?_
      rw [bne]
      cases (q.f1.f0 == x + y) <;> rfl
    · refine Ev.ifNeg (by decide) (Ev.ifPos rfl ?_)
      rw [if_neg (show ¬ (1 : Int) = 0 by decide)]
      refine (Adds_j3 1 x x y _ r h hy).cast ?_
      rw [bne]
      cases (q.f1.f1 == x + y) <;> rfl
  · refine Ev.ifNeg hs ((Adds_j3 c x x y true r h hy).cast ?_)
    rw [Bool.eq_false_iff.mpr hs, Bool.false_and]; rfl
theorem Adds_l0 {l : List S57} (hg : Good l) (c : Int) (hc : c = 0 ∨ c = 1) (x : Int) (hx : 0 ≤ x ∧ x < 5) (r : Bool × Int) (h : Ev (fun k => tags_Adds.l0 k l c (x + 1)) r) :
    Ev (fun k => tags_Adds.l0 k l c x) (if (five.all fun y => addOk l c x y) = true then r else (false, 0)) := by
  have h5 : Ev (fun k => tags_Adds.l1 k l c x x 5) r := Ev.succ (g := fun k => _) h (fun k => by rw [tags_Adds.l1, if_neg (by decide), w_in (n := x + 1) (by omega) (by omega)])
  have h4 := Adds_l1 hg c hc x 4 hx (by omega) _ h5
  have h3 := Adds_l1 hg c hc x 3 hx (by omega) _ h4
  have h2 := Adds_l1 hg c hc x 2 hx (by omega) _ h3
  have h1 := Adds_l1 hg c hc x 1 hx (by omega) _ h2
  have h0 := Adds_l1 hg c hc x 0 hx (by omega) _ h1
  refine Ev.succ (g := fun k => _) (h0.cast ?_) (fun k => by rw [tags_Adds.l0, if_pos hx.2])
  unfold five
  simp only [List.all_cons, List.all_nil, Bool.and_true]
  generalize addOk l c x 0 = b0
  generalize addOk l c x 1 = b1
  generalize addOk l c x 2 = b2
  generalize addOk l c x 3 = b3
  generalize addOk l c x 4 = b4
  cases b0 <;> cases b1 <;> cases b2 <;> cases b3 <;> cases b4 <;> rfl
theorem Adds_ok {l : List S57} (hg : Good l) (c : Int) (hc : c = 0 ∨ c = 1) : Ev (fun k => tags_Adds.f k l c) (addsB l c, 0) := by
  have h5 : Ev (fun k => tags_Adds.l0 k l c 5) (true, 0) := Ev.succ (g := fun _ => some (true, 0)) (Ev.const rfl) (fun k => by rw [tags_Adds.l0, if_neg (by decide)])
  have h4 := Adds_l0 hg c hc 4 (by omega) _ h5
  have h3 := Adds_l0 hg c hc 3 (by omega) _ h4
  have h2 := Adds_l0 hg c hc 2 (by omega) _ h3
  have h1 := Adds_l0 hg c hc 1 (by omega) _ h2
  have h0 := Adds_l0 hg c hc 0 (by omega) _ h1
  unfold tags_Adds.f tags_isMachine.f
  simp only [Option.bind_some]
  refine Ev.ifPos ((isM_good l).mpr hg) (Ev.ifNeg (by omega) ?_)
  rw [show decide (c > 1) = false from decide_eq_false (by omega)]
  refine Ev.succ (g := fun k => _) (h0.cast ?_) (fun k => by rw [tags_Adds.j0, if_neg (by decide)])
  unfold addsB
  rw [show five.all (fun x => five.all fun y => addOk l c x y) = ((five.all fun y => addOk l c 0 y) && ((five.all fun y => addOk l c 1 y) && ((five.all fun y => addOk l c 2 y) && ((five.all fun y => addOk l c 3 y) && (five.all fun y => addOk l c 4 y))))) by
    rw [show five = [0, 1, 2, 3, 4] from rfl]; simp only [List.all_cons, List.all_nil, Bool.and_true]]
  generalize (five.all fun y => addOk l c 0 y) = b0
  generalize (five.all fun y => addOk l c 1 y) = b1
  generalize (five.all fun y => addOk l c 2 y) = b2
  generalize (five.all fun y => addOk l c 3 y) = b3
  generalize (five.all fun y => addOk l c 4 y) = b4
  cases b0 <;> cases b1 <;> cases b2 <;> cases b3 <;> cases b4 <;> rfl
theorem Adds_bad {l : List S57} (c : Int) (h : isM l = false ∨ ¬ (c = 0 ∨ c = 1)) : Ev (fun k => tags_Adds.f k l c) (false, 2) := by
  have hj : ∀ c : Int, Ev (fun k => tags_Adds.j0 k l c true) (false, 2) := fun c => Ev.succ (g := fun _ => some (false, 2)) (Ev.const rfl) (fun k => by rw [tags_Adds.j0, if_pos rfl])
  unfold tags_Adds.f tags_isMachine.f
  simp only [Option.bind_some]
  by_cases hm : isM l = true
  · have hc := h.resolve_left (by rw [hm]; decide)
    refine Ev.ifPos hm ?_
    by_cases h0 : c < 0
    · exact Ev.ifPos h0 (hj c)
    · refine Ev.ifNeg h0 ?_
      rw [show decide (c > 1) = true from decide_eq_true (by omega)]
      exact hj c
  · exact Ev.ifNeg hm (hj c)
/-! ### The reference's Adds -/
theorem RAdds_j2 {l : List S39} (c : Int) (x x' y : Int) (b : Bool) (r : Bool) (h : Ev (fun k => comfitref06_Adds.l1 k l c x x' (y + 1)) r) (hy : 0 ≤ y ∧ y < 5) : Ev (fun k => comfitref06_Adds.j2 k l c x x' y b) (if b = true then false else r) := by
  cases b with
  | true => exact Ev.succ (g := fun _ => some false) (Ev.const rfl) (fun k => by rw [comfitref06_Adds.j2, if_pos rfl])
  | false => exact Ev.succ (g := fun k => _) h (fun k => by rw [comfitref06_Adds.j2, if_neg (by decide), w_in (n := y + 1) (by omega) (by omega)])
theorem RAdds_l1 {lr : List S39} (hg : Good (lr.map cv)) (c : Int) (hc : c = 0 ∨ c = 1) (x y : Int) (hx : 0 ≤ x ∧ x < 5) (hy : 0 ≤ y ∧ y < 5) (r : Bool) (h : Ev (fun k => comfitref06_Adds.l1 k lr c x x (y + 1)) r) :
    Ev (fun k => comfitref06_Adds.l1 k lr c x x y) (if addOk (lr.map cv) c x y = true then r else false) := by
  have hj : jarsOk x y = true := by unfold jarsOk; rw [decide_eq_true_eq]; omega
  have hlen := tr_len (lr.map cv) 1000 (p0 x y)
  obtain ⟨e1, e2⟩ := lastP_eq (T := tr (lr.map cv) 1000 (p0 x y)) hlen.1 (by omega)
  have e3 := lastP_map hlen.1 (lr.map cv)
  have hgo : ∀ k, comfitref06_Adds.l1 (k + 1) lr c x x y = ((comfitref06_Places.f k lr x y 1000).bind fun bt445 => (if bt445.2 = true then (if 0 ≤ (wrap64 ((bt445.1.length : Int) - 1)) then (if (wrap64 ((bt445.1.length : Int) - 1)) < (bt445.1.length : Int) then (if c = 0 then (comfitref06_Adds.j2 k lr 0 x x y (((rd_T71 bt445.1 (wrap64 ((bt445.1.length : Int) - 1))).f1.f0) != (wrap64 (x + y)))) else (if c = 1 then (comfitref06_Adds.j2 k lr 1 x x y (((rd_T71 bt445.1 (wrap64 ((bt445.1.length : Int) - 1))).f1.f1) != (wrap64 (x + y)))) else (none))) else (none)) else (none)) else (comfitref06_Adds.j2 k lr c x x y true))) := fun k => by
    rw [comfitref06_Adds.l1, if_pos hy.2]
  refine Ev.succ (g := fun k => _) (Ev.bind (Places_ev hg hj 1000 (by omega)) ?_) hgo
  dsimp only
  unfold addOk
  rw [List.length_map, e1, e3]
  generalize lastP (tr (lr.map cv) 1000 (p0 x y)) = q at *
  by_cases hs : stop (lr.map cv) q = true
  · refine Ev.ifPos hs ?_
    refine Ev.ifPos (by omega) (Ev.ifPos (by omega) ?_)
    rw [w_in (n := x + y) (by omega) (by omega), hs, Bool.true_and]
    unfold jarN
    rcases hc with rfl | rfl
    · refine Ev.ifPos rfl ?_
      rw [if_pos rfl]
      refine (RAdds_j2 0 x x y _ r h hy).cast ?_
      show (if (q.f1.f0 != x + y) = true then false else r) = _
      rw [bne]
      cases (q.f1.f0 == x + y) <;> rfl
    · refine Ev.ifNeg (by decide) (Ev.ifPos rfl ?_)
      rw [if_neg (show ¬ (1 : Int) = 0 by decide)]
      refine (RAdds_j2 1 x x y _ r h hy).cast ?_
      show (if (q.f1.f1 != x + y) = true then false else r) = _
      rw [bne]
      cases (q.f1.f1 == x + y) <;> rfl
  · refine Ev.ifNeg hs ((RAdds_j2 c x x y true r h hy).cast ?_)
    rw [Bool.eq_false_iff.mpr hs, Bool.false_and]; rfl
theorem RAdds_l0 {lr : List S39} (hg : Good (lr.map cv)) (c : Int) (hc : c = 0 ∨ c = 1) (x : Int) (hx : 0 ≤ x ∧ x < 5) (r : Bool) (h : Ev (fun k => comfitref06_Adds.l0 k lr c (x + 1)) r) :
    Ev (fun k => comfitref06_Adds.l0 k lr c x) (if (five.all fun y => addOk (lr.map cv) c x y) = true then r else false) := by
  have h5 : Ev (fun k => comfitref06_Adds.l1 k lr c x x 5) r := Ev.succ (g := fun k => _) h (fun k => by rw [comfitref06_Adds.l1, if_neg (by decide), w_in (n := x + 1) (by omega) (by omega)])
  have h4 := RAdds_l1 hg c hc x 4 hx (by omega) _ h5
  have h3 := RAdds_l1 hg c hc x 3 hx (by omega) _ h4
  have h2 := RAdds_l1 hg c hc x 2 hx (by omega) _ h3
  have h1 := RAdds_l1 hg c hc x 1 hx (by omega) _ h2
  have h0 := RAdds_l1 hg c hc x 0 hx (by omega) _ h1
  refine Ev.succ (g := fun k => _) (h0.cast ?_) (fun k => by rw [comfitref06_Adds.l0, if_pos hx.2])
  unfold five
  simp only [List.all_cons, List.all_nil, Bool.and_true]
  generalize addOk (lr.map cv) c x 0 = b0
  generalize addOk (lr.map cv) c x 1 = b1
  generalize addOk (lr.map cv) c x 2 = b2
  generalize addOk (lr.map cv) c x 3 = b3
  generalize addOk (lr.map cv) c x 4 = b4
  cases b0 <;> cases b1 <;> cases b2 <;> cases b3 <;> cases b4 <;> rfl
theorem ref_Adds {lr : List S39} (hg : Good (lr.map cv)) (c : Int) (hc : c = 0 ∨ c = 1) : Ev (fun k => comfitref06_Adds.f k lr c) (addsB (lr.map cv) c) := by
  have h5 : Ev (fun k => comfitref06_Adds.l0 k lr c 5) true := Ev.succ (g := fun _ => some true) (Ev.const rfl) (fun k => by rw [comfitref06_Adds.l0, if_neg (by decide)])
  have h4 := RAdds_l0 hg c hc 4 (by omega) _ h5
  have h3 := RAdds_l0 hg c hc 3 (by omega) _ h4
  have h2 := RAdds_l0 hg c hc 2 (by omega) _ h3
  have h1 := RAdds_l0 hg c hc 1 (by omega) _ h2
  have h0 := RAdds_l0 hg c hc 0 (by omega) _ h1
  refine h0.cast ?_
  unfold addsB
  rw [show five.all (fun x => five.all fun y => addOk (lr.map cv) c x y) = ((five.all fun y => addOk (lr.map cv) c 0 y) && ((five.all fun y => addOk (lr.map cv) c 1 y) && ((five.all fun y => addOk (lr.map cv) c 2 y) && ((five.all fun y => addOk (lr.map cv) c 3 y) && (five.all fun y => addOk (lr.map cv) c 4 y))))) by
    rw [show five = [0, 1, 2, 3, 4] from rfl]; simp only [List.all_cons, List.all_nil, Bool.and_true]]
  generalize (five.all fun y => addOk (lr.map cv) c 0 y) = b0
  generalize (five.all fun y => addOk (lr.map cv) c 1 y) = b1
  generalize (five.all fun y => addOk (lr.map cv) c 2 y) = b2
  generalize (five.all fun y => addOk (lr.map cv) c 3 y) = b3
  generalize (five.all fun y => addOk (lr.map cv) c 4 y) = b4
  cases b0 <;> cases b1 <;> cases b2 <;> cases b3 <;> cases b4 <;> rfl
end Go.Proofs.Ytjmbjnobbeflfaa.Pure
