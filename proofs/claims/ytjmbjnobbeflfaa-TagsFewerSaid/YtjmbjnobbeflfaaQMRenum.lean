/- Plain laws of machines: the machine without what is not reached runs as the machine; made fewer once more it stays. -/
import Derived.Test.YtjmbjnobbeflfaaQMFewer
set_option linter.unusedVariables false
set_option linter.unusedSimpArgs false
namespace Go.Proofs.Ytjmbjnobbeflfaa.Pure
open Go.RowKit Go.Proofs.Ytjmbjnobbeflfaa.X Go.Proofs.YtjmbjnobbeflfaaW.PrintWords Go.Proofs.YtjmbjnobbeflfaaW.PrintLast Go.Proofs.YtjmbjnobbeflfaaW.PrintMore
theorem cnt_mono (B : List Bool) {i j : Nat} (h : i ≤ j) : cnt B i ≤ cnt B j := by
  induction j with
  | zero => rw [show i = 0 by omega]; exact Nat.le_refl _
  | succ j ih =>
    by_cases c : i = j + 1
    · rw [c]; exact Nat.le_refl _
    · have h1 := ih (by omega)
      cases hb : hasB B j with
      | true => rw [cnt_yes hb]; omega
      | false => rw [cnt_no hb]; exact h1
theorem cnt_lt {B : List Bool} {i j : Nat} (h : hasB B i = true) (hij : i < j) : cnt B i < cnt B j := by
  have := cnt_mono B (show i + 1 ≤ j from hij)
  rw [cnt_yes h] at this
  omega
theorem cnt_surj (B : List Bool) : ∀ (i q : Nat), q < cnt B i → ∃ j, j < i ∧ hasB B j = true ∧ cnt B j = q := by
  intro i
  induction i with
  | zero => intro q h; rw [cnt_zero] at h; omega
  | succ i ih =>
    intro q h
    cases hb : hasB B i with
    | true =>
      rw [cnt_yes hb] at h
      by_cases c : q = cnt B i
      · exact ⟨i, by omega, hb, c.symm⟩
      · obtain ⟨j, h1, h2, h3⟩ := ih q (by omega)
        exact ⟨j, by omega, h2, h3⟩
    | false =>
      rw [cnt_no hb] at h
      obtain ⟨j, h1, h2, h3⟩ := ih q h
      exact ⟨j, by omega, h2, h3⟩
theorem outB_get (B : List Bool) (l : List S57) : ∀ (i j : Nat), j < i → hasB B j = true → (outB B l i).getD (cnt B j) z57 = renum B (l.getD j z57) := by
  intro i
  induction i with
  | zero => intro j h; omega
  | succ i ih =>
    intro j h hj
    have hlen := outB_len B l i
    by_cases c : j = i
    · subst c
      rw [outB_yes hj, ← hlen]
      simp
    · have h1 := ih j (by omega) hj
      cases hb : hasB B i with
      | true =>
        rw [outB_yes hb, ← h1]
        have := cnt_lt hj (show j < i by omega)
        simp only [List.getD_eq_getElem?_getD]
        rw [List.getElem?_append_left (by omega)]
      | false => rw [outB_no hb]; exact h1
/-- The machine without what is not reached. -/
def few (l : List S57) : List S57 := outB (marks l) l l.length
theorem few_len (l : List S57) : (few l).length = cnt (marks l) l.length := outB_len _ _ _
theorem good_cl {l : List S57} (hg : Good l) : ∀ j, hasB (marks l) j = true → closedAt l (marks l) j := by
  have hin := good_inR hg
  exact marks_closed (l := l) (fun j hj => ⟨(hin j hj).1, (hin j hj).2.1, (hin j hj).2.2.1, (hin j hj).2.2.2.1⟩) (by have := hg.ne; omega)
theorem mark_lt {l : List S57} {j : Nat} (h : hasB (marks l) j = true) : j < l.length := by have := hasB_lt h; rwa [marks_len] at this
theorem few_get {l : List S57} {j : Nat} (h : hasB (marks l) j = true) : (few l).getD (cnt (marks l) j) z57 = renum (marks l) (l.getD j z57) := outB_get _ _ _ _ (mark_lt h) h
theorem few_at {l : List S57} {q : Nat} (hq : q < (few l).length) : ∃ j, hasB (marks l) j = true ∧ cnt (marks l) j = q ∧ (few l).getD q z57 = renum (marks l) (l.getD j z57) := by
  rw [few_len] at hq
  obtain ⟨j, h1, h2, h3⟩ := cnt_surj _ _ _ hq
  exact ⟨j, h2, h3, by rw [← h3]; exact few_get h2⟩
theorem good_at {l : List S57} (hg : Good l) {j : Nat} (hj : j < l.length) : okO l.length (l.getD j z57) := hg.at (i := (j : Int)) (by omega) (by omega)
theorem mark_cnt {l : List S57} {j : Nat} (h : hasB (marks l) j = true) : cnt (marks l) j < (few l).length := by rw [few_len]; exact cnt_lt h (mark_lt h)
theorem few_good {l : List S57} (hg : Good l) : Good (few l) := by
  have h0 := mark_cnt (marks_zero (l := l) (by have := hg.ne; omega))
  have hle : (few l).length ≤ l.length := outB_le _ _ _
  refine ⟨by omega, by have := hg.le; omega, fun x hx => ?_⟩
  obtain ⟨q, hq, rfl⟩ := List.mem_iff_getElem.mp hx
  obtain ⟨j, h1, h2, h3⟩ := few_at hq
  have h4 : (few l)[q] = renum (marks l) (l.getD j z57) := by rw [← h3]; simp [hq]
  rw [h4]
  have hc := good_cl hg j h1
  obtain ⟨a1, a2, a3, a4, a5, a6⟩ := good_at hg (mark_lt h1)
  unfold closedAt at hc
  generalize l.getD j z57 = x at *
  have b2 : x.f0 ≠ 0 → cnt (marks l) x.f2.toNat < (few l).length := fun h => mark_cnt (hc.1 h)
  have b3 : x.f0 = 2 → cnt (marks l) x.f3.toNat < (few l).length := fun h => mark_cnt (hc.2 h)
  unfold renum okO
  dsimp only
  by_cases c0 : x.f0 = 0
  · rw [if_pos c0, if_neg (show ¬ x.f0 = 2 by omega)]
    omega
  · have := b2 c0
    rw [if_neg c0]
    by_cases c2 : x.f0 = 2
    · have := b3 c2
      rw [if_pos c2]
      omega
    · rw [if_neg c2]
      omega

/-! ### Once more -/
def pull (l : List S57) (C : List Bool) : List Bool := (List.range l.length).map fun j => hasB (marks l) j && hasB C (cnt (marks l) j)
theorem has_pull (l : List S57) (C : List Bool) (j : Nat) : hasB (pull l C) j = (hasB (marks l) j && hasB C (cnt (marks l) j)) := by
  by_cases h : j < l.length
  · unfold pull
    conv => lhs; unfold hasB
    simp [h]
    rfl
  · have h1 : hasB (pull l C) j = false := by
      cases e : hasB (pull l C) j with
      | false => rfl
      | true => have := hasB_lt e; unfold pull at this; simp at this; omega
    have h2 : hasB (marks l) j = false := by
      cases e : hasB (marks l) j with
      | false => rfl
      | true => exact absurd (mark_lt e) h
    rw [h1, h2]; rfl
theorem few_marks {l : List S57} (hg : Good l) {q : Nat} (hq : q < (few l).length) : hasB (marks (few l)) q = true := by
  have hn : 0 < l.length := by have := hg.ne; omega
  have hgf := few_good hg
  have hcf := good_cl hgf
  have h0 : hasB (marks l) 0 = true := marks_zero hn
  have hC : ∀ j, hasB (pull l (marks (few l))) j = true → closedAt l (pull l (marks (few l))) j := by
    intro j hj
    rw [has_pull, Bool.and_eq_true] at hj
    obtain ⟨hj1, hj2⟩ := hj
    have c1 := good_cl hg j hj1
    have c2 := hcf _ hj2
    unfold closedAt at c1 c2 ⊢
    rw [few_get hj1] at c2
    simp only [has_pull, Bool.and_eq_true]
    unfold renum at c2
    dsimp only at c2
    refine ⟨fun h => ⟨c1.1 h, ?_⟩, fun h => ⟨c1.2 h, ?_⟩⟩
    · have := c2.1 h
      rw [if_neg h] at this
      simpa using this
    · have := c2.2 h
      rw [if_pos h] at this
      simpa using this
  have hsub : subB (marks l) (pull l (marks (few l))) := by
    refine dfs_least hC _ _ _ ?_ ?_
    · intro j hj
      unfold hasB at hj
      by_cases c : j < l.length <;> simp [c] at hj
    · rw [has_pull, h0, cnt_zero, Bool.true_and]
      exact marks_zero (by have := hgf.ne; omega)
  obtain ⟨j, h1, h2, _⟩ := few_at hq
  have := hsub j h1
  rw [has_pull, Bool.and_eq_true, h2] at this
  exact this.2
theorem cnt_all {B : List Bool} : ∀ (n : Nat), (∀ q, q < n → hasB B q = true) → cnt B n = n := by
  intro n
  induction n with
  | zero => intro _; exact cnt_zero B
  | succ n ih => intro h; rw [cnt_yes (h n (by omega)), ih (fun q hq => h q (by omega))]
theorem few_few {l : List S57} (hg : Good l) : few (few l) = few l := by
  have hgf := few_good hg
  have hall : ∀ q, q < (few l).length → hasB (marks (few l)) q = true := fun q hq => few_marks hg hq
  have hc : ∀ q, q ≤ (few l).length → cnt (marks (few l)) q = q := fun q hq => cnt_all q (fun r hr => hall r (by omega))
  have hlen : (few (few l)).length = (few l).length := by rw [few_len (few l), hc _ (Nat.le_refl _)]
  refine List.ext_getElem hlen fun q h1 h2 => ?_
  have e := few_get (hall q h2)
  rw [hc q (by omega)] at e
  have e1 : (few (few l))[q] = (few (few l)).getD q z57 := by simp [h1]
  have e2 : (few l)[q] = (few l).getD q z57 := by simp [h2]
  rw [e1, e2, e]
  obtain ⟨a1, a2, a3, a4, a5, a6⟩ := good_at hgf h2
  generalize (few l).getD q z57 = x at *
  unfold renum
  have b2 := hc x.f2.toNat (by omega)
  have b3 := hc x.f3.toNat (by omega)
  rw [b2, b3, Int.toNat_of_nonneg a2, Int.toNat_of_nonneg a4]
  simp

/-! ### Runs -/
def ph (l : List S57) (p : S66) : S66 := ⟨(cnt (marks l) p.f0.toNat : Int), p.f1⟩
def mk (l : List S57) (p : S66) : Prop := hasB (marks l) p.f0.toNat = true
theorem od_ph {l : List S57} {p : S66} (h : mk l p) : od (few l) (ph l p) = renum (marks l) (od l p) := by
  have e := few_get h
  unfold od ph rd_T57
  simpa using e
theorem stop_ph {l : List S57} {p : S66} (h : mk l p) : stop (few l) (ph l p) = stop l p := by
  unfold stop
  rw [od_ph h]
  rfl
theorem go_ph {l : List S57} (hg : Good l) {B : Int} {p : S66} (hA : At l B p) (h : mk l p) (hs : stop l p = false) : nx (few l) (ph l p) = ph l (nx l p) ∧ mk l (nx l p) := by
  have ho := hA.ok hg
  have hc := good_cl hg _ h
  have e : l.getD p.f0.toNat z57 = od l p := rfl
  unfold closedAt at hc
  rw [e] at hc
  have h0 : (od l p).f0 ≠ 0 := by intro h; unfold stop at hs; rw [h] at hs; simp at hs
  have eo : od (few l) (ph l p) = ⟨(od l p).f0, (od l p).f1, (cnt (marks l) (od l p).f2.toNat : Int), if (od l p).f0 = 2 then (cnt (marks l) (od l p).f3.toNat : Int) else (od l p).f3⟩ := by
    rw [od_ph h]
    unfold renum
    rw [if_neg h0]
  have hcase : (od l p).f0 = 1 ∨ (od l p).f0 = 2 := by obtain ⟨_, _, _, _, _, q⟩ := ho; omega
  have hpj : (ph l p).f1 = p.f1 := rfl
  have hm2 := hc.1 h0
  have hm3 := hc.2
  unfold nx
  rw [eo, hpj]
  generalize od l p = q at *
  dsimp only
  rcases hcase with c | c
  · rw [if_pos c, if_pos c]
    split <;> exact ⟨rfl, hm2⟩
  · have n1 : ¬ q.f0 = 1 := by omega
    rw [if_neg n1, if_neg n1, if_pos c]
    split <;> split <;> first | exact ⟨rfl, hm2⟩ | exact ⟨rfl, hm3 c⟩
theorem tr_ph {l : List S57} (hg : Good l) : ∀ (n : Nat) (p : S66) (B : Int), At l B p → mk l p → tr (few l) n (ph l p) = (tr l n p).map (ph l) ∧ ∀ q ∈ tr l n p, mk l q := by
  intro n
  induction n with
  | zero =>
    intro p B hA h
    refine ⟨rfl, fun q hq => ?_⟩
    simp [tr] at hq
    subst hq
    exact h
  | succ n ih =>
    intro p B hA h
    rw [tr, tr, stop_ph h]
    by_cases hs : stop l p = true
    · rw [if_pos hs, if_pos hs]
      refine ⟨rfl, fun q hq => ?_⟩
      simp at hq
      subst hq
      exact h
    · have hsf := Bool.eq_false_iff.mpr hs
      rw [if_neg hs, if_neg hs]
      obtain ⟨g1, g2⟩ := go_ph hg hA h hsf
      obtain ⟨i1, i2⟩ := ih (nx l p) (B + 1) (hA.next hg) g2
      rw [g1, i1]
      refine ⟨rfl, fun q hq => ?_⟩
      rcases List.mem_cons.mp hq with rfl | hq
      · exact h
      · exact i2 q hq
theorem p0_ph {l : List S57} (a b : Int) : ph l (p0 a b) = p0 a b := by
  unfold ph p0
  simp [cnt_zero]
theorem tr_few {l : List S57} (hg : Good l) {a b : Int} (hj : jarsOk a b = true) (n : Nat) : tr (few l) n (p0 a b) = (tr l n (p0 a b)).map (ph l) ∧ ∀ q ∈ tr l n (p0 a b), mk l q := by
  have h := tr_ph hg n (p0 a b) 100 (At.start hg hj) (marks_zero (by have := hg.ne; omega))
  rw [p0_ph] at h
  exact h
theorem last_ph (l : List S57) {T : List S66} (h : T ≠ []) : lastP (T.map (ph l)) = ph l (lastP T) := by
  unfold lastP
  rw [List.getLastD_eq_getLast?, List.getLastD_eq_getLast?, List.getLast?_map, List.getLast?_eq_some_getLast h]
  rfl
theorem last_mk {l : List S57} (hg : Good l) {a b : Int} (hj : jarsOk a b = true) (n : Nat) : mk l (lastP (tr l n (p0 a b))) := (tr_few hg hj n).2 _ (lastP_mem (tr_ne _ _ _))
theorem last_few {l : List S57} (hg : Good l) {a b : Int} (hj : jarsOk a b = true) (n : Nat) : lastP (tr (few l) n (p0 a b)) = ph l (lastP (tr l n (p0 a b))) := by
  rw [(tr_few hg hj n).1, last_ph l (tr_ne _ _ _)]
theorem ends_few {l : List S57} (hg : Good l) {a b : Int} (hj : jarsOk a b = true) : endsOf (few l) a b = endsOf l a b := by
  unfold endsOf
  rw [last_few hg hj, stop_ph (last_mk hg hj 1000), (tr_few hg hj 1000).1, List.length_map]
/-- The same rows. -/
theorem Eq29_go (l : List S57) (hl : l.length ≤ 1000) : ∀ (d i : Nat), i + d = l.length → Ev (fun k => tags_Order_29.l0 k l l (l.length : Int) (i : Int)) true := by
  intro d
  induction d with
  | zero => intro i hi; exact Ev.succ (g := fun _ => some true) (Ev.const rfl) (fun k => by rw [tags_Order_29.l0, if_neg (by omega)])
  | succ d ih =>
    intro i hi
    refine Ev.succ (g := fun k => _) (ih (i + 1) (by omega)) (fun k => ?_)
    rw [tags_Order_29.l0, if_pos (by omega), if_pos (by omega), if_pos (by omega), if_pos (by omega), if_neg (by simp), show wrap64 ((i : Int) + 1) = ((i + 1 : Nat) : Int) by unfold wrap64; omega]
theorem Eq29_refl (l : List S57) (hl : l.length ≤ 1000) : Ev (fun k => tags_Order_29.f k l l) true := by
  unfold tags_Order_29.f
  exact Ev.ifPos rfl (Eq29_go l hl l.length 0 (by omega))
end Go.Proofs.Ytjmbjnobbeflfaa.Pure
