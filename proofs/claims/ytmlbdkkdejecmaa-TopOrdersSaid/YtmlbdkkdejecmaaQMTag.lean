/- Plain laws of the machines: what is reached, where a run is; turned from the tags' seat. -/
import Derived.Test.YtmlbdkkdejecmaaQMBase
import Derived.Test.YtmlbdkkdejecmaaQMReach
import Derived.Test.YtmlbdkkdejecmaaQHFewer
import Derived.Test.YtmlbdkkdejecmaaQXM
import Derived.Test.YtmlbdkkdejecmaaQXG
import Derived.Test.YtmlbdkkdejecmaaQXE
set_option linter.unusedVariables false
set_option linter.unusedSimpArgs false
namespace Go.Proofs.Ytmlbdkkdejecmaa.Pure
open Go.RowKit Go.Proofs.Ytmlbdkkdejecmaa.X Go.Proofs.YtmlbdkkdejecmaaW.PrintWords Go.Proofs.YtmlbdkkdejecmaaW.PrintLast Go.Proofs.YtmlbdkkdejecmaaW.PrintMore
def cv (x : S44) : S45 := ⟨x.f0, x.f1, x.f2, x.f3⟩
theorem rd_cv (l : List S44) (i : Int) : rd_T45 (l.map cv) i = cv (rd_T44 l i) := by
  unfold rd_T45 rd_T44
  by_cases h : i.toNat < l.length
  · simp [h]
  · simp [h]; rfl
/-- What an order may be, amid n of them. -/
def okO (n : Int) (x : S45) : Prop := (x.f1 = 0 ∨ x.f1 = 1) ∧ 0 ≤ x.f2 ∧ x.f2 < n ∧ 0 ≤ x.f3 ∧ x.f3 < n ∧ (x.f0 = 0 ∧ x.f1 = 0 ∧ x.f2 = 0 ∧ x.f3 = 0 ∨ x.f0 = 1 ∧ x.f3 = 0 ∨ x.f0 = 2)
instance (n : Int) (x : S45) : Decidable (okO n x) := by unfold okO; exact inferInstance
theorem bad_ok (n : Int) (x : S45) : badO n x = !decide (okO n x) := by
  have h : badO n x = false ↔ okO n x := by
    unfold badO okO mn mx
    constructor
    · intro h
      by_cases h1 : x.f1 < 0
      · rw [if_pos h1] at h; simp at h
      rw [if_neg h1] at h
      by_cases h2 : 1 < x.f1
      · rw [if_pos h2] at h; simp at h
      rw [if_neg h2] at h
      by_cases h3 : (if x.f3 < x.f2 then x.f3 else x.f2) < 0
      · rw [if_pos h3] at h; simp at h
      rw [if_neg h3] at h
      by_cases h4 : n ≤ (if x.f2 < x.f3 then x.f3 else x.f2)
      · rw [if_pos h4] at h; simp at h
      rw [if_neg h4] at h
      have g : 0 ≤ x.f2 ∧ 0 ≤ x.f3 ∧ x.f2 < n ∧ x.f3 < n := by
        split at h3 <;> split at h4 <;> omega
      refine ⟨by omega, by omega, by omega, by omega, by omega, ?_⟩
      by_cases h5 : x.f0 = 0
      · rw [if_pos h5] at h; simp at h; omega
      rw [if_neg h5] at h
      by_cases h6 : x.f0 = 1
      · rw [if_pos h6] at h; simp at h; omega
      rw [if_neg h6] at h
      simp at h; omega
    · rintro ⟨h1, h2, h3, h4, h5, h6⟩
      rw [if_neg (by omega), if_neg (by omega), if_neg (by split <;> omega), if_neg (by split <;> omega)]
      rcases h6 with ⟨a, b, c, d⟩ | ⟨a, b⟩ | a
      · rw [if_pos a]; simp [b, c, d]
      · rw [if_neg (by omega), if_pos a]; simp [b]
      · rw [if_neg (by omega), if_neg (by omega)]; simp [a]
  cases hb : badO n x with
  | false => have := h.mp hb; simp [this]
  | true =>
    have : ¬ okO n x := fun hk => by rw [h.mpr hk] at hb; simp at hb
    simp [this]
/-- A machine. -/
structure Good (l : List S45) : Prop where
  ne : 1 ≤ l.length
  le : l.length ≤ 8
  ok : ∀ x ∈ l, okO l.length x
theorem isM_good (l : List S45) : isM l = true ↔ Good l := by
  unfold isM
  simp only [Bool.and_eq_true, decide_eq_true_eq, Bool.not_eq_true', List.any_eq_false]
  constructor
  · rintro ⟨a, b, c⟩
    refine ⟨a, b, fun x hx => ?_⟩
    have := c x hx
    rw [bad_ok] at this
    simpa using this
  · rintro ⟨a, b, c⟩
    refine ⟨a, b, fun x hx => ?_⟩
    rw [bad_ok]
    simpa using c x hx
theorem Good.at {l : List S45} (h : Good l) {i : Int} (h0 : 0 ≤ i) (h1 : i < l.length) : okO l.length (rd_T45 l i) := by
  unfold rd_T45
  have hl : i.toNat < l.length := by omega
  rw [List.getD_eq_getElem?_getD, List.getElem?_eq_getElem hl, Option.getD_some]
  exact h.ok _ (List.getElem_mem hl)
/-! ### The reference's Machine -/
theorem ref_Machine_go (l : List S44) (hl : l.length ≤ 9223372036854775807) : ∀ (d i : Nat), i + d = l.length →
    Ev (fun k => comfitref06_Machine.l0 k l l (l.length : Int) (i : Int)) ((l.drop i).all (fun x => decide (okO l.length (cv x))) && (decide (1 ≤ l.length) && decide (l.length ≤ 8))) := by
  intro d
  induction d with
  | zero =>
    intro i hi
    have hi' : l.length ≤ i := by omega
    rw [List.drop_eq_nil_of_le hi']
    refine Ev.succ (g := fun _ => some (decide (1 ≤ l.length) && decide (l.length ≤ 8))) ((Ev.const rfl).cast (by simp)) (fun k => ?_)
    rw [comfitref06_Machine.l0, if_neg (by omega)]
    by_cases h1 : 1 ≤ l.length
    · rw [if_pos (by omega)]
      congr 1
      rw [show decide (1 ≤ l.length) = true from decide_eq_true h1, Bool.true_and, Bool.eq_iff_iff]
      simp only [decide_eq_true_eq]
      omega
    · rw [if_neg (by omega)]
      simp [h1]
  | succ d ih =>
    intro i hi
    have hil : i < l.length := by omega
    have hx : rd_T44 l (i : Int) = l[i] := by unfold rd_T44; simp [hil]
    have hstep : wrap64 ((i : Int) + 1) = ((i + 1 : Nat) : Int) := by unfold wrap64; omega
    have h2 : ∀ b : Bool, Ev (fun k => comfitref06_Machine.j2 k l l (l.length : Int) (i : Int) b) (if b then false else (l.drop (i + 1)).all (fun x => decide (okO l.length (cv x))) && (decide (1 ≤ l.length) && decide (l.length ≤ 8))) := by
      intro b
      cases b with
      | true => exact Ev.succ (g := fun _ => some false) (Ev.const rfl) (fun k => by rw [comfitref06_Machine.j2, if_pos rfl])
      | false => exact Ev.succ (g := fun k => comfitref06_Machine.l0 k l l (l.length : Int) ((i + 1 : Nat) : Int)) (ih (i + 1) (by omega)) (fun k => by rw [comfitref06_Machine.j2, if_neg (by decide), hstep])
    have h1 : ∀ x : S45, (x.f0 = 0 ∧ x.f1 = 0 ∧ x.f2 = 0 ∧ x.f3 = 0 ∨ x.f0 = 1 ∧ x.f3 = 0 ∨ x.f0 = 2) → Ev (fun k => comfitref06_Machine.j1 k l l (l.length : Int) (i : Int) x.f0 x.f1 x.f2 x.f3) (decide (okO l.length x) && ((l.drop (i + 1)).all (fun x => decide (okO l.length (cv x))) && (decide (1 ≤ l.length) && decide (l.length ≤ 8)))) := by
      intro x hx
      have hno : ¬ okO l.length x → (if true = true then false else (l.drop (i + 1)).all (fun x => decide (okO l.length (cv x))) && (decide (1 ≤ l.length) && decide (l.length ≤ 8))) = (decide (okO l.length x) && ((l.drop (i + 1)).all (fun x => decide (okO l.length (cv x))) && (decide (1 ≤ l.length) && decide (l.length ≤ 8)))) := fun h => by simp [h]
      by_cases c1 : x.f1 < 0
      · exact Ev.succ (g := fun k => _) ((h2 true).cast (hno (by unfold okO; omega))) (fun k => by rw [comfitref06_Machine.j1, if_pos c1])
      by_cases c2 : x.f1 > 1
      · exact Ev.succ (g := fun k => _) ((h2 true).cast (hno (by unfold okO; omega))) (fun k => by rw [comfitref06_Machine.j1, if_neg c1, if_pos c2])
      by_cases c3 : x.f2 < 0
      · exact Ev.succ (g := fun k => _) ((h2 true).cast (hno (by unfold okO; omega))) (fun k => by rw [comfitref06_Machine.j1, if_neg c1, if_neg c2, if_pos c3])
      by_cases c4 : x.f2 ≥ l.length
      · exact Ev.succ (g := fun k => _) ((h2 true).cast (hno (by unfold okO; omega))) (fun k => by rw [comfitref06_Machine.j1, if_neg c1, if_neg c2, if_neg c3, if_pos c4])
      by_cases c5 : x.f3 < 0
      · exact Ev.succ (g := fun k => _) ((h2 true).cast (hno (by unfold okO; omega))) (fun k => by rw [comfitref06_Machine.j1, if_neg c1, if_neg c2, if_neg c3, if_neg c4, if_pos c5])
      refine Ev.succ (g := fun k => _) ((h2 (decide (x.f3 ≥ l.length))).cast ?_) (fun k => by rw [comfitref06_Machine.j1, if_neg c1, if_neg c2, if_neg c3, if_neg c4, if_neg c5])
      by_cases c6 : x.f3 ≥ l.length
      · have : ¬ okO l.length x := by unfold okO; omega
        simp [this, c6]
      · have : okO l.length x := ⟨by omega, by omega, by omega, by omega, by omega, hx⟩
        simp [this, c6]
    have hall : ((l[i] :: l.drop (i + 1)).all (fun x => decide (okO l.length (cv x))) && (decide (1 ≤ l.length) && decide (l.length ≤ 8))) = (decide (okO l.length (cv l[i])) && ((l.drop (i + 1)).all (fun x => decide (okO l.length (cv x))) && (decide (1 ≤ l.length) && decide (l.length ≤ 8)))) := by
      rw [List.all_cons, Bool.and_assoc]
    rw [List.drop_eq_getElem_cons hil, hall]
    have g0 : (0 : Int) ≤ (i : Int) := by omega
    have gi : (i : Int) < (l.length : Int) := by omega
    have go : ∀ k, comfitref06_Machine.l0 (k + 1) l l (l.length : Int) (i : Int) = if (l[i]).f0 = 0 then (if (!((l[i]).f1 == 0) || (!((l[i]).f2 == 0) || (!((l[i]).f3 == 0)))) = true then (some false) else (comfitref06_Machine.j1 k l l (l.length : Int) (i : Int) (l[i]).f0 (l[i]).f1 (l[i]).f2 (l[i]).f3)) else (if (l[i]).f0 = 1 then (if (l[i]).f3 = 0 then (comfitref06_Machine.j1 k l l (l.length : Int) (i : Int) (l[i]).f0 (l[i]).f1 (l[i]).f2 (l[i]).f3) else (some false)) else (if (l[i]).f0 = 2 then (comfitref06_Machine.j1 k l l (l.length : Int) (i : Int) (l[i]).f0 (l[i]).f1 (l[i]).f2 (l[i]).f3) else (some false))) := by
      intro k
      rw [comfitref06_Machine.l0, if_pos gi, if_pos g0, if_pos gi, hx]
    by_cases hs : (l[i]).f0 = 0 ∧ (l[i]).f1 = 0 ∧ (l[i]).f2 = 0 ∧ (l[i]).f3 = 0 ∨ (l[i]).f0 = 1 ∧ (l[i]).f3 = 0 ∨ (l[i]).f0 = 2
    · refine Ev.succ (g := fun k => _) (h1 (cv l[i]) hs) (fun k => ?_)
      rw [go]
      rcases hs with ⟨a, b, c, d'⟩ | ⟨a, b⟩ | a
      · rw [if_pos a, if_neg (by simp [b, c, d'])]; rfl
      · rw [if_neg (by omega), if_pos a, if_pos b]; rfl
      · rw [if_neg (by omega), if_neg (by omega), if_pos a]; rfl
    · have hn : ¬ okO l.length (cv l[i]) := fun h => hs h.2.2.2.2.2
      refine Ev.succ (g := fun _ => some false) ((Ev.const rfl).cast (by simp [hn])) (fun k => ?_)
      rw [go]
      by_cases a : (l[i]).f0 = 0
      · rw [if_pos a, if_pos (by
          have : ¬ ((l[i]).f1 = 0 ∧ (l[i]).f2 = 0 ∧ (l[i]).f3 = 0) := fun h => hs (.inl ⟨a, h⟩)
          simp; omega)]
      · rw [if_neg a]
        by_cases b : (l[i]).f0 = 1
        · rw [if_pos b, if_neg (by intro h; exact hs (.inr (.inl ⟨b, h⟩)))]
        · rw [if_neg b, if_neg (by intro h; exact hs (.inr (.inr h)))]
theorem ref_Machine (l : List S44) (hl : l.length ≤ 9223372036854775807) : Ev (fun k => comfitref06_Machine.f k l) (isM (l.map cv)) := by
  refine (ref_Machine_go l hl l.length 0 (by omega)).cast ?_
  rw [List.drop_zero]
  unfold isM
  rw [List.length_map]
  have : (!(List.map cv l).any (badO (l.length : Int))) = l.all (fun x => decide (okO l.length (cv x))) := by
    rw [Bool.eq_iff_iff]
    simp [List.any_eq_false, bad_ok]
  rw [this]
  cases l.all (fun x => decide (okO l.length (cv x))) <;> cases decide (1 ≤ l.length) <;> cases decide (l.length ≤ 8) <;> rfl

/-! ### Of -/
def jarsOk (a b : Int) : Bool := decide (0 ≤ a ∧ a ≤ 100 ∧ 0 ≤ b ∧ b ≤ 100)
theorem isJars_is (a b : Int) : tags_isJars.f a b = some (jarsOk a b) := by
  unfold tags_isJars.f jarsOk mn mx
  congr 1
  rw [Bool.eq_iff_iff]
  simp only [Bool.and_eq_true, decide_eq_true_eq]
  split <;> split <;> omega
def od (l : List S45) (p : S87) : S45 := rd_T45 l p.f0
def stop (l : List S45) (p : S87) : Bool := (od l p).f0 == 0
/-- The place behind a step. -/
def nx (l : List S45) (p : S87) : S87 :=
  if (od l p).f0 = 1 then (if (od l p).f1 = 0 then ⟨(od l p).f2, ⟨p.f1.f0 + 1, p.f1.f1⟩⟩ else ⟨(od l p).f2, ⟨p.f1.f0, p.f1.f1 + 1⟩⟩)
  else if (od l p).f1 = 0 then (if p.f1.f0 = 0 then ⟨(od l p).f3, p.f1⟩ else ⟨(od l p).f2, ⟨p.f1.f0 - 1, p.f1.f1⟩⟩)
  else (if p.f1.f1 = 0 then ⟨(od l p).f3, p.f1⟩ else ⟨(od l p).f2, ⟨p.f1.f0, p.f1.f1 - 1⟩⟩)
/-- The jar that is found empty. -/
def fd (l : List S45) (p : S87) : Int := if (od l p).f0 = 2 then (if (od l p).f1 = 0 then (if p.f1.f0 = 0 then 0 else -1) else (if p.f1.f1 = 0 then 1 else -1)) else -1
def em (l : List S45) (p : S87) : Int := if fd l p = 0 then 1 else if fd l p = 1 then 2 else 0
def tr (l : List S45) : Nat → S87 → List S87
  | 0, p => [p]
  | n + 1, p => if stop l p = true then [p] else p :: tr l n (nx l p)
/-- A place that may be: with numbers that are not great. -/
structure At (l : List S45) (B : Int) (p : S87) : Prop where
  o0 : 0 ≤ p.f0
  o1 : p.f0 < l.length
  a0 : 0 ≤ p.f1.f0
  a1 : p.f1.f0 ≤ B
  b0 : 0 ≤ p.f1.f1
  b1 : p.f1.f1 ≤ B
theorem At.ok {l : List S45} {B : Int} {p : S87} (h : At l B p) (hg : Good l) : okO l.length (od l p) := hg.at h.o0 h.o1
theorem At.next {l : List S45} {B : Int} {p : S87} (h : At l B p) (hg : Good l) : At l (B + 1) (nx l p) := by
  obtain ⟨k1, k2, k3, k4, k5, k6⟩ := h.ok hg
  obtain ⟨h1, h2, h3, h4, h5, h6⟩ := h
  unfold nx
  split
  · split <;> exact ⟨by assumption, by assumption, by dsimp only; omega, by dsimp only; omega, by dsimp only; omega, by dsimp only; omega⟩
  · split <;> split <;> exact ⟨by assumption, by assumption, by dsimp only; omega, by dsimp only; omega, by dsimp only; omega, by dsimp only; omega⟩
theorem tr_ne (l : List S45) (n : Nat) (p : S87) : tr l n p ≠ [] := by
  cases n with
  | zero => simp [tr]
  | succ n => unfold tr; split <;> simp
theorem tr_len (l : List S45) : ∀ (n : Nat) (p : S87), 1 ≤ (tr l n p).length ∧ (tr l n p).length ≤ n + 1 := by
  intro n
  induction n with
  | zero => intro p; simp [tr]
  | succ n ih =>
    intro p
    unfold tr
    split
    · simp
    · have := ih (nx l p); simp; omega
theorem step_go {l : List S45} {B : Int} {p : S87} (h : At l B p) (hg : Good l) (hB : B ≤ 4611686018427387904) (hs : stop l p = false) :
    tags_step.f l p.f0 p.f1.f0 p.f1.f1 = some ((nx l p).f0, (nx l p).f1.f0, (nx l p).f1.f1, em l p, true) := by
  obtain ⟨k1, k2, k3, k4, k5, k6⟩ := h.ok hg
  obtain ⟨h1, h2, h3, h4, h5, h6⟩ := h
  have hs' : ¬ (od l p).f0 = 0 := by unfold stop at hs; simpa using hs
  unfold tags_step.f
  rw [if_pos h1, if_pos h2]
  unfold em fd nx
  change (if (od l p).f0 = 0 then _ else _) = _
  rw [if_neg hs']
  change (if (od l p).f0 = 1 then (if (od l p).f1 = 0 then _ else if (od l p).f1 = 1 then _ else none) else (if (od l p).f1 = 0 then (if p.f1.f0 = 0 then _ else _) else if (od l p).f1 = 1 then (if p.f1.f1 = 0 then _ else _) else none)) = _
  by_cases c1 : (od l p).f0 = 1
  · rw [if_pos c1, if_pos c1, if_neg (show ¬ (od l p).f0 = 2 by omega)]
    rcases k1 with c2 | c2
    · rw [if_pos c2, if_pos c2, w_in (by omega) (by omega)]; rfl
    · rw [if_neg (show ¬ (od l p).f1 = 0 by omega), if_neg (show ¬ (od l p).f1 = 0 by omega), if_pos c2, w_in (by omega) (by omega)]; rfl
  · have c3 : (od l p).f0 = 2 := by omega
    rw [if_neg c1, if_neg c1, if_pos c3]
    rcases k1 with c2 | c2
    · rw [if_pos c2, if_pos c2, if_pos c2]
      by_cases c4 : p.f1.f0 = 0
      · rw [if_pos c4, if_pos c4, if_pos c4, show wrap64 1 = 1 from w_in (by omega) (by omega)]; rfl
      · rw [if_neg c4, if_neg c4, if_neg c4, w_in (by omega) (by omega)]; rfl
    · rw [if_neg (show ¬ (od l p).f1 = 0 by omega), if_neg (show ¬ (od l p).f1 = 0 by omega), if_neg (show ¬ (od l p).f1 = 0 by omega), if_pos c2]
      by_cases c4 : p.f1.f1 = 0
      · rw [if_pos c4, if_pos c4, if_pos c4, show wrap64 2 = 2 from w_in (by omega) (by omega)]; rfl
      · rw [if_neg c4, if_neg c4, if_neg c4, w_in (by omega) (by omega)]; rfl
theorem step_end {l : List S45} {B : Int} {p : S87} (h : At l B p) (hs : stop l p = true) :
    tags_step.f l p.f0 p.f1.f0 p.f1.f1 = some (p.f0, p.f1.f0, p.f1.f1, 0, false) := by
  have hs' : (od l p).f0 = 0 := by unfold stop at hs; simpa using hs
  unfold tags_step.f
  rw [if_pos h.o0, if_pos h.o1]
  exact if_pos hs'
theorem last_rd (pre : List S87) (p : S87) (h : pre.length ≤ 100000) : wrap64 (((pre ++ [p]).length : Int) - 1) = (pre.length : Int) ∧ rd_T87 (pre ++ [p]) (pre.length : Int) = p := by
  refine ⟨?_, ?_⟩
  · rw [List.length_append, List.length_singleton]; unfold wrap64; omega
  · unfold rd_T87
    simp
theorem runs_go {l : List S45} (hg : Good l) (steps : Int) : ∀ (n : Nat) (pre : List S87) (p : S87) (es : List Int) (B : Int), At l B p → B + n ≤ 100000 → pre.length = es.length → (es.length : Int) + n = steps → steps ≤ 1000 →
    Ev (fun k => tags_runs.l0 k l steps (pre ++ [p]) es) (pre ++ tr l n p, es ++ (tr l n p).dropLast.map (em l)) := by
  intro n
  induction n with
  | zero =>
    intro pre p es B hA hB hl hs hs2
    refine Ev.succ (g := fun _ => some (pre ++ [p], es)) ((Ev.const rfl).cast (by simp [tr])) (fun k => ?_)
    rw [tags_runs.l0, if_neg (by omega)]
  | succ n ih =>
    intro pre p es B hA hB hl hs hs2
    obtain ⟨e1, e2⟩ := last_rd pre p (by omega)
    have hd : ∀ k, tags_runs.l0 (k + 1) l steps (pre ++ [p]) es = ((tags_step.f l p.f0 p.f1.f0 p.f1.f1).bind fun bt150 => (if bt150.2.2.2.2 = true then ((some (([(⟨bt150.1, (⟨bt150.2.1, bt150.2.2.1⟩ : S40)⟩ : S87)] : List (S87)) : List (S87))).bind fun y156 => (if (pre ++ [p]).length + y156.length < 5864062014805 then ((some (([bt150.2.2.2.1] : List Int) : List Int)).bind fun y162 => (if es.length + y162.length < 17592186044416 then (tags_runs.l0 k l steps ((pre ++ [p]) ++ y156) (es ++ y162)) else (none))) else (none))) else (some ((pre ++ [p]), es)))) := by
      intro k
      rw [tags_runs.l0, if_pos (by omega), e1, if_pos (by omega), if_pos (by simp; omega), e2]
    by_cases hst : stop l p = true
    · refine Ev.succ (g := fun _ => some (pre ++ [p], es)) ((Ev.const rfl).cast (by simp [tr, hst])) (fun k => ?_)
      rw [hd, step_end hA hst, Option.bind_some, if_neg Bool.false_ne_true]
    · replace hst := Bool.eq_false_iff.mpr hst
      refine Ev.succ (g := fun k => tags_runs.l0 k l steps ((pre ++ [p]) ++ [nx l p]) (es ++ [em l p])) ((ih (pre ++ [p]) (nx l p) (es ++ [em l p]) (B + 1) (hA.next hg) (by omega) (by simp; omega) (by simp; omega) hs2).cast ?_) (fun k => ?_)
      · rw [tr, if_neg (by rw [hst]; decide), List.dropLast_cons_of_ne_nil (tr_ne _ _ _)]
        simp
      · rw [hd, step_go hA hg (by omega) hst, Option.bind_some, if_pos rfl, Option.bind_some, if_pos (by simp; omega), Option.bind_some, if_pos (by simp; omega)]
def p0 (a b : Int) : S87 := ⟨0, ⟨a, b⟩⟩
theorem At.start {l : List S45} (hg : Good l) {a b : Int} (h : jarsOk a b = true) : At l 100 (p0 a b) := by
  unfold jarsOk at h
  rw [decide_eq_true_eq] at h
  have := hg.ne
  exact ⟨by show (0 : Int) ≤ 0; omega, by show (0 : Int) < _; omega, h.1, h.2.1, h.2.2.1, h.2.2.2⟩
/-- The run of the program. -/
theorem runs_ev {l : List S45} (hg : Good l) {a b : Int} (hj : jarsOk a b = true) (n : Nat) (hn : n ≤ 1000) :
    Ev (fun k => tags_runs.f k l a b (n : Int)) (tr l n (p0 a b), (tr l n (p0 a b)).dropLast.map (em l)) := by
  have := runs_go hg (n : Int) n [] (p0 a b) [] 100 (At.start hg hj) (by omega) rfl (by simp) (by omega)
  rw [List.nil_append, List.nil_append, List.nil_append] at this
  exact this

/-! ### The reference's run -/
def lastP (l : List S87) : S87 := l.getLastD z87
theorem tr_last_cons (l : List S45) (n : Nat) (p q : S87) : lastP (q :: tr l n p) = lastP (tr l n p) := by
  unfold lastP
  rw [List.getLastD_eq_getLast?, List.getLastD_eq_getLast?, List.getLast?_cons_of_ne_nil (tr_ne _ _ _)]
theorem lastP_eq {T : List S87} (h : 1 ≤ T.length) (hl : T.length ≤ 100000) : wrap64 ((T.length : Int) - 1) = ((T.length - 1 : Nat) : Int) ∧ rd_T87 T ((T.length - 1 : Nat) : Int) = lastP T := by
  refine ⟨by unfold wrap64; omega, ?_⟩
  unfold rd_T87 lastP
  rw [List.getLastD_eq_getLast?, List.getLast?_eq_getElem?]
  simp
theorem tr_at {l : List S45} (hg : Good l) : ∀ (n : Nat) (p : S87) (B : Int), At l B p → ∀ q ∈ tr l n p, At l (B + n) q := by
  intro n
  induction n with
  | zero =>
    intro p B h q hq
    simp [tr] at hq
    subst hq
    simpa using h
  | succ n ih =>
    intro p B h q hq
    have hup : At l (B + ((n + 1 : Nat) : Int)) p := ⟨h.o0, h.o1, h.a0, by have := h.a1; omega, h.b0, by have := h.b1; omega⟩
    rw [tr] at hq
    split at hq
    · simp at hq; subst hq; exact hup
    · rcases List.mem_cons.mp hq with rfl | hq
      · exact hup
      · have := ih (nx l p) (B + 1) (h.next hg) q hq
        exact ⟨this.o0, this.o1, this.a0, by have := this.a1; omega, this.b0, by have := this.b1; omega⟩
theorem lastP_mem {T : List S87} (h : T ≠ []) : lastP T ∈ T := by
  unfold lastP
  rw [List.getLastD_eq_getLast?, List.getLast?_eq_some_getLast h]
  exact List.getLast_mem h
theorem last_at {l : List S45} (hg : Good l) {a b : Int} (hj : jarsOk a b = true) (n : Nat) : At l (100 + n) (lastP (tr l n (p0 a b))) :=
  tr_at hg n _ 100 (At.start hg hj) _ (lastP_mem (tr_ne _ _ _))

/-! ### Go -/
theorem Go_ok {l : List S45} (hg : Good l) {a b : Int} (hj : jarsOk a b = true) (n : Nat) (hn : n ≤ 1000) :
    Ev (fun k => tags_Go.f k l a b (n : Int)) ((lastP (tr l n (p0 a b))).f0, (lastP (tr l n (p0 a b))).f1.f0, (lastP (tr l n (p0 a b))).f1.f1, (((tr l n (p0 a b)).length - 1 : Nat) : Int), 0) := by
  have h0 : Ev (fun k => tags_Go.j0 k l (n : Int) false a b) ((lastP (tr l n (p0 a b))).f0, (lastP (tr l n (p0 a b))).f1.f0, (lastP (tr l n (p0 a b))).f1.f1, (((tr l n (p0 a b)).length - 1 : Nat) : Int), 0) := by
    have hlen := tr_len l n (p0 a b)
    obtain ⟨e1, e2⟩ := lastP_eq (T := tr l n (p0 a b)) hlen.1 (by omega)
    refine Ev.succ (g := fun k => (tags_runs.f k l a b (n : Int)).bind fun bt172 => (if 0 ≤ (wrap64 ((bt172.1.length : Int) - 1)) then (if (wrap64 ((bt172.1.length : Int) - 1)) < (bt172.1.length : Int) then (some ((rd_T87 bt172.1 (wrap64 ((bt172.1.length : Int) - 1))).f0, (rd_T87 bt172.1 (wrap64 ((bt172.1.length : Int) - 1))).f1.f0, (rd_T87 bt172.1 (wrap64 ((bt172.1.length : Int) - 1))).f1.f1, (bt172.2.length : Int), 0)) else (none)) else (none)))
      (Ev.bind (runs_ev hg hj n hn) (Ev.const ?_)) (fun k => by rw [tags_Go.j0, if_neg (by decide)])
    dsimp only
    rw [e1, if_pos (by omega), if_pos (by omega), e2]
    simp
  unfold tags_Go.f tags_isMachine.f
  simp only [Option.bind_some, isJars_is]
  refine Ev.ifPos ((isM_good l).mpr hg) (Ev.ifPos hj (Ev.ifNeg (by omega) ?_))
  rw [show decide ((n : Int) > 1000) = false from decide_eq_false (by omega)]
  exact h0
theorem ends_ev {l : List S45} (hg : Good l) {a b : Int} (hj : jarsOk a b = true) :
    Ev (fun k => tags_ends.f k l a b) (tr l 1000 (p0 a b), (tr l 1000 (p0 a b)).dropLast.map (em l), stop l (lastP (tr l 1000 (p0 a b)))) := by
  have hlen := tr_len l 1000 (p0 a b)
  obtain ⟨e1, e2⟩ := lastP_eq (T := tr l 1000 (p0 a b)) hlen.1 (by omega)
  have hA := last_at hg hj 1000
  refine Ev.bind (runs_ev hg hj 1000 (by omega)) (Ev.const ?_)
  dsimp only
  rw [e1, if_pos (by omega), if_pos (by omega), e2, if_pos hA.o0, if_pos hA.o1]
  rfl
theorem Ends_bad (l : List S45) (a b : Int) (h : ¬ (isM l = true ∧ jarsOk a b = true)) : Ev (fun k => tags_Ends.f k l a b) (0, 2) := by
  have hj : Ev (fun k => tags_Ends.j0 k l true a b) (0, 2) := Ev.succ (g := fun _ => some (0, 2)) (Ev.const rfl) (fun k => by rw [tags_Ends.j0, if_pos rfl])
  unfold tags_Ends.f tags_isMachine.f
  simp only [Option.bind_some, isJars_is]
  by_cases h1 : isM l = true
  · refine Ev.ifPos h1 ?_
    rw [show jarsOk a b = false by cases hq : jarsOk a b with
      | false => rfl
      | true => exact absurd ⟨h1, hq⟩ h]
    exact hj
  · exact Ev.ifNeg h1 hj
/-- What Ends tells of a run. -/
def endsOf (l : List S45) (a b : Int) : Int × Int := if stop l (lastP (tr l 1000 (p0 a b))) = true then ((((tr l 1000 (p0 a b)).length - 1 : Nat) : Int), 0) else (0, 4)
theorem Ends_ok {l : List S45} (hg : Good l) {a b : Int} (hj : jarsOk a b = true) : Ev (fun k => tags_Ends.f k l a b) (endsOf l a b) := by
  have h0 : Ev (fun k => tags_Ends.j0 k l false a b) (endsOf l a b) := by
    refine Ev.succ (g := fun k => (tags_ends.f k l a b).bind fun bt195 => (if bt195.2.2 = true then (some ((bt195.2.1.length : Int), 0)) else (some (0, 4)))) (Ev.bind (ends_ev hg hj) (Ev.const ?_)) (fun k => by rw [tags_Ends.j0, if_neg (by decide)])
    dsimp only
    unfold endsOf
    split <;> simp
  unfold tags_Ends.f tags_isMachine.f
  simp only [Option.bind_some, isJars_is]
  refine Ev.ifPos ((isM_good l).mpr hg) ?_
  rw [hj]
  exact h0
def subB (B C : List Bool) : Prop := ∀ j, hasB B j = true → hasB C j = true
theorem subB.refl (B : List Bool) : subB B B := fun _ h => h
theorem subB.trans {A B C : List Bool} (h : subB A B) (h' : subB B C) : subB A C := fun j hj => h' j (h j hj)
theorem set_in {B C : List Bool} {i : Nat} (h : subB B C) (hi : hasB C i = true) : subB (B.set i true) C := by
  intro j hj
  by_cases c : i < B.length
  · rw [hasB_set B i j c] at hj
    rcases Bool.or_eq_true _ _ ▸ hj with e | e
    · rw [← of_decide_eq_true e]; exact hi
    · exact h j e
  · rw [List.set_eq_of_length_le (by omega)] at hj; exact h j hj
def inR (l : List S45) (n : Nat) : Prop := ∀ j, j < n → 0 ≤ (l.getD j z45).f2 ∧ (l.getD j z45).f2 < n ∧ 0 ≤ (l.getD j z45).f3 ∧ (l.getD j z45).f3 < n ∧ ((l.getD j z45).f0 = 0 ∨ (l.getD j z45).f0 > 0)
theorem dfs_least {l : List S45} {C : List Bool} (hC : ∀ j, hasB C j = true → closedAt l C j) : ∀ (d : Nat) (B : List Bool) (i : Nat), subB B C → hasB C i = true → subB (dfs l d B i) C := by
  intro d
  induction d with
  | zero => intro B i h _; exact h
  | succ d ih =>
    intro B i h hi
    have hc := hC i hi
    have hs := set_in h hi
    unfold dfs
    split
    · exact h
    · dsimp only
      have h2 : subB (if (l.getD i z45).f0 = 0 then B.set i true else dfs l d (B.set i true) (l.getD i z45).f2.toNat) C := by
        split
        · exact hs
        · rename_i h0
          exact ih _ _ hs (hc.1 h0)
      split
      · rename_i e
        exact ih _ _ h2 (hc.2 e)
      · exact h2
theorem good_inR {l : List S45} (hg : Good l) : inR l l.length := by
  intro j hj
  have h := hg.at (i := (j : Int)) (by omega) (by omega)
  have e : rd_T45 l (j : Int) = l.getD j z45 := rfl
  rw [e] at h
  obtain ⟨_, a, b, c, d, f⟩ := h
  exact ⟨a, b, c, d, by omega⟩
theorem good_cl {l : List S45} (hg : Good l) : ∀ j, hasB (marks l) j = true → closedAt l (marks l) j := by
  have hin := good_inR hg
  exact marks_closed (l := l) (fun j hj => ⟨(hin j hj).1, (hin j hj).2.1, (hin j hj).2.2.1, (hin j hj).2.2.2.1⟩) (by have := hg.ne; omega)
theorem good_at {l : List S45} (hg : Good l) {j : Nat} (hj : j < l.length) : okO l.length (l.getD j z45) := hg.at (i := (j : Int)) (by omega) (by omega)
end Go.Proofs.Ytmlbdkkdejecmaa.Pure
