/- Plain laws of machines: what a machine is, its run as a list of places, the program's and the reference's runs. -/
import Derived.Test.YtjmbjnobbeflfaaQMBase
import Derived.Test.YtjmbjnobbeflfaaQXM
import Derived.Test.YtjmbjnobbeflfaaQXO
import Derived.Test.YtjmbjnobbeflfaaQXG
import Derived.Test.YtjmbjnobbeflfaaQX0
set_option linter.unusedVariables false
set_option linter.unusedSimpArgs false
namespace Go.Proofs.Ytjmbjnobbeflfaa.Pure
open Go.RowKit Go.Proofs.Ytjmbjnobbeflfaa.X Go.Proofs.YtjmbjnobbeflfaaW.PrintWords Go.Proofs.YtjmbjnobbeflfaaW.PrintLast Go.Proofs.YtjmbjnobbeflfaaW.PrintMore

/-! ### Orders -/
def cv (x : S39) : S57 := ⟨x.f0, x.f1, x.f2, x.f3⟩
theorem rd_cv (l : List S39) (i : Int) : rd_T57 (l.map cv) i = cv (rd_T39 l i) := by
  unfold rd_T57 rd_T39
  by_cases h : i.toNat < l.length
  · simp [h]
  · simp [h]; rfl
/-- What an order may be, amid n of them. -/
def okO (n : Int) (x : S57) : Prop := (x.f1 = 0 ∨ x.f1 = 1) ∧ 0 ≤ x.f2 ∧ x.f2 < n ∧ 0 ≤ x.f3 ∧ x.f3 < n ∧ (x.f0 = 0 ∧ x.f1 = 0 ∧ x.f2 = 0 ∧ x.f3 = 0 ∨ x.f0 = 1 ∧ x.f3 = 0 ∨ x.f0 = 2)
instance (n : Int) (x : S57) : Decidable (okO n x) := by unfold okO; exact inferInstance
theorem bad_ok (n : Int) (x : S57) : badO n x = !decide (okO n x) := by
  have h : badO n x = false ↔ okO n x := by
    unfold badO okO mn mx
    constructor
    · intro h
      by_cases h1 : x.f1 < 0
      · rw [if_pos h1] at h; simp at h
      rw [if_neg h1] at h
      by_cases h2 : 1 < x.f1
      · rw [if_pos h2] at h; simp at h
      rw [if_neg h2] at h
      by_cases h3 : (if x.f3 < x.f2 then x.f3 else x.f2) < 0
      · rw [if_pos h3] at h; simp at h
      rw [if_neg h3] at h
      by_cases h4 : n ≤ (if x.f2 < x.f3 then x.f3 else x.f2)
      · rw [if_pos h4] at h; simp at h
      rw [if_neg h4] at h
      have g : 0 ≤ x.f2 ∧ 0 ≤ x.f3 ∧ x.f2 < n ∧ x.f3 < n := by
        split at h3 <;> split at h4 <;> omega
      refine ⟨by omega, by omega, by omega, by omega, by omega, ?_⟩
      by_cases h5 : x.f0 = 0
      · rw [if_pos h5] at h; simp at h; omega
      rw [if_neg h5] at h
      by_cases h6 : x.f0 = 1
      · rw [if_pos h6] at h; simp at h; omega
      rw [if_neg h6] at h
      simp at h; omega
    · rintro ⟨h1, h2, h3, h4, h5, h6⟩
      rw [if_neg (by omega), if_neg (by omega), if_neg (by split <;> omega), if_neg (by split <;> omega)]
      rcases h6 with ⟨a, b, c, d⟩ | ⟨a, b⟩ | a
      · rw [if_pos a]; simp [b, c, d]
      · rw [if_neg (by omega), if_pos a]; simp [b]
      · rw [if_neg (by omega), if_neg (by omega)]; simp [a]
  cases hb : badO n x with
  | false => have := h.mp hb; simp [this]
  | true =>
    have : ¬ okO n x := fun hk => by rw [h.mpr hk] at hb; simp at hb
    simp [this]
/-- A machine. -/
structure Good (l : List S57) : Prop where
  ne : 1 ≤ l.length
  le : l.length ≤ 8
  ok : ∀ x ∈ l, okO l.length x
theorem isM_good (l : List S57) : isM l = true ↔ Good l := by
  unfold isM
  simp only [Bool.and_eq_true, decide_eq_true_eq, Bool.not_eq_true', List.any_eq_false]
  constructor
  · rintro ⟨a, b, c⟩
    refine ⟨a, b, fun x hx => ?_⟩
    have := c x hx
    rw [bad_ok] at this
    simpa using this
  · rintro ⟨a, b, c⟩
    refine ⟨a, b, fun x hx => ?_⟩
    rw [bad_ok]
    simpa using c x hx
theorem Good.at {l : List S57} (h : Good l) {i : Int} (h0 : 0 ≤ i) (h1 : i < l.length) : okO l.length (rd_T57 l i) := by
  unfold rd_T57
  have hl : i.toNat < l.length := by omega
  rw [List.getD_eq_getElem?_getD, List.getElem?_eq_getElem hl, Option.getD_some]
  exact h.ok _ (List.getElem_mem hl)
theorem isM_long (l : List S57) (h : 8 < l.length) : isM l = false := by
  cases hb : isM l with
  | false => rfl
  | true => have := ((isM_good l).mp hb).le; omega

/-! ### The reference's Machine -/
theorem ref_Machine_go (l : List S39) (hl : l.length ≤ 9223372036854775807) : ∀ (d i : Nat), i + d = l.length →
    Ev (fun k => comfitref06_Machine.l0 k l l (l.length : Int) (i : Int)) ((l.drop i).all (fun x => decide (okO l.length (cv x))) && (decide (1 ≤ l.length) && decide (l.length ≤ 8))) := by
  intro d
  induction d with
  | zero =>
    intro i hi
    have hi' : l.length ≤ i := by omega
    rw [List.drop_eq_nil_of_le hi']
    refine Ev.succ (g := fun _ => some (decide (1 ≤ l.length) && decide (l.length ≤ 8))) ((Ev.const rfl).cast (by simp)) (fun k => ?_)
    rw [comfitref06_Machine.l0, if_neg (by omega)]
    by_cases h1 : 1 ≤ l.length
    · rw [if_pos (by omega)]
      congr 1
      rw [show decide (1 ≤ l.length) = true from decide_eq_true h1, Bool.true_and, Bool.eq_iff_iff]
      simp only [decide_eq_true_eq]
      omega
    · rw [if_neg (by omega)]
      simp [h1]
  | succ d ih =>
    intro i hi
    have hil : i < l.length := by omega
    have hx : rd_T39 l (i : Int) = l[i] := by unfold rd_T39; simp [hil]
    have hstep : wrap64 ((i : Int) + 1) = ((i + 1 : Nat) : Int) := by unfold wrap64; omega
    have h2 : ∀ b : Bool, Ev (fun k => comfitref06_Machine.j2 k l l (l.length : Int) (i : Int) b) (if b then false else (l.drop (i + 1)).all (fun x => decide (okO l.length (cv x))) && (decide (1 ≤ l.length) && decide (l.length ≤ 8))) := by
      intro b
      cases b with
      | true => exact Ev.succ (g := fun _ => some false) (Ev.const rfl) (fun k => by rw [comfitref06_Machine.j2, if_pos rfl])
      | false => exact Ev.succ (g := fun k => comfitref06_Machine.l0 k l l (l.length : Int) ((i + 1 : Nat) : Int)) (ih (i + 1) (by omega)) (fun k => by rw [comfitref06_Machine.j2, if_neg (by decide), hstep])
    have h1 : ∀ x : S57, (x.f0 = 0 ∧ x.f1 = 0 ∧ x.f2 = 0 ∧ x.f3 = 0 ∨ x.f0 = 1 ∧ x.f3 = 0 ∨ x.f0 = 2) → Ev (fun k => comfitref06_Machine.j1 k l l (l.length : Int) (i : Int) x.f0 x.f1 x.f2 x.f3) (decide (okO l.length x) && ((l.drop (i + 1)).all (fun x => decide (okO l.length (cv x))) && (decide (1 ≤ l.length) && decide (l.length ≤ 8)))) := by
      intro x hx
      have hno : ¬ okO l.length x → (if true = true then false else (l.drop (i + 1)).all (fun x => decide (okO l.length (cv x))) && (decide (1 ≤ l.length) && decide (l.length ≤ 8))) = (decide (okO l.length x) && ((l.drop (i + 1)).all (fun x => decide (okO l.length (cv x))) && (decide (1 ≤ l.length) && decide (l.length ≤ 8)))) := fun h => by simp [h]
      by_cases c1 : x.f1 < 0
      · exact Ev.succ (g := fun k => _) ((h2 true).cast (hno (by unfold okO; omega))) (fun k => by rw [comfitref06_Machine.j1, if_pos c1])
      by_cases c2 : x.f1 > 1
      · exact Ev.succ (g := fun k => _) ((h2 true).cast (hno (by unfold okO; omega))) (fun k => by rw [comfitref06_Machine.j1, if_neg c1, if_pos c2])
      by_cases c3 : x.f2 < 0
      · exact Ev.succ (g := fun k => _) ((h2 true).cast (hno (by unfold okO; omega))) (fun k => by rw [comfitref06_Machine.j1, if_neg c1, if_neg c2, if_pos c3])
      by_cases c4 : x.f2 ≥ l.length
      · exact Ev.succ (g := fun k => _) ((h2 true).cast (hno (by unfold okO; omega))) (fun k => by rw [comfitref06_Machine.j1, if_neg c1, if_neg c2, if_neg c3, if_pos c4])
      by_cases c5 : x.f3 < 0
      · exact Ev.succ (g := fun k => _) ((h2 true).cast (hno (by unfold okO; omega))) (fun k => by rw [comfitref06_Machine.j1, if_neg c1, if_neg c2, if_neg c3, if_neg c4, if_pos c5])
      refine Ev.succ (g := fun k => _) ((h2 (decide (x.f3 ≥ l.length))).cast ?_) (fun k => by rw [comfitref06_Machine.j1, if_neg c1, if_neg c2, if_neg c3, if_neg c4, if_neg c5])
      by_cases c6 : x.f3 ≥ l.length
      · have : ¬ okO l.length x := by unfold okO; omega
        simp [this, c6]
      · have : okO l.length x := ⟨by omega, by omega, by omega, by omega, by omega, hx⟩
        simp [this, c6]
    have hall : ((l[i] :: l.drop (i + 1)).all (fun x => decide (okO l.length (cv x))) && (decide (1 ≤ l.length) && decide (l.length ≤ 8))) = (decide (okO l.length (cv l[i])) && ((l.drop (i + 1)).all (fun x => decide (okO l.length (cv x))) && (decide (1 ≤ l.length) && decide (l.length ≤ 8)))) := by
      rw [List.all_cons, Bool.and_assoc]
    rw [List.drop_eq_getElem_cons hil, hall]
    have g0 : (0 : Int) ≤ (i : Int) := by omega
    have gi : (i : Int) < (l.length : Int) := by omega
    have go : ∀ k, comfitref06_Machine.l0 (k + 1) l l (l.length : Int) (i : Int) = if (l[i]).f0 = 0 then (if (!((l[i]).f1 == 0) || (!((l[i]).f2 == 0) || (!((l[i]).f3 == 0)))) = true then (some false) else (comfitref06_Machine.j1 k l l (l.length : Int) (i : Int) (l[i]).f0 (l[i]).f1 (l[i]).f2 (l[i]).f3)) else (if (l[i]).f0 = 1 then (if (l[i]).f3 = 0 then (comfitref06_Machine.j1 k l l (l.length : Int) (i : Int) (l[i]).f0 (l[i]).f1 (l[i]).f2 (l[i]).f3) else (some false)) else (if (l[i]).f0 = 2 then (comfitref06_Machine.j1 k l l (l.length : Int) (i : Int) (l[i]).f0 (l[i]).f1 (l[i]).f2 (l[i]).f3) else (some false))) := by
      intro k
      rw [comfitref06_Machine.l0, if_pos gi, if_pos g0, if_pos gi, hx]
    by_cases hs : (l[i]).f0 = 0 ∧ (l[i]).f1 = 0 ∧ (l[i]).f2 = 0 ∧ (l[i]).f3 = 0 ∨ (l[i]).f0 = 1 ∧ (l[i]).f3 = 0 ∨ (l[i]).f0 = 2
    · refine Ev.succ (g := fun k => _) (h1 (cv l[i]) hs) (fun k => ?_)
      rw [go]
      rcases hs with ⟨a, b, c, d'⟩ | ⟨a, b⟩ | a
      · rw [if_pos a, if_neg (by simp [b, c, d'])]; rfl
      · rw [if_neg (by omega), if_pos a, if_pos b]; rfl
      · rw [if_neg (by omega), if_neg (by omega), if_pos a]; rfl
    · have hn : ¬ okO l.length (cv l[i]) := fun h => hs h.2.2.2.2.2
      refine Ev.succ (g := fun _ => some false) ((Ev.const rfl).cast (by simp [hn])) (fun k => ?_)
      rw [go]
      by_cases a : (l[i]).f0 = 0
      · rw [if_pos a, if_pos (by
          have : ¬ ((l[i]).f1 = 0 ∧ (l[i]).f2 = 0 ∧ (l[i]).f3 = 0) := fun h => hs (.inl ⟨a, h⟩)
          simp; omega)]
      · rw [if_neg a]
        by_cases b : (l[i]).f0 = 1
        · rw [if_pos b, if_neg (by intro h; exact hs (.inr (.inl ⟨b, h⟩)))]
        · rw [if_neg b, if_neg (by intro h; exact hs (.inr (.inr h)))]
theorem ref_Machine (l : List S39) (hl : l.length ≤ 9223372036854775807) : Ev (fun k => comfitref06_Machine.f k l) (isM (l.map cv)) := by
  refine (ref_Machine_go l hl l.length 0 (by omega)).cast ?_
  rw [List.drop_zero]
  unfold isM
  rw [List.length_map]
  have : (!(List.map cv l).any (badO (l.length : Int))) = l.all (fun x => decide (okO l.length (cv x))) := by
    rw [Bool.eq_iff_iff]
    simp [List.any_eq_false, bad_ok]
  rw [this]
  cases l.all (fun x => decide (okO l.length (cv x))) <;> cases decide (1 ≤ l.length) <;> cases decide (l.length ≤ 8) <;> rfl

/-! ### Of -/
theorem Of_go (l : List S39) (hl : l.length ≤ 9223372036854775807) : ∀ (d i : Nat) (out : List S57), i + d = l.length → out.length ≤ i → Ev (fun k => comfitlaw06_Of.l0 k out l (l.length : Int) (i : Int)) (out ++ ((l.drop i).take (11 - i)).map cv) := by
  intro d
  induction d with
  | zero =>
    intro i out hi ho
    rw [List.drop_eq_nil_of_le (by omega)]
    exact Ev.succ (g := fun _ => some out) ((Ev.const rfl).cast (by simp)) (fun k => by rw [comfitlaw06_Of.l0, if_neg (by omega)])
  | succ d ih =>
    intro i out hi ho
    have hil : i < l.length := by omega
    have hx : rd_T39 l (i : Int) = l[i] := by unfold rd_T39; simp [hil]
    have hstep : wrap64 ((i : Int) + 1) = ((i + 1 : Nat) : Int) := by unfold wrap64; omega
    by_cases h11 : i < 11
    · refine Ev.succ (g := fun k => comfitlaw06_Of.l0 k (out ++ [cv l[i]]) l (l.length : Int) ((i + 1 : Nat) : Int)) ((ih (i + 1) (out ++ [cv l[i]]) (by omega) (by simp; omega)).cast ?_) (fun k => ?_)
      · rw [List.drop_eq_getElem_cons hil, show 11 - i = (11 - (i + 1)) + 1 by omega, List.take_succ_cons, List.map_cons, List.append_assoc]; rfl
      · rw [comfitlaw06_Of.l0, if_pos (by omega), if_pos (by omega), if_pos (by omega), if_pos (by omega), if_pos (by omega), hstep, hx]; rfl
    · refine Ev.succ (g := fun k => comfitlaw06_Of.l0 k out l (l.length : Int) ((i + 1 : Nat) : Int)) ((ih (i + 1) out (by omega) (by omega)).cast ?_) (fun k => ?_)
      · rw [show 11 - i = 0 by omega, show 11 - (i + 1) = 0 by omega]; simp
      · rw [comfitlaw06_Of.l0, if_pos (by omega), if_pos (by omega), if_pos (by omega), if_neg (by omega), hstep]
theorem Of_ev (l : List S39) (hl : l.length ≤ 9223372036854775807) : Ev (fun k => comfitlaw06_Of.f k l) ((l.take 11).map cv) := by
  have := Of_go l hl l.length 0 [] (by omega) (by simp)
  rw [List.drop_zero, List.nil_append] at this
  exact this
theorem isM_take (l : List S39) : isM ((l.take 11).map cv) = isM (l.map cv) := by
  by_cases h : l.length ≤ 11
  · rw [List.take_of_length_le h]
  · rw [isM_long _ (by simp; omega), isM_long _ (by simp; omega)]
theorem good_take (l : List S39) (h : isM (l.map cv) = true) : l.take 11 = l := List.take_of_length_le (by have := ((isM_good _).mp h).le; simp at this; omega)

/-! ### Jars -/
def jarsOk (a b : Int) : Bool := decide (0 ≤ a ∧ a ≤ 100 ∧ 0 ≤ b ∧ b ≤ 100)
theorem isJars_is (a b : Int) : tags_isJars.f a b = some (jarsOk a b) := by
  unfold tags_isJars.f jarsOk mn mx
  congr 1
  rw [Bool.eq_iff_iff]
  simp only [Bool.and_eq_true, decide_eq_true_eq]
  split <;> split <;> omega
/-! ### The run -/
def od (l : List S57) (p : S66) : S57 := rd_T57 l p.f0
def stop (l : List S57) (p : S66) : Bool := (od l p).f0 == 0
/-- The place behind a step. -/
def nx (l : List S57) (p : S66) : S66 :=
  if (od l p).f0 = 1 then (if (od l p).f1 = 0 then ⟨(od l p).f2, ⟨p.f1.f0 + 1, p.f1.f1⟩⟩ else ⟨(od l p).f2, ⟨p.f1.f0, p.f1.f1 + 1⟩⟩)
  else if (od l p).f1 = 0 then (if p.f1.f0 = 0 then ⟨(od l p).f3, p.f1⟩ else ⟨(od l p).f2, ⟨p.f1.f0 - 1, p.f1.f1⟩⟩)
  else (if p.f1.f1 = 0 then ⟨(od l p).f3, p.f1⟩ else ⟨(od l p).f2, ⟨p.f1.f0, p.f1.f1 - 1⟩⟩)
/-- The jar that is found empty. -/
def fd (l : List S57) (p : S66) : Int := if (od l p).f0 = 2 then (if (od l p).f1 = 0 then (if p.f1.f0 = 0 then 0 else -1) else (if p.f1.f1 = 0 then 1 else -1)) else -1
def em (l : List S57) (p : S66) : Int := if fd l p = 0 then 1 else if fd l p = 1 then 2 else 0
def tr (l : List S57) : Nat → S66 → List S66
  | 0, p => [p]
  | n + 1, p => if stop l p = true then [p] else p :: tr l n (nx l p)
/-- A place that may be: with numbers that are not great. -/
structure At (l : List S57) (B : Int) (p : S66) : Prop where
  o0 : 0 ≤ p.f0
  o1 : p.f0 < l.length
  a0 : 0 ≤ p.f1.f0
  a1 : p.f1.f0 ≤ B
  b0 : 0 ≤ p.f1.f1
  b1 : p.f1.f1 ≤ B
theorem At.ok {l : List S57} {B : Int} {p : S66} (h : At l B p) (hg : Good l) : okO l.length (od l p) := hg.at h.o0 h.o1
theorem At.next {l : List S57} {B : Int} {p : S66} (h : At l B p) (hg : Good l) : At l (B + 1) (nx l p) := by
  obtain ⟨k1, k2, k3, k4, k5, k6⟩ := h.ok hg
  obtain ⟨h1, h2, h3, h4, h5, h6⟩ := h
  unfold nx
  split
  · split <;> exact ⟨by assumption, by assumption, by dsimp only; omega, by dsimp only; omega, by dsimp only; omega, by dsimp only; omega⟩
  · split <;> split <;> exact ⟨by assumption, by assumption, by dsimp only; omega, by dsimp only; omega, by dsimp only; omega, by dsimp only; omega⟩
theorem tr_ne (l : List S57) (n : Nat) (p : S66) : tr l n p ≠ [] := by
  cases n with
  | zero => simp [tr]
  | succ n => unfold tr; split <;> simp
theorem tr_len (l : List S57) : ∀ (n : Nat) (p : S66), 1 ≤ (tr l n p).length ∧ (tr l n p).length ≤ n + 1 := by
  intro n
  induction n with
  | zero => intro p; simp [tr]
  | succ n ih =>
    intro p
    unfold tr
    split
    · simp
    · have := ih (nx l p); simp; omega
theorem step_go {l : List S57} {B : Int} {p : S66} (h : At l B p) (hg : Good l) (hB : B ≤ 4611686018427387904) (hs : stop l p = false) :
    tags_step.f l p.f0 p.f1.f0 p.f1.f1 = some ((nx l p).f0, (nx l p).f1.f0, (nx l p).f1.f1, em l p, true) := by
  obtain ⟨k1, k2, k3, k4, k5, k6⟩ := h.ok hg
  obtain ⟨h1, h2, h3, h4, h5, h6⟩ := h
  have hs' : ¬ (od l p).f0 = 0 := by unfold stop at hs; simpa using hs
  unfold tags_step.f
  rw [if_pos h1, if_pos h2]
  unfold em fd nx
  change (if (od l p).f0 = 0 then _ else _) = _
  rw [if_neg hs']
  change (if (od l p).f0 = 1 then (if (od l p).f1 = 0 then _ else if (od l p).f1 = 1 then _ else none) else (if (od l p).f1 = 0 then (if p.f1.f0 = 0 then _ else _) else if (od l p).f1 = 1 then (if p.f1.f1 = 0 then _ else _) else none)) = _
  by_cases c1 : (od l p).f0 = 1
  · rw [if_pos c1, if_pos c1, if_neg (show ¬ (od l p).f0 = 2 by omega)]
    rcases k1 with c2 | c2
    · rw [if_pos c2, if_pos c2, w_in (by omega) (by omega)]; rfl
    · rw [if_neg (show ¬ (od l p).f1 = 0 by omega), if_neg (show ¬ (od l p).f1 = 0 by omega), if_pos c2, w_in (by omega) (by omega)]; rfl
  · have c3 : (od l p).f0 = 2 := by omega
    rw [if_neg c1, if_neg c1, if_pos c3]
    rcases k1 with c2 | c2
    · rw [if_pos c2, if_pos c2, if_pos c2]
      by_cases c4 : p.f1.f0 = 0
      · rw [if_pos c4, if_pos c4, if_pos c4, show wrap64 1 = 1 from w_in (by omega) (by omega)]; rfl
      · rw [if_neg c4, if_neg c4, if_neg c4, w_in (by omega) (by omega)]; rfl
    · rw [if_neg (show ¬ (od l p).f1 = 0 by omega), if_neg (show ¬ (od l p).f1 = 0 by omega), if_neg (show ¬ (od l p).f1 = 0 by omega), if_pos c2]
      by_cases c4 : p.f1.f1 = 0
      · rw [if_pos c4, if_pos c4, if_pos c4, show wrap64 2 = 2 from w_in (by omega) (by omega)]; rfl
      · rw [if_neg c4, if_neg c4, if_neg c4, w_in (by omega) (by omega)]; rfl
theorem step_end {l : List S57} {B : Int} {p : S66} (h : At l B p) (hs : stop l p = true) :
    tags_step.f l p.f0 p.f1.f0 p.f1.f1 = some (p.f0, p.f1.f0, p.f1.f1, 0, false) := by
  have hs' : (od l p).f0 = 0 := by unfold stop at hs; simpa using hs
  unfold tags_step.f
  rw [if_pos h.o0, if_pos h.o1]
  exact if_pos hs'
theorem last_rd (pre : List S66) (p : S66) (h : pre.length ≤ 100000) : wrap64 (((pre ++ [p]).length : Int) - 1) = (pre.length : Int) ∧ rd_T66 (pre ++ [p]) (pre.length : Int) = p := by
  refine ⟨?_, ?_⟩
  · rw [List.length_append, List.length_singleton]; unfold wrap64; omega
  · unfold rd_T66
    simp
theorem runs_go {l : List S57} (hg : Good l) (steps : Int) : ∀ (n : Nat) (pre : List S66) (p : S66) (es : List Int) (B : Int), At l B p → B + n ≤ 100000 → pre.length = es.length → (es.length : Int) + n = steps → steps ≤ 1000 →
    Ev (fun k => tags_runs.l0 k l steps (pre ++ [p]) es) (pre ++ tr l n p, es ++ (tr l n p).dropLast.map (em l)) := by
  intro n
  induction n with
  | zero =>
    intro pre p es B hA hB hl hs hs2
    refine Ev.succ (g := fun _ => some (pre ++ [p], es)) ((Ev.const rfl).cast (by simp [tr])) (fun k => ?_)
    rw [tags_runs.l0, if_neg (by omega)]
  | succ n ih =>
    intro pre p es B hA hB hl hs hs2
    obtain ⟨e1, e2⟩ := last_rd pre p (by omega)
    have hd : ∀ k, tags_runs.l0 (k + 1) l steps (pre ++ [p]) es = ((tags_step.f l p.f0 p.f1.f0 p.f1.f1).bind fun bt150 => (if bt150.2.2.2.2 = true then ((some (([(⟨bt150.1, (⟨bt150.2.1, bt150.2.2.1⟩ : S23)⟩ : S66)] : List (S66)) : List (S66))).bind fun y156 => (if (pre ++ [p]).length + y156.length < 5864062014805 then ((some (([bt150.2.2.2.1] : List Int) : List Int)).bind fun y162 => (if es.length + y162.length < 17592186044416 then (tags_runs.l0 k l steps ((pre ++ [p]) ++ y156) (es ++ y162)) else (none))) else (none))) else (some ((pre ++ [p]), es)))) := by
      intro k
      rw [tags_runs.l0, if_pos (by omega), e1, if_pos (by omega), if_pos (by simp; omega), e2]
    by_cases hst : stop l p = true
    · refine Ev.succ (g := fun _ => some (pre ++ [p], es)) ((Ev.const rfl).cast (by simp [tr, hst])) (fun k => ?_)
      rw [hd, step_end hA hst, Option.bind_some, if_neg Bool.false_ne_true]
    · replace hst := Bool.eq_false_iff.mpr hst
      refine Ev.succ (g := fun k => tags_runs.l0 k l steps ((pre ++ [p]) ++ [nx l p]) (es ++ [em l p])) ((ih (pre ++ [p]) (nx l p) (es ++ [em l p]) (B + 1) (hA.next hg) (by omega) (by simp; omega) (by simp; omega) hs2).cast ?_) (fun k => ?_)
      · rw [tr, if_neg (by rw [hst]; decide), List.dropLast_cons_of_ne_nil (tr_ne _ _ _)]
        simp
      · rw [hd, step_go hA hg (by omega) hst, Option.bind_some, if_pos rfl, Option.bind_some, if_pos (by simp; omega), Option.bind_some, if_pos (by simp; omega)]
def p0 (a b : Int) : S66 := ⟨0, ⟨a, b⟩⟩
theorem At.start {l : List S57} (hg : Good l) {a b : Int} (h : jarsOk a b = true) : At l 100 (p0 a b) := by
  unfold jarsOk at h
  rw [decide_eq_true_eq] at h
  have := hg.ne
  exact ⟨by show (0 : Int) ≤ 0; omega, by show (0 : Int) < _; omega, h.1, h.2.1, h.2.2.1, h.2.2.2⟩
/-- The run of the program. -/
theorem runs_ev {l : List S57} (hg : Good l) {a b : Int} (hj : jarsOk a b = true) (n : Nat) (hn : n ≤ 1000) :
    Ev (fun k => tags_runs.f k l a b (n : Int)) (tr l n (p0 a b), (tr l n (p0 a b)).dropLast.map (em l)) := by
  have := runs_go hg (n : Int) n [] (p0 a b) [] 100 (At.start hg hj) (by omega) rfl (by simp) (by omega)
  rw [List.nil_append, List.nil_append, List.nil_append] at this
  exact this

/-! ### The reference's run -/
def lastP (l : List S66) : S66 := l.getLastD z66
end Go.Proofs.Ytjmbjnobbeflfaa.Pure
