/- Plain laws of plans: what is valid, turned, run. -/
import Derived.Test.YtdppnmfljfdhaaaQMBase
import Derived.Test.YtdppnmfljfdhaaaQXLO
import Derived.Test.YtdppnmfljfdhaaaQXS
import Derived.Test.YtdppnmfljfdhaaaQX0
import Derived.Test.YtdppnmfljfdhaaaQXP
set_option linter.unusedVariables false
set_option linter.unusedSimpArgs false
namespace Go.Proofs.Ytdppnmfljfdhaaa.Pure
open Go.RowKit Go.Proofs.Ytdppnmfljfdhaaa.X Go.Proofs.YtdppnmfljfdhaaaW.PrintWords Go.Proofs.YtdppnmfljfdhaaaW.PrintLast Go.Proofs.YtdppnmfljfdhaaaW.PrintMore

/-! ### Valid plans -/
/-- The bounds of one place. -/
def okPair (n t v : Int) : Bool := decide (-1 ≤ t ∧ t ≤ n ∧ 0 ≤ v ∧ v ≤ n + 1 ∧ t < v)
/-- The places from i on, d of them. -/
def okFrom (l0 l1 : List Int) (i : Nat) : Nat → Bool
  | 0 => decide (rd l1 ((l0.length : Int) - 1) = rd l0 ((l0.length : Int) - 1) + 1)
  | d + 1 => okPair l0.length (rd l0 i) (rd l1 i) && okFrom l0 l1 (i + 1) d
def okP (l0 l1 : List Int) : Bool := decide (1 ≤ l0.length) && (decide (l0.length ≤ 12) && (decide (l1.length = l0.length) && okFrom l0 l1 0 l0.length))
theorem okFrom_at {l0 l1 : List Int} : ∀ (d i : Nat), okFrom l0 l1 i d = true → (∀ j : Nat, i ≤ j → j < i + d → okPair l0.length (rd l0 j) (rd l1 j) = true) ∧ rd l1 ((l0.length : Int) - 1) = rd l0 ((l0.length : Int) - 1) + 1
  | 0, i, h => ⟨fun j h1 h2 => by omega, by simpa [okFrom] using h⟩
  | d + 1, i, h => by
    simp only [okFrom, Bool.and_eq_true] at h
    obtain ⟨a, b⟩ := okFrom_at d (i + 1) h.2
    refine ⟨fun j h1 h2 => ?_, b⟩
    by_cases e : j = i
    · rw [e]; exact h.1
    · exact a j (by omega) (by omega)
theorem okFrom_of {l0 l1 : List Int} (hl : rd l1 ((l0.length : Int) - 1) = rd l0 ((l0.length : Int) - 1) + 1) : ∀ (d i : Nat), (∀ j : Nat, i ≤ j → j < i + d → okPair l0.length (rd l0 j) (rd l1 j) = true) → okFrom l0 l1 i d = true
  | 0, i, h => by simp [okFrom, hl]
  | d + 1, i, h => by
    simp only [okFrom, Bool.and_eq_true]
    exact ⟨h i (by omega) (by omega), okFrom_of hl d (i + 1) (fun j h1 h2 => h j (by omega) (by omega))⟩
theorem okPair_iff {n t v : Int} : okPair n t v = true ↔ (-1 ≤ t ∧ t ≤ n ∧ 0 ≤ v ∧ v ≤ n + 1 ∧ t < v) := by simp [okPair]
/-- A valid plan, in words. -/
structure Ok (l0 l1 : List Int) : Prop where
  pos : 1 ≤ l0.length
  most : l0.length ≤ 12
  same : l1.length = l0.length
  at_ : ∀ j : Nat, j < l0.length → -1 ≤ rd l0 j ∧ rd l0 j ≤ l0.length ∧ 0 ≤ rd l1 j ∧ rd l1 j ≤ l0.length + 1 ∧ rd l0 j < rd l1 j
  last : rd l1 ((l0.length : Int) - 1) = rd l0 ((l0.length : Int) - 1) + 1
theorem okP_iff (l0 l1 : List Int) : okP l0 l1 = true ↔ Ok l0 l1 := by
  unfold okP
  simp only [Bool.and_eq_true, decide_eq_true_eq]
  constructor
  · rintro ⟨h1, h2, h3, h4⟩
    obtain ⟨a, b⟩ := okFrom_at _ _ h4
    exact ⟨h1, h2, h3, fun j hj => okPair_iff.1 (a j (by omega) (by omega)), b⟩
  · intro h
    exact ⟨h.pos, h.most, h.same, okFrom_of h.last _ _ (fun j _ hj => okPair_iff.2 (h.at_ j (by omega)))⟩
theorem valid_go (l0 l1 : List Int) (h2 : l0.length ≤ 12) (h1 : 1 ≤ l0.length) (h3 : l1.length = l0.length) : ∀ d i : Nat, i + d = l0.length → (∀ j : Nat, j < i → okPair l0.length (rd l0 j) (rd l1 j) = true) →
    Ev (fun k => lots_Plan_valid.l0 k l0.length l0 l0.length i l0 l1) (okFrom l0 l1 i d) ∧ Ev (fun k => comfitref02_Valid.l0 k l0.length l0 l0.length i l0 l1) (okFrom l0 l1 i d) := by
  intro d
  induction d with
  | zero =>
    intro i hi hok
    have hb := okPair_iff.1 (hok (l0.length - 1) (by omega))
    rw [show ((l0.length - 1 : Nat) : Int) = (l0.length : Int) - 1 by omega] at hb
    have e1 : wrap64 ((l0.length : Int) - 1) = (l0.length : Int) - 1 := w_in (by omega) (by omega)
    have e2 : wrap64 (rd l0 ((l0.length : Int) - 1) + 1) = rd l0 ((l0.length : Int) - 1) + 1 := w_in (by omega) (by omega)
    refine ⟨Ev.succ (g := fun _ => some (okFrom l0 l1 i 0)) (Ev.const rfl) (fun k => ?_), Ev.succ (g := fun _ => some (okFrom l0 l1 i 0)) (Ev.const rfl) (fun k => ?_)⟩
    · rw [lots_Plan_valid.l0, if_neg (by omega), e1, if_pos (by omega), if_pos (by omega), if_pos (by omega), e2]
      simp only [okFrom, Option.some.injEq]
      rw [Bool.eq_iff_iff]; simp
    · rw [comfitref02_Valid.l0, if_neg (by omega), e1, if_pos (by omega), if_pos (by omega), if_pos (by omega), e2]
      simp only [okFrom, Option.some.injEq]
      rw [Bool.eq_iff_iff]; simp
  | succ d ih =>
    intro i hi hok
    have e1 : wrap64 ((l0.length : Int) + 1) = (l0.length : Int) + 1 := w_in (by omega) (by omega)
    have e2 : wrap64 ((i : Int) + 1) = ((i + 1 : Nat) : Int) := by rw [w_in (by omega) (by omega)]; omega
    by_cases hp : okPair l0.length (rd l0 i) (rd l1 i) = true
    · have h := okPair_iff.1 hp
      obtain ⟨a, b⟩ := ih (i + 1) (by omega) (fun j hj => by
        by_cases e : j = i
        · rw [e]; exact hp
        · exact hok j (by omega))
      have ev : okFrom l0 l1 i (d + 1) = okFrom l0 l1 (i + 1) d := by simp [okFrom, hp]
      rw [ev]
      refine ⟨Ev.succ (g := fun k => lots_Plan_valid.j2 k l0.length l0 l0.length i false l0 l1) (Ev.succ a (fun k => ?_)) (fun k => ?_), Ev.succ (g := fun k => comfitref02_Valid.j2 k l0.length l0 l0.length i false l0 l1) (Ev.succ b (fun k => ?_)) (fun k => ?_)⟩
      · rw [lots_Plan_valid.j2, if_neg (by decide), e2]
      · rw [lots_Plan_valid.l0, if_pos (by omega), if_pos (by omega), if_pos (by omega), if_pos (by omega), if_neg (by omega), if_neg (by omega), if_neg (by omega), e1, if_neg (by omega), decide_eq_false (by omega)]
      · rw [comfitref02_Valid.j2, if_neg (by decide), e2]
      · rw [comfitref02_Valid.l0, if_pos (by omega), if_pos (by omega), if_pos (by omega), if_neg (by omega), if_neg (by omega), if_pos (by omega), if_neg (by omega), e1, if_neg (by omega), decide_eq_false (by omega)]
    · have ev : okFrom l0 l1 i (d + 1) = false := by simp [okFrom, hp]
      rw [ev]
      have hn : ¬ (-1 ≤ rd l0 i ∧ rd l0 i ≤ l0.length ∧ 0 ≤ rd l1 i ∧ rd l1 i ≤ l0.length + 1 ∧ rd l0 i < rd l1 i) := fun h => hp (okPair_iff.2 h)
      refine ⟨Ev.succ (g := fun k => lots_Plan_valid.j2 k l0.length l0 l0.length i true l0 l1) (Ev.succ (g := fun _ => some false) (Ev.const rfl) (fun k => ?_)) (fun k => ?_), Ev.succ (g := fun k => comfitref02_Valid.j2 k l0.length l0 l0.length i true l0 l1) (Ev.succ (g := fun _ => some false) (Ev.const rfl) (fun k => ?_)) (fun k => ?_)⟩
      · rw [lots_Plan_valid.j2, if_pos rfl]
      · rw [lots_Plan_valid.l0, if_pos (by omega), if_pos (by omega), if_pos (by omega), if_pos (by omega), e1]
        repeat' split
        all_goals first
          | rfl
          | (rw [decide_eq_true (by omega)])
      · rw [comfitref02_Valid.j2, if_pos rfl]
      · rw [comfitref02_Valid.l0, if_pos (by omega), if_pos (by omega), if_pos (by omega), if_pos (by omega : (i : Int) < l1.length), e1]
        repeat' split
        all_goals first
          | rfl
          | (rw [decide_eq_true (by omega)])
theorem valid_ev (l0 l1 : List Int) : Ev (fun k => lots_Plan_valid.f k l0 l1) (okP l0 l1) := by
  have hf : Ev (fun k => lots_Plan_valid.j0 k l0.length true l0 l1) false := Ev.succ (g := fun _ => some false) (Ev.const rfl) (fun k => by rw [lots_Plan_valid.j0, if_pos rfl])
  unfold lots_Plan_valid.f
  by_cases h1 : 1 ≤ l0.length
  · refine Ev.ifNeg (by omega) ?_
    by_cases h2 : l0.length ≤ 12
    · refine Ev.ifNeg (by omega) ?_
      by_cases h3 : l1.length = l0.length
      · refine Ev.succ (g := fun k => lots_Plan_valid.l0 k l0.length l0 l0.length 0 l0 l1) ((valid_go l0 l1 h2 h1 h3 l0.length 0 (by omega) (fun j hj => by omega)).1.cast (by simp [okP, h1, h2, h3])) (fun k => by rw [h3, bne_self_eq_false, lots_Plan_valid.j0, if_neg (by decide)])
      · have e : ((l1.length : Int) != (l0.length : Int)) = true := by simp; omega
        rw [e]
        exact hf.cast (by simp [okP, h3])
    · exact Ev.ifPos (by omega) (hf.cast (by simp [okP, h2]))
  · exact Ev.ifPos (by omega) (hf.cast (by simp [okP, h1]))
theorem ref_valid_ev (l0 l1 : List Int) : Ev (fun k => comfitref02_Valid.f k l0 l1) (okP l0 l1) := by
  have hf : Ev (fun k => comfitref02_Valid.j0 k l0.length true l0 l1) false := Ev.succ (g := fun _ => some false) (Ev.const rfl) (fun k => by rw [comfitref02_Valid.j0, if_pos rfl])
  unfold comfitref02_Valid.f
  by_cases h1 : 1 ≤ l0.length
  · refine Ev.ifNeg (by omega) ?_
    by_cases h2 : l0.length ≤ 12
    · refine Ev.ifNeg (by omega) ?_
      by_cases h3 : l1.length = l0.length
      · refine Ev.succ (g := fun k => comfitref02_Valid.l0 k l0.length l0 l0.length 0 l0 l1) ((valid_go l0 l1 h2 h1 h3 l0.length 0 (by omega) (fun j hj => by omega)).2.cast (by simp [okP, h1, h2, h3])) (fun k => by rw [h3, bne_self_eq_false, comfitref02_Valid.j0, if_neg (by decide)])
      · have e : ((l1.length : Int) != (l0.length : Int)) = true := by simp; omega
        rw [e]
        exact hf.cast (by simp [okP, h3])
    · exact Ev.ifPos (by omega) (hf.cast (by simp [okP, h2]))
  · exact Ev.ifPos (by omega) (hf.cast (by simp [okP, h1]))

/-! ### Copies -/
theorem list_ok (l : List Int) : comfitlaw02_list.f l = some (l.take 15) := by
  unfold comfitlaw02_list.f slices_Clone_int_int.f
  have e : (mn (l.length : Int) 15).toNat = min l.length 15 := by unfold mn; split <;> omega
  rw [if_pos (by unfold mn; split <;> omega), if_pos (by unfold mn; split <;> omega), e]
  have e2 : l.take (min l.length 15) = l.take 15 := by rw [Nat.min_comm, ← List.take_take, List.take_length]
  rw [e2]
  simp only [Option.bind_some, List.nil_append, List.length_nil]
  rw [if_pos (by rw [List.length_take]; omega)]
  rfl
theorem Of_ok (l0 l1 : List Int) : comfitlaw02_Of.f l0 l1 = some (l0.take 15, l1.take 15) := by
  unfold comfitlaw02_Of.f
  rw [list_ok, list_ok]
  rfl
theorem okP_take (l0 l1 : List Int) : okP (l0.take 15) (l1.take 15) = okP l0 l1 := by
  by_cases h : l0.length ≤ 12
  · rw [List.take_of_length_le (by omega : l0.length ≤ 15)]
    by_cases h1 : l1.length ≤ 15
    · rw [List.take_of_length_le h1]
    · have e1 : (l1.take 15).length = 15 := by rw [List.length_take]; omega
      unfold okP
      rw [e1, decide_eq_false (by omega : ¬ 15 = l0.length), decide_eq_false (by omega : ¬ l1.length = l0.length)]
      simp
  · have e1 : 12 < (l0.take 15).length := by rw [List.length_take]; omega
    unfold okP
    rw [decide_eq_false (by omega : ¬ (l0.take 15).length ≤ 12), decide_eq_false h]
    simp
theorem take_ok {l0 l1 : List Int} (h : Ok l0 l1) : l0.take 15 = l0 ∧ l1.take 15 = l1 :=
  ⟨List.take_of_length_le (by have := h.most; omega), List.take_of_length_le (by have := h.most; have := h.same; omega)⟩
/-! ### Turned plans -/
end Go.Proofs.Ytdppnmfljfdhaaa.Pure
