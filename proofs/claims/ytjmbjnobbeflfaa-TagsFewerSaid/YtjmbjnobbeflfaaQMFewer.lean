/- Plain laws of machines: the reference's machine without what is not reached is the program's; copies of machines. -/
import Derived.Test.YtjmbjnobbeflfaaQMReach
import Derived.Test.YtjmbjnobbeflfaaQMGo
import Derived.Test.YtjmbjnobbeflfaaQX0
import Derived.Test.YtjmbjnobbeflfaaQXS
set_option linter.unusedVariables false
set_option linter.unusedSimpArgs false
namespace Go.Proofs.Ytjmbjnobbeflfaa.Pure
open Go.RowKit Go.Proofs.Ytjmbjnobbeflfaa.X Go.Proofs.YtjmbjnobbeflfaaW.PrintWords Go.Proofs.YtjmbjnobbeflfaaW.PrintLast Go.Proofs.YtjmbjnobbeflfaaW.PrintMore
def vc (x : S57) : S39 := ⟨x.f0, x.f1, x.f2, x.f3⟩
/-! ### What is marked, by rounds -/
def subB (B C : List Bool) : Prop := ∀ j, hasB B j = true → hasB C j = true
theorem subB.refl (B : List Bool) : subB B B := fun _ h => h
theorem subB.trans {A B C : List Bool} (h : subB A B) (h' : subB B C) : subB A C := fun j hj => h' j (h j hj)
theorem hasB_lt {B : List Bool} {j : Nat} (h : hasB B j = true) : j < B.length := by
  by_cases c : j < B.length
  · exact c
  · unfold hasB at h
    simp [show B[j]? = none from List.getElem?_eq_none (by omega)] at h
theorem set_in {B C : List Bool} {i : Nat} (h : subB B C) (hi : hasB C i = true) : subB (B.set i true) C := by
  intro j hj
  by_cases c : i < B.length
  · rw [hasB_set B i j c] at hj
    rcases Bool.or_eq_true _ _ ▸ hj with e | e
    · rw [← of_decide_eq_true e]; exact hi
    · exact h j e
  · rw [List.set_eq_of_length_le (by omega)] at hj; exact h j hj
def inR (l : List S57) (n : Nat) : Prop := ∀ j, j < n → 0 ≤ (l.getD j z57).f2 ∧ (l.getD j z57).f2 < n ∧ 0 ≤ (l.getD j z57).f3 ∧ (l.getD j z57).f3 < n ∧ ((l.getD j z57).f0 = 0 ∨ (l.getD j z57).f0 > 0)
theorem dfs_least {l : List S57} {C : List Bool} (hC : ∀ j, hasB C j = true → closedAt l C j) : ∀ (d : Nat) (B : List Bool) (i : Nat), subB B C → hasB C i = true → subB (dfs l d B i) C := by
  intro d
  induction d with
  | zero => intro B i h _; exact h
  | succ d ih =>
    intro B i h hi
    have hc := hC i hi
    have hs := set_in h hi
    unfold dfs
    split
    · exact h
    · dsimp only
      have h2 : subB (if (l.getD i z57).f0 = 0 then B.set i true else dfs l d (B.set i true) (l.getD i z57).f2.toNat) C := by
        split
        · exact hs
        · rename_i h0
          exact ih _ _ hs (hc.1 h0)
      split
      · rename_i e
        exact ih _ _ h2 (hc.2 e)
      · exact h2
/-! ### The reference's Fewer -/
theorem good_inR {l : List S57} (hg : Good l) : inR l l.length := by
  intro j hj
  have h := hg.at (i := (j : Int)) (by omega) (by omega)
  have e : rd_T57 l (j : Int) = l.getD j z57 := rfl
  rw [e] at h
  obtain ⟨_, a, b, c, d, f⟩ := h
  exact ⟨a, b, c, d, by omega⟩
/-- The numbers of the marked, up to one. -/
structure NumL (B : List Bool) (i n : Nat) (M : List Int) : Prop where
  len : M.length = n
  at_ : ∀ j : Nat, j < i → hasB B j = true → rd M (j : Int) = (cnt B j : Int)
/-! ### Copies, and their comparison -/
theorem own_go (l : List S57) (hl : l.length ≤ 1000) : ∀ (d i : Nat), i + d = l.length → Ev (fun k => comfitlaw06_own.l0 k ((l.take i).map vc) l (l.length : Int) (i : Int)) (l.map vc) := by
  intro d
  induction d with
  | zero =>
    intro i hi
    exact Ev.succ (g := fun _ => some ((l.take i).map vc)) ((Ev.const rfl).cast (by rw [List.take_of_length_le (by omega)])) (fun k => by rw [comfitlaw06_own.l0, if_neg (by omega)])
  | succ d ih =>
    intro i hi
    have hil : i < l.length := by omega
    have hx : rd_T57 l (i : Int) = l[i] := by unfold rd_T57; simp [hil]
    refine Ev.succ (g := fun k => _) (ih (i + 1) (by omega)) (fun k => ?_)
    rw [comfitlaw06_own.l0, if_pos (by omega), if_pos (by omega), if_pos (by omega), if_pos (by rw [List.length_map, List.length_take]; omega), hx, show wrap64 ((i : Int) + 1) = ((i + 1 : Nat) : Int) by unfold wrap64; omega, List.take_succ_eq_append_getElem hil, List.map_append]
    rfl
theorem own_ev (l : List S57) (hl : l.length ≤ 1000) : Ev (fun k => comfitlaw06_own.f k l) (l.map vc) := by
  have := own_go l hl l.length 0 (by omega)
  rw [List.take_zero] at this
  exact this
theorem outB_le (B : List Bool) (l : List S57) (n : Nat) : (outB B l n).length ≤ n := by rw [outB_len]; exact cnt_le B n
end Go.Proofs.Ytjmbjnobbeflfaa.Pure
