/- Plain laws of a plan's run over items. -/
import Derived.Test.YtdppnmfljfdhaaaQMPlan
import Derived.Test.YtdppnmfljfdhaaaQHEndsA
import Derived.Test.YtdppnmfljfdhaaaQXlotsRun
import Derived.Test.YtdppnmfljfdhaaaQXcomfitref02Run
set_option linter.unusedVariables false
set_option linter.unusedSimpArgs false
namespace Go.Proofs.Ytdppnmfljfdhaaa.Pure
open Go.RowKit Go.Proofs.Ytdppnmfljfdhaaa.X Go.Proofs.YtdppnmfljfdhaaaW.PrintWords Go.Proofs.YtdppnmfljfdhaaaW.PrintLast Go.Proofs.YtdppnmfljfdhaaaW.PrintMore

/-- One more item. -/
def more (x : Bool) (b : Int) : Int := if x = true then b + 1 else b
/-- A run over items, from place i on, with b bad ones so far. -/
def run (l0 l1 : List Int) : List Bool → Nat → Int → Int × Bool
  | [], i, _ => ((i : Int), false)
  | x :: xs, i, b => if more x b ≤ rd l0 i then ((i : Int) + 1, true) else if more x b ≥ rd l1 i then ((i : Int) + 1, false) else run l0 l1 xs (i + 1) (more x b)
theorem rdOf_drop (l : List Bool) (i : Nat) (hi : i < l.length) : l.drop i = rdOf false l (i : Int) :: l.drop (i + 1) := by
  rw [List.drop_eq_getElem_cons hi]
  simp [rdOf, hi]
theorem aft_ok (l0 l1 : List Int) (i : Nat) (b : Int) (h : l1.length = l0.length) (hm : l0.length ≤ 12) (hi : i < l0.length) : lots_Plan_after.f l0 l1 ((i : Int) + 1) b = some (if b ≤ rd l0 i then 1 else if b ≥ rd l1 i then 2 else 0) := by
  rw [aft_of l0 l1 _ _ (by omega) (by omega) h hm]
  unfold aft
  rw [show (i : Int) + 1 - 1 = i by omega]
theorem run_go {l0 l1 : List Int} (h : Ok l0 l1) (it : List Bool) (hit : it.length = l0.length) : ∀ (d i : Nat), i + d = l0.length → 0 < d → ∀ b : Int, -1 ≤ b → b ≤ i →
    Ev (fun k => lots_Run.j2 k it i b true l0 l1) ((run l0 l1 (it.drop i) i b).1, (run l0 l1 (it.drop i) i b).2, 0) ∧
    Ev (fun k => comfitref02_Run.l0 k it b it it.length i l0 l1) (run l0 l1 (it.drop i) i b) := by
  intro d
  have hm := h.most
  have hs := h.same
  induction d with
  | zero => intro i hi hd; omega
  | succ d ih =>
    intro i hi _ b hb hb2
    have e1 : wrap64 ((i : Int) + 1) = (i : Int) + 1 := w_in (by omega) (by omega)
    have e2 : wrap64 (b + 1) = b + 1 := w_in (by omega) (by omega)
    have hn : ¬ ((i : Int) + 1 = 0) := by omega
    rw [rdOf_drop it i (by omega)]
    generalize hx : rdOf false it (i : Int) = x
    -- the program's round comes to the next place with the bad ones of now
    have step1 : ∀ k, lots_Run.j2 (k + 1) it i b true l0 l1 = lots_Run.l0 k it ((i : Int) + 1) (more x b) l0 l1 := fun k => by
      rw [lots_Run.j2, if_pos rfl, if_pos (by omega), if_pos (by omega), hx, e1, e2]
      unfold more
      cases x <;> simp
    have step2 : ∀ k, comfitref02_Run.l0 (k + 1) it b it it.length i l0 l1 = comfitref02_Run.j1 k it (more x b) i it it.length i l0 l1 := fun k => by
      rw [comfitref02_Run.l0, if_pos (by omega), if_pos (by omega), if_pos (by omega), hx, e2]
      unfold more
      cases x <;> simp
    have hmore : -1 ≤ more x b ∧ more x b ≤ (i : Int) + 1 := by unfold more; split <;> omega
    have aft := aft_ok l0 l1 i (more x b) hs hm (by omega)
    have l1step : ∀ k, lots_Run.l0 (k + 1) it ((i : Int) + 1) (more x b) l0 l1 = lots_Run.j2 k it ((i : Int) + 1) (more x b) ((if more x b ≤ rd l0 i then (1 : Int) else if more x b ≥ rd l1 i then 2 else 0) == 0) l0 l1 := fun k => by
      rw [lots_Run.l0, if_neg hn, aft]
      rfl
    unfold run
    by_cases c1 : more x b ≤ rd l0 i
    · rw [if_pos c1]
      refine ⟨Ev.succ (Ev.succ (g := fun k => lots_Run.j2 k it ((i : Int) + 1) (more x b) false l0 l1) (Ev.succ (g := fun _ => some ((i : Int) + 1, true, 0)) (Ev.const rfl) (fun k => ?_)) (fun k => ?_)) step1,
        Ev.succ (g := fun k => comfitref02_Run.j1 k it (more x b) i it it.length i l0 l1) (Ev.succ (g := fun _ => some ((i : Int) + 1, true)) (Ev.const rfl) (fun k => ?_)) step2⟩
      · rw [lots_Run.j2, if_neg (by decide), aft, if_pos c1]
        rfl
      · rw [l1step, if_pos c1]
        rfl
      · rw [comfitref02_Run.j1, if_pos (by omega), if_pos (by omega), if_pos c1, e1]
    · rw [if_neg c1]
      by_cases c2 : more x b ≥ rd l1 i
      · rw [if_pos c2]
        refine ⟨Ev.succ (Ev.succ (g := fun k => lots_Run.j2 k it ((i : Int) + 1) (more x b) false l0 l1) (Ev.succ (g := fun _ => some ((i : Int) + 1, false, 0)) (Ev.const rfl) (fun k => ?_)) (fun k => ?_)) step1,
          Ev.succ (g := fun k => comfitref02_Run.j1 k it (more x b) i it it.length i l0 l1) (Ev.succ (g := fun _ => some ((i : Int) + 1, false)) (Ev.const rfl) (fun k => ?_)) step2⟩
        · rw [lots_Run.j2, if_neg (by decide), aft, if_neg c1, if_pos c2]
          rfl
        · rw [l1step, if_neg c1, if_pos c2]
          rfl
        · rw [comfitref02_Run.j1, if_pos (by omega), if_pos (by omega), if_neg c1, if_pos (by omega), if_pos c2, e1]
      · rw [if_neg c2]
        have hlt : i + 1 < l0.length := by
          refine Nat.lt_of_not_le (fun hle => ?_)
          obtain rfl : i = l0.length - 1 := by omega
          have hl := h.last
          rw [show (l0.length : Int) - 1 = ((l0.length - 1 : Nat) : Int) by omega] at hl
          omega
        obtain ⟨a, b'⟩ := ih (i + 1) (by omega) (by omega) (more x b) hmore.1 (by omega)
        refine ⟨Ev.succ (Ev.succ a (fun k => ?_)) step1, Ev.succ (g := fun k => comfitref02_Run.j1 k it (more x b) i it it.length i l0 l1) (Ev.succ b' (fun k => ?_)) step2⟩
        · rw [l1step, if_neg c1, if_neg c2]
          rfl
        · rw [comfitref02_Run.j1, if_pos (by omega), if_pos (by omega), if_neg c1, if_pos (by omega), if_neg c2, e1]
          rfl
theorem Run_ev {l0 l1 : List Int} (h : Ok l0 l1) (it : List Bool) (hit : it.length = l0.length) : Ev (fun k => lots_Run.f k l0 l1 it) ((run l0 l1 it 0 0).1, (run l0 l1 it 0 0).2, 0) := by
  unfold lots_Run.f
  refine Ev.bind (valid_ev l0 l1) ?_
  rw [(okP_iff l0 l1).2 h]
  refine Ev.ifPos rfl ?_
  have e : ((it.length : Int) != (l0.length : Int)) = false := by simp; omega
  rw [e]
  refine Ev.succ (g := fun k => lots_Run.l0 k it 0 0 l0 l1) (Ev.succ (run_go h it hit l0.length 0 (by omega) h.pos 0 (by omega) (by omega)).1 (fun k => ?_)) (fun k => ?_)
  · rw [lots_Run.l0, if_pos rfl]
    rfl
  · rw [lots_Run.j0, if_neg (by decide)]
end Go.Proofs.Ytdppnmfljfdhaaa.Pure
