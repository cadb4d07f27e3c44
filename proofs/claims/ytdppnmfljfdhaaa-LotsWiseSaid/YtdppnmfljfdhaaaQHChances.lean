/- The contract of lots.chances: are all of them chances? -/
import Derived.Test.YtdppnmfljfdhaaaQHBoxes
import Derived.Test.YtdppnmfljfdhaaaQXP
set_option linter.unusedVariables false
set_option linter.unusedSimpArgs false
namespace Go.Proofs.Ytdppnmfljfdhaaa.X
open Go.RowKit Go.Proofs.YtdppnmfljfdhaaaW.PrintWords Go.Proofs.YtdppnmfljfdhaaaW.PrintLast Go.Proofs.YtdppnmfljfdhaaaW.PrintMore

def okCb (y o : Int) : Bool := decide (1 ≤ o ∧ o ≤ 12 ∧ 0 ≤ y ∧ y ≤ o)
theorem okCb_ok (y o : Int) : lots_Chance_valid.f y o = some (okCb y o) := by
  unfold lots_Chance_valid.f okCb
  repeat' split
  all_goals simp only [Option.some.injEq]
  all_goals first
    | (symm; apply decide_eq_false; omega)
    | (apply decide_eq_decide.2; omega)
/-- The place of the first that is none, from i on; -1: there is none. -/
def badAt : List S34 → Nat → Int
  | [], _ => -1
  | e :: l, i => if okCb e.f0 e.f1 = true then badAt l (i + 1) else i
theorem badAt_cons (e : S34) (l : List S34) (i : Nat) : badAt (e :: l) i = if okCb e.f0 e.f1 = true then badAt l (i + 1) else i := rfl
theorem badAt_neg : ∀ (l : List S34) (i : Nat), decide (badAt l i ≥ 0) = !(l.all fun e => okCb e.f0 e.f1)
  | [], i => by simp [badAt]
  | e :: l, i => by
    rw [badAt_cons]
    by_cases h : okCb e.f0 e.f1 = true
    · rw [if_pos h, badAt_neg l (i + 1)]; simp [h]
    · rw [if_neg h]; simp [h]
def lots_chances.f (l : List S34) : Option Bool := some (l.all fun e => okCb e.f0 e.f1)

set_option maxRecDepth 100000 in
theorem chances1 (y o : Int) (w : World) : Calls Try.prog 83 #[.agg #[.int .i64 y, .int .i64 o]] w fun e w' => e = .returned (.bool (!okCb y o)) ∧ Below w.heap.size w w' := by
  have hu34 := Try.underlying34
  have HB := Aside0.mk (below_alloc (Below.refl w.heap.size w) (.cells #[.int .i64 y, .int .i64 o] 34))
  go_enter Try.func83, Try.ntmps83
  go_wp2_with fail
  refine (lots_Chance_valid.calls y o (okCb y o) _ (okCb_ok y o)).mono ?_
  rintro e w1 ⟨rfl, hb⟩
  go_wp2_with fail
  go_ret
  exact ⟨rfl, below_step HB.out hb⟩
set_option maxRecDepth 100000 in
set_option maxHeartbeats 4000000 in
theorem index_calls (A : Option Addr) (c : Nat) (l : List S34) (w : World) (hr : Kd.C k34 w A l.length l) (hn : l.length ≤ 9223372036854775807) :
    Calls Try.prog 86 #[.slice A l.length c, .func (.func 83) #[] #[]] w fun e w' => e = .returned (.int .i64 (badAt l 0)) ∧ Below w.heap.size w w' := by
  have hu34 := Try.underlying34
  have HR := Aside0.mk hr
  clear hr
  go_enter Try.func86, Try.ntmps86
  go_wp2_with fail
  go_loopw [8] (fun i W => ∃ j : Nat, i = .int .i64 (j : Int) ∧ j ≤ l.length ∧ Aside0 (badAt (l.drop j) j = badAt l 0) ∧ Aside0 (Below w.heap.size w W)) (fun i _ => l.length - (intOf i).toNat)
  case atStart => exact ⟨0, rfl, Nat.zero_le _, ⟨rfl⟩, ⟨Below.refl _ _⟩⟩
  case round =>
    obtain ⟨j, rfl, hj, HI, HB⟩ := hrel
    by_cases hjl : j < l.length
    · have hC := Kd.C_below HR.out HB.out
      obtain ⟨ad, rfl, e0, e1⟩ := at_T34 hC (j : Int) (by omega) (by omega)
      rw [Int.toNat_natCast] at e0 e1
      have hi := HI.out
      rw [show l.drop j = rd_T34 l j :: l.drop (j + 1) by rw [List.drop_eq_getElem_cons hjl]; simp [rd_T34, hjl]] at hi
      clear hC HI
      generalize rd_T34 l (j : Int) = e at *
      rw [badAt_cons] at hi
      have hjb : decide ((j : Int) < (l.length : Int)) = true := decide_eq_true (by omega)
      go_wp2_with fail
      refine (chances1 e.f0 e.f1 _).mono ?_
      rintro x w1 ⟨rfl, hb⟩
      replace HB := Aside0.mk (below_step HB.out hb)
      clear e0 e1 hb
      cases ho : okCb e.f0 e.f1 with
      | true =>
        rw [ho, if_pos rfl] at hi
        have HI := Aside0.mk hi
        clear hi
        go_wp2_with fail
        exact ⟨⟨j + 1, by rw [Int.natCast_add]; rfl, by omega, HI, HB⟩, by simp only [intOf]; omega⟩
      | false =>
        rw [ho, if_neg (by decide)] at hi
        go_wp2_with fail
        go_ret
        exact ⟨by rw [← hi]; rfl, HB.out⟩
    · have hjb : decide ((j : Int) < (l.length : Int)) = false := decide_eq_false (by omega)
      obtain rfl : j = l.length := by omega
      have hi := HI.out
      rw [List.drop_length] at hi
      have hi' : (-1 : Int) = badAt l 0 := hi
      clear hi
      go_wp2_with fail
      go_ret
      exact ⟨by rw [← hi']; rfl, HB.out⟩
set_option maxRecDepth 100000 in
theorem lots_chances.calls (A : Option Addr) (c : Nat) (l : List S34) (r : Bool) (w : World) (hr : Kd.C k34 w A l.length l) (hc : l.length ≤ c) (h : lots_chances.f l = some r) :
    Calls Try.prog 76 #[.slice A l.length c] w fun e w' => e = .returned (.bool r) ∧ Below w.heap.size w w' := by
  obtain rfl := Option.some.inj h
  have hn : l.length ≤ 9223372036854775807 := hr.2.1
  have HR := Aside0.mk hr
  clear hr h
  go_enter Try.func76, Try.ntmps76
  go_wp2_with fail
  refine (Calls.mono (R := fun e w' => e = .returned (.bool (decide (badAt l 0 ≥ 0))) ∧ Below w.heap.size w w') ?_ ?_)
  · go_enter Try.func82, Try.ntmps82
    go_wp2_with fail
    refine (index_calls A c l _ HR.out hn).mono ?_
    rintro e w1 ⟨rfl, hb⟩
    go_wp2_with fail
    go_ret
    exact ⟨rfl, hb⟩
  · rintro e w1 ⟨rfl, hb⟩
    rw [badAt_neg]
    go_wp2_with fail
    go_ret
    exact ⟨by simp, hb⟩
end Go.Proofs.Ytdppnmfljfdhaaa.X
