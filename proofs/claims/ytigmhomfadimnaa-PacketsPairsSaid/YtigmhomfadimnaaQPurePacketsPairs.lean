/- The plain law of PacketsPairs: the program and the reference tell the same table. No conditions but the sizes that the arguments have. -/
import Derived.Test.YtigmhomfadimnaaQMPairsR
import Derived.Test.YtigmhomfadimnaaQMTab
import Derived.Test.YtigmhomfadimnaaQXcomfitlaw04PacketsPairs
set_option linter.unusedVariables false
set_option linter.unusedSimpArgs false
namespace Go.Proofs.Ytigmhomfadimnaa.Pure
open Go.RowKit Go.Proofs.Ytigmhomfadimnaa.X Go.Proofs.YtigmhomfadimnaaW.PrintWords Go.Proofs.YtigmhomfadimnaaW.PrintLast Go.Proofs.YtigmhomfadimnaaW.PrintMore
theorem need_top {m : Nat} (hm : m ≤ 3) : (2 : Int) ^ m - 1 = ((2 ^ m - 1 : Nat) : Int) ∧ 2 ^ m - 1 < 8 := by
  have : m = 0 ∨ m = 1 ∨ m = 2 ∨ m = 3 := by omega
  rcases this with e | e | e | e <;> rw [e] <;> decide
theorem Pairs_ok {l : List Nat} (h : Small l) {T : List (Nat × Nat)} (hT : tabN l (3 ^ l.length) = some T) (hW : okW (cl l) = true) (s : Nat) (hs : s < 2 ^ l.length) : Ev (fun k => packets_Pairs.f k (cl l) (s : Int)) (((vT l T s).1 : Int), ((vT l T s).2 : Int), 0) := by
  obtain ⟨-, hT⟩ := tabN_is l _ T hT
  have hl := h.len
  obtain ⟨e1, e2⟩ := need_top hl
  have hs8 : s < 8 := Nat.lt_of_lt_of_le hs (Nat.le_trans (Nat.pow_le_pow_right (by omega) hl) (by decide))
  have hp := prog_ev h hT (need (2 ^ l.length - 1) s) (2 ^ l.length - 1) s e2 hs8 rfl (need_lt hl hs)
  unfold packets_Pairs.f
  have hS : okS (cl l) (s : Int) = true := (okS_iff _ _).2 ⟨hW, by omega, by rw [cl_len]; exact_mod_cast hs⟩
  refine Ev.bind (isSet_ev (cl l) (s : Int)) (Ev.ifPos hS (Ev.ifNeg (by rw [cl_len]; omega) ?_))
  rw [all_ok (cl l) (by rw [cl_len]; omega), cl_len, e1]
  exact Ev.bind (g := fun _ => some _) (Ev.const rfl) (Ev.bind hp (Ev.const rfl))
theorem Pairs_bad (l : List Int) (s : Int) (h : okS l s = false ∨ l.length > 3) : Ev (fun k => packets_Pairs.f k l s) (0, 0, 2) := by
  unfold packets_Pairs.f
  refine Ev.bind (isSet_ev l s) ?_
  cases hS : okS l s with
  | false => exact Ev.ifNeg (by simp) (Ev.const rfl)
  | true =>
    have : l.length > 3 := by simpa [hS] using h
    exact Ev.ifPos rfl (Ev.ifPos (by omega) (Ev.const rfl))
theorem PacketsPairs : comfitlaw04_PacketsPairs.Pure := by
  intro l s _ hl _ _
  refine Ev.get ?_
  unfold comfitlaw04_PacketsPairs.f
  rw [list_ok]
  simp only [Option.bind_some]
  have hlen : l.length < 4611686018427387904 := by omega
  by_cases hg : okS l s = true ∧ l.length ≤ 3
  · obtain ⟨hS, h3⟩ := hg
    obtain ⟨hW, hs0, hs1⟩ := (okS_iff l s).1 hS
    rw [take_ok l hW]
    obtain ⟨ln, hsm, rfl⟩ := small_of hW h3
    obtain ⟨T, hT, -⟩ := tab_of hsm
    obtain ⟨sn, rfl⟩ : ∃ sn : Nat, s = (sn : Int) := ⟨s.toNat, by omega⟩
    rw [cl_len] at hs1 h3
    have hsn : sn < 2 ^ ln.length := by exact_mod_cast hs1
    refine Ev.bind (Pairs_ok hsm hT hW sn hsn) (Ev.bind (Set_ev (cl ln) (sn : Int) hlen) (Ev.ifPos hS ?_))
    rw [cl_len, show decide ((ln.length : Int) > 3) = false from decide_eq_false (by omega)]
    have hR := refP_ev hsm (tabN_is ln _ T hT).2 sn hsn
    refine Ev.succ (g := fun k => (comfitref04_Pairs.f k (cl ln) (sn : Int)).bind fun bt628 => if (((vT ln T sn).1 : Int) == bt628.1 && (((vT ln T sn).2 : Int) == bt628.2)) = true then (if (0 : Int) = 0 then ((comfitlaw04_awake.f k).bind fun t630 => (some t630)) else (some false)) else (some false)) ?_ (fun k => by rw [comfitlaw04_PacketsPairs.j0, if_neg (by decide)])
    refine Ev.bind hR (Ev.ifPos ?_ (Ev.ifPos rfl (Ev.bind awake_ev (Ev.const rfl))))
    simp [ci, vT]
  · have hb : okS (l.take 8) s = false ∨ (l.take 8).length > 3 := by
      rw [okS_take]
      cases h : okS l s with
      | false => exact .inl rfl
      | true =>
        refine .inr ?_
        have h3 : ¬ l.length ≤ 3 := fun e => hg ⟨h, e⟩
        rw [List.length_take]; omega
    have hj : Ev (fun k => comfitlaw04_PacketsPairs.j0 k l s 2 true 0 0) true := by
      refine Ev.succ (g := fun k => (comfitlaw04_awake.f k).bind fun t627 => (some t627)) (Ev.bind awake_ev (Ev.const rfl)) (fun k => ?_)
      simp [comfitlaw04_PacketsPairs.j0, comfitlaw04_none.f]
    refine Ev.bind (Pairs_bad _ s hb) (Ev.bind (Set_ev l s hlen) ?_)
    cases h : okS l s with
    | false => exact Ev.ifNeg (by simp) hj
    | true =>
      refine Ev.ifPos rfl ?_
      have h3 : ¬ l.length ≤ 3 := fun e => hg ⟨h, e⟩
      rw [show decide ((l.length : Int) > 3) = true from decide_eq_true (by omega)]
      exact hj
end Go.Proofs.Ytigmhomfadimnaa.Pure
