/- Plain laws of packets: two kinds made one. -/
import Derived.Test.YtigmhomfadimnaaMBase
import Derived.Test.YtigmhomfadimnaaXpacketsMerge
import Derived.Test.YtigmhomfadimnaaXcomfitref04Merged
set_option linter.unusedVariables false
set_option linter.unusedSimpArgs false
namespace Go.Proofs.Ytigmhomfadimnaa.Pure
open Go.RowKit Go.Proofs.Ytigmhomfadimnaa.X Go.Proofs.YtigmhomfadimnaaW.PrintWords Go.Proofs.YtigmhomfadimnaaW.PrintLast Go.Proofs.YtigmhomfadimnaaW.PrintMore

/-- These two kinds may be made one. -/
def okM (l : List Int) (a b : Int) : Bool := okW l && (decide (0 ≤ a) && decide (a < l.length) && (decide (0 ≤ b) && decide (b < l.length)) && (decide (a ≠ b) && decide (rd l a + rd l b ≤ 9)))
theorem okM_iff (l : List Int) (a b : Int) : okM l a b = true ↔ okW l = true ∧ 0 ≤ a ∧ a < l.length ∧ 0 ≤ b ∧ b < l.length ∧ a ≠ b ∧ rd l a + rd l b ≤ 9 := by simp [okM, and_assoc]
/-- The weights with the two made one. -/
def mg (l : List Int) (a b : Nat) : List Int := (l.set a (rd l (a : Int) + rd l (b : Int))).eraseIdx b
theorem rd_in (l : List Int) (h : okW l = true) (a : Int) (h0 : 0 ≤ a) (h1 : a < l.length) : 1 ≤ rd l a ∧ rd l a ≤ 9 := by
  have hk := (okW_iff l).1 h
  obtain ⟨n, rfl⟩ := Int.eq_ofNat_of_zero_le h0
  have hn : n < l.length := by omega
  have : rd l (n : Int) = l[n] := by simp [rd, hn]
  rw [this]
  exact hk.2.2 _ (List.getElem_mem hn)
theorem Clone_ok (l : List Int) (h : l.length < 1000000) : slices_Clone_int_int.f l = some l := by
  unfold slices_Clone_int_int.f
  simp only [Option.bind_some, List.length_nil, Nat.zero_add, List.nil_append]
  rw [if_pos (by omega)]
theorem Merge_ev (l : List Int) (a b : Nat) (h : okM l a b = true) : Ev (fun k => packets_Merge.f k l a b) (mg l a b, 0) := by
  obtain ⟨hw, a0, a1, b0, b1, hab, hs⟩ := (okM_iff l a b).1 h
  have hk := (okW_iff l).1 hw
  have ha := rd_in l hw a a0 a1
  have hb := rd_in l hw b b0 b1
  have e1 : wrap64 (rd l a + rd l b) = rd l a + rd l b := w_in (by omega) (by omega)
  unfold packets_Merge.f
  refine Ev.bind (valid_ev l) (Ev.ifPos hw (Ev.ifNeg (by omega) (Ev.ifNeg (by omega) (Ev.ifNeg (by omega) (Ev.ifNeg (by omega) (Ev.ifNeg hab (Ev.ifPos a0 (Ev.ifPos a1 (Ev.ifPos b0 (Ev.ifPos b1 ?_))))))))))
  rw [e1, decide_eq_false (by omega)]
  refine Ev.succ (g := fun _ => some (mg l a b, 0)) (Ev.const rfl) (fun k => ?_)
  rw [packets_Merge.j0, if_neg (by simp), Clone_ok l (by omega)]
  simp only [Option.bind_some]
  rw [if_pos a0, if_pos a1, if_pos b0, if_pos b1, e1]
  unfold slices_Delete_int_int.f
  rw [w_in (n := (b : Int) + 1) (by omega) (by omega), if_pos (by rw [List.length_set]; omega)]
  simp only [Option.bind_some]
  congr 2
  unfold mg
  rw [List.eraseIdx_eq_take_drop_succ]
  congr 2
theorem Merge_bad (l : List Int) (a b : Int) (h : okM l a b = false) : Ev (fun k => packets_Merge.f k l a b) ([], 2) := by
  have hj : Ev (fun k => packets_Merge.j0 k l a b true) ([], 2) := Ev.succ (g := fun _ => some ([], 2)) (Ev.const rfl) (fun k => by rw [packets_Merge.j0, if_pos rfl])
  unfold packets_Merge.f
  refine Ev.bind (valid_ev l) ?_
  cases hw : okW l with
  | false => exact Ev.ifNeg (by simp) hj
  | true =>
    refine Ev.ifPos rfl ?_
    by_cases c1 : a < 0
    · exact Ev.ifPos c1 hj
    refine Ev.ifNeg c1 ?_
    by_cases c2 : a ≥ (l.length : Int)
    · exact Ev.ifPos c2 hj
    refine Ev.ifNeg c2 ?_
    by_cases c3 : b < 0
    · exact Ev.ifPos c3 hj
    refine Ev.ifNeg c3 ?_
    by_cases c4 : b ≥ (l.length : Int)
    · exact Ev.ifPos c4 hj
    refine Ev.ifNeg c4 ?_
    by_cases c5 : a = b
    · exact Ev.ifPos c5 hj
    refine Ev.ifNeg c5 (Ev.ifPos (by omega) (Ev.ifPos (by omega) (Ev.ifPos (by omega) (Ev.ifPos (by omega) ?_))))
    have ha := rd_in l hw a (by omega) (by omega)
    have hb := rd_in l hw b (by omega) (by omega)
    rw [w_in (by omega) (by omega), decide_eq_true (show rd l a + rd l b > 9 by
      rcases Int.lt_or_le 9 (rd l a + rd l b) with h' | h'
      · exact h'
      · have := (okM_iff l a b).2 ⟨hw, by omega, by omega, by omega, by omega, c5, h'⟩
        rw [h] at this
        cases this)]
    exact hj
theorem Merged_ev (l : List Int) (a b : Int) (hl : l.length < 4611686018427387904) : Ev (fun k => comfitref04_Merged.f k l a b) (okM l a b) := by
  unfold comfitref04_Merged.f
  refine Ev.bind (Weights_ev l hl) ?_
  unfold okM
  cases hw : okW l with
  | false => exact Ev.ifNeg (by simp) (Ev.const rfl)
  | true =>
    refine Ev.ifPos rfl ?_
    by_cases c1 : a ≥ 0
    case neg => exact Ev.ifNeg c1 (Ev.const (by rw [decide_eq_false (show ¬ 0 ≤ a from c1)]; rfl))
    refine Ev.ifPos c1 ?_
    rw [decide_eq_true (show 0 ≤ a from c1)]
    by_cases c2 : a < (l.length : Int)
    case neg => exact Ev.ifNeg c2 (Ev.const (by rw [decide_eq_false c2]; rfl))
    refine Ev.ifPos c2 ?_
    rw [decide_eq_true c2]
    by_cases c3 : b ≥ 0
    case neg => exact Ev.ifNeg c3 (Ev.const (by rw [decide_eq_false (show ¬ 0 ≤ b from c3)]; rfl))
    refine Ev.ifPos c3 ?_
    rw [decide_eq_true (show 0 ≤ b from c3)]
    by_cases c4 : b < (l.length : Int)
    case neg => exact Ev.ifNeg c4 (Ev.const (by rw [decide_eq_false c4]; rfl))
    refine Ev.ifPos c4 ?_
    rw [decide_eq_true c4]
    by_cases c5 : a = b
    case pos => exact Ev.ifPos c5 (Ev.const (by rw [decide_eq_false (show ¬ a ≠ b from fun h => h c5)]; rfl))
    refine Ev.ifNeg c5 (Ev.ifPos c1 (Ev.ifPos c3 (Ev.const ?_)))
    have ha := rd_in l hw a (by omega) (by omega)
    have hb := rd_in l hw b (by omega) (by omega)
    rw [decide_eq_true (show a ≠ b from c5), w_in (by omega) (by omega)]
    rfl

end Go.Proofs.Ytigmhomfadimnaa.Pure
