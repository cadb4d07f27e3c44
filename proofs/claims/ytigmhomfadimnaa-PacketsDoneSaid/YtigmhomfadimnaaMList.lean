/- Plain laws of packets' statements: the list that is asked, and that the program is awake. -/
import Derived.Test.YtigmhomfadimnaaMSet
import Derived.Test.YtigmhomfadimnaaXcomfitlaw04list
import Derived.Test.YtigmhomfadimnaaXcomfitlaw04awake
set_option linter.unusedVariables false
set_option linter.unusedSimpArgs false
namespace Go.Proofs.Ytigmhomfadimnaa.Pure
open Go.RowKit Go.Proofs.Ytigmhomfadimnaa.X Go.Proofs.YtigmhomfadimnaaW.PrintWords Go.Proofs.YtigmhomfadimnaaW.PrintLast Go.Proofs.YtigmhomfadimnaaW.PrintMore

theorem list_ok (l : List Int) : comfitlaw04_list.f l = some (l.take 8) := by
  have e : (mn (l.length : Int) 8).toNat = min l.length 8 := by unfold mn; split <;> omega
  have h0 : 0 ≤ mn (l.length : Int) 8 := by unfold mn; split <;> omega
  have h1 : mn (l.length : Int) 8 ≤ (l.length : Int) := by unfold mn; split <;> omega
  have e2 : l.take (min l.length 8) = l.take 8 := by
    by_cases h : l.length ≤ 8
    · rw [Nat.min_eq_left h, List.take_length, List.take_of_length_le h]
    · rw [Nat.min_eq_right (by omega)]
  unfold comfitlaw04_list.f slices_Clone_int_int.f
  rw [if_pos h0, if_pos h1, e, e2]
  have h3 : (l.take 8).length ≤ 8 := by rw [List.length_take]; omega
  simp only [Option.bind_some, List.length_nil, Nat.zero_add, List.nil_append]
  rw [if_pos (by omega)]
  rfl
theorem okW_take (l : List Int) : okW (l.take 8) = okW l := by
  by_cases h : l.length ≤ 8
  · rw [List.take_of_length_le h]
  · have h3 : (l.take 8).length = 8 := by rw [List.length_take]; omega
    rw [Bool.eq_iff_iff, okW_iff, okW_iff]
    constructor <;> intro h' <;> omega
theorem take_ok (l : List Int) (h : okW l = true) : l.take 8 = l := by
  rw [okW_iff] at h
  exact List.take_of_length_le (by omega)
theorem awake_ev : Ev (fun k => comfitlaw04_awake.f k) true := Ev.of (fun k => comfitlaw04_awake.mono k) 100 (by decide +kernel)

end Go.Proofs.Ytigmhomfadimnaa.Pure
