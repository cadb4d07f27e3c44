/- Plain laws of tapes: a step of the program and of the reference. -/
import Derived.Test.YtjmbjnobbeflfaaDoorQMBase
import Derived.Test.YtjmbjnobbeflfaaDoorQXRC
import Derived.Test.YtjmbjnobbeflfaaDoorQXE
import Derived.Test.YtjmbjnobbeflfaaDoorQHRun
set_option linter.unusedVariables false
set_option linter.unusedSimpArgs false
namespace Go.Proofs.YtjmbjnobbeflfaaDoor.Pure
open Go.RowKit Go.Proofs.YtjmbjnobbeflfaaDoor.X Go.Proofs.YtjmbjnobbeflfaaDoorW.PrintWords Go.Proofs.YtjmbjnobbeflfaaDoorW.PrintLast Go.Proofs.YtjmbjnobbeflfaaDoorW.PrintMore
theorem awake_ev : Ev (fun k => comfitlaw06_awake.f k) true := Ev.of comfitlaw06_awake.mono 10 (by decide +kernel)
theorem awake_bind : Ev (fun k => (comfitlaw06_awake.f k).bind fun t => (some t)) true := Ev.bind awake_ev (Ev.const rfl)
theorem cat_data (a b : ByteArray) : (a ++ b).data.toList = a.data.toList ++ b.data.toList := by
  rw [ByteArray.data_append, Array.toList_append]
theorem cut_data (a : ByteArray) (c : Nat) : (a.extract c a.size).data.toList = a.data.toList.drop c := by
  rw [ByteArray.data_extract, Array.toList_extract]
  have : a.data.toList.length = a.size := by rw [Array.length_toList]; rfl
  simp [List.extract]
  rw [List.take_of_length_le (by rw [List.length_drop]; omega)]
theorem ba_ext {a b : ByteArray} (h : a.data.toList = b.data.toList) : a = b := by
  cases a; cases b
  simp only [ByteArray.mk.injEq]
  exact Array.toList_inj.mp h
theorem cut_cat (a b : ByteArray) (c : Nat) (h : c ≤ a.size) : (a ++ b).extract c (a ++ b).size = (a.extract c a.size) ++ b := by
  apply ba_ext
  rw [cut_data, cat_data, cat_data, cut_data]
  have : a.data.toList.length = a.size := by rw [Array.length_toList]; rfl
  rw [List.drop_append_of_le_length (by omega)]
/-- The string that a letter stands for. -/
def strT (s0 s1 s2 s3 : ByteArray) (b : Int) : ByteArray := if b = 97 then s0 else if b = 98 then s1 else if b = 99 then s2 else s3
def nextT (c : Int) (s0 s1 s2 s3 t : ByteArray) : ByteArray := (t.extract c.toNat t.size) ++ strT s0 s1 s2 s3 (bt t 0)
structure Cuts (c : Int) (s0 s1 s2 s3 : ByteArray) : Prop where
  c1 : 1 ≤ c
  c3 : c ≤ 3
  four : fourB s0 s1 s2 s3 = true
theorem bt_let {t : ByteArray} (h : t.data.toList.all letB = true) (h0 : 0 < t.size) : 97 ≤ bt t 0 ∧ bt t 0 ≤ 100 := by
  have hl : t.data.toList.length = t.size := by rw [Array.length_toList]; rfl
  have hx := List.all_eq_true.mp h (t.data.toList[0]'(by omega)) (List.getElem_mem _)
  have hb : bt t 0 = ((t.data.toList[0]'(by omega)).toNat : Int) := by
    unfold bt
    rw [dif_pos (by simpa using h0)]
    rfl
  unfold letB at hx
  rw [Bool.and_eq_true, decide_eq_true_eq, decide_eq_true_eq] at hx
  omega
theorem letB_size {s : ByteArray} {n : Int} (h : lettersB s n = true) : (s.size : Int) ≤ n := by
  unfold lettersB at h
  rw [Bool.and_eq_true, decide_eq_true_eq] at h
  exact h.2
theorem letB_all {s : ByteArray} {n : Int} (h : lettersB s n = true) : s.data.toList.all letB = true := by
  unfold lettersB at h
  rw [Bool.and_eq_true] at h
  exact h.1
theorem Cuts.of {c : Int} {s0 s1 s2 s3 t : ByteArray} (h : cutB c s0 s1 s2 s3 t = true) : Cuts c s0 s1 s2 s3 ∧ lettersB t 200 = true := by
  unfold cutB at h
  simp only [Bool.and_eq_true, decide_eq_true_eq] at h
  exact ⟨⟨h.2.1, h.2.2.1, h.1⟩, h.2.2.2⟩
theorem Cuts.str {c : Int} {s0 s1 s2 s3 : ByteArray} (h : Cuts c s0 s1 s2 s3) (b : Int) : lettersB (strT s0 s1 s2 s3 b) 4 = true := by
  have hf := h.four
  unfold fourB at hf
  simp only [Bool.and_eq_true] at hf
  unfold strT
  split
  · exact hf.1
  · split
    · exact hf.2.1
    · split
      · exact hf.2.2.1
      · exact hf.2.2.2
theorem next_let {c : Int} {s0 s1 s2 s3 t : ByteArray} (h : Cuts c s0 s1 s2 s3) (ht : lettersB t 200 = true) (hn : ¬ ((nextT c s0 s1 s2 s3 t).size : Int) > 200) : lettersB (nextT c s0 s1 s2 s3 t) 200 = true := by
  unfold lettersB
  rw [Bool.and_eq_true]
  refine ⟨?_, decide_eq_true (by omega)⟩
  unfold nextT
  rw [cat_data, cut_data, List.all_append, Bool.and_eq_true]
  refine ⟨?_, letB_all (h.str _)⟩
  rw [List.all_eq_true]
  intro x hx
  exact List.all_eq_true.mp (letB_all ht) x (List.mem_of_mem_drop hx)
theorem step_ok {c : Int} {s0 s1 s2 s3 t : ByteArray} (h : Cuts c s0 s1 s2 s3) (ht : lettersB t 200 = true) :
    tags_cutter_step.f c s0 s1 s2 s3 t = some (if (t.size : Int) < c then (t, 4) else if ((nextT c s0 s1 s2 s3 t).size : Int) > 200 then (noT, 6) else (nextT c s0 s1 s2 s3 t, 0)) := by
  unfold tags_cutter_step.f
  by_cases hc : (t.size : Int) < c
  · rw [if_pos hc, if_pos hc]
  · have h1 := h.c1
    have h3 := h.c3
    have hsz := letB_size ht
    obtain ⟨b1, b2⟩ := bt_let (letB_all ht) (by omega)
    rw [if_neg hc, if_neg hc, if_pos (by omega)]
    have key : ∀ s : ByteArray, lettersB s 4 = true → (if t.size + s.size ≤ 9223372036854775807 then (if 0 ≤ c then (if c ≤ ((t ++ s).size : Int) then (if (((t ++ s).extract (c : Int).toNat (t ++ s).size).size : Int) > 200 then (some ((⟨#[]⟩ : ByteArray), (6 : Int))) else (some ((t ++ s).extract (c : Int).toNat (t ++ s).size, 0))) else (none)) else (none)) else (none)) = some (if (((t.extract c.toNat t.size) ++ s).size : Int) > 200 then (noT, 6) else ((t.extract c.toNat t.size) ++ s, 0)) := by
      intro s hs
      have := letB_size hs
      have hsum : (t ++ s).size = t.size + s.size := ByteArray.size_append
      rw [if_pos (by omega), if_pos (by omega), if_pos (by omega), cut_cat t s c.toNat (by omega)]
      unfold noT
      split <;> rfl
    have hs := h.str
    unfold nextT
    unfold strT at hs ⊢
    have hb : bt t 0 = 97 ∨ bt t 0 = 98 ∨ bt t 0 = 99 ∨ bt t 0 = 100 := by omega
    rcases hb with e | e | e | e
    · rw [e, if_pos (show ((97 : Int) - 97) % 256 = 0 by decide), if_pos (show (97 : Int) = 97 from rfl)]; exact key s0 (by simpa using hs 97)
    · rw [e, if_neg (show ¬ ((98 : Int) - 97) % 256 = 0 by decide), if_pos (show ((98 : Int) - 97) % 256 = 1 by decide), if_neg (show ¬ (98 : Int) = 97 by decide), if_pos (show (98 : Int) = 98 from rfl)]; exact key s1 (by simpa using hs 98)
    · rw [e, if_neg (show ¬ ((99 : Int) - 97) % 256 = 0 by decide), if_neg (show ¬ ((99 : Int) - 97) % 256 = 1 by decide), if_pos (show ((99 : Int) - 97) % 256 = 2 by decide), if_neg (show ¬ (99 : Int) = 97 by decide), if_neg (show ¬ (99 : Int) = 98 by decide), if_pos (show (99 : Int) = 99 from rfl)]; exact key s2 (by simpa using hs 99)
    · rw [e, if_neg (show ¬ ((100 : Int) - 97) % 256 = 0 by decide), if_neg (show ¬ ((100 : Int) - 97) % 256 = 1 by decide), if_neg (show ¬ ((100 : Int) - 97) % 256 = 2 by decide), if_pos (show ((100 : Int) - 97) % 256 = 3 by decide), if_neg (show ¬ (100 : Int) = 97 by decide), if_neg (show ¬ (100 : Int) = 98 by decide), if_neg (show ¬ (100 : Int) = 99 by decide)]; exact key s3 (by simpa using hs 100)
theorem ref_step {c : Int} {s0 s1 s2 s3 t : ByteArray} (h : Cuts c s0 s1 s2 s3) (ht : lettersB t 200 = true) :
    comfitref06_Cut.f c s0 s1 s2 s3 t = some (if (t.size : Int) < c then (noT, 4) else if ((nextT c s0 s1 s2 s3 t).size : Int) > 200 then (noT, 6) else (nextT c s0 s1 s2 s3 t, 0)) := by
  unfold comfitref06_Cut.f
  by_cases hc : (t.size : Int) < c
  · rw [if_pos hc, if_pos hc]; rfl
  · have h1 := h.c1
    have h3 := h.c3
    have hsz := letB_size ht
    obtain ⟨b1, b2⟩ := bt_let (letB_all ht) (by omega)
    rw [if_neg hc, if_neg hc, if_pos (by omega), if_pos (by omega), if_pos (by omega)]
    have key : ∀ s : ByteArray, lettersB s 4 = true → (if (t.extract (c : Int).toNat t.size).size + s.size ≤ 9223372036854775807 then (if (((t.extract (c : Int).toNat t.size) ++ s).size : Int) > 200 then (some ((⟨#[]⟩ : ByteArray), (6 : Int))) else (some ((t.extract (c : Int).toNat t.size) ++ s, 0))) else (none)) = some (if (((t.extract c.toNat t.size) ++ s).size : Int) > 200 then (noT, 6) else ((t.extract c.toNat t.size) ++ s, 0)) := by
      intro s hs
      have := letB_size hs
      have he : (t.extract c.toNat t.size).size ≤ t.size := by rw [ByteArray.size_extract]; omega
      rw [if_pos (by omega)]
      unfold noT
      split <;> rfl
    have hs := h.str
    unfold nextT
    unfold strT at hs ⊢
    have hb : bt t 0 = 97 ∨ bt t 0 = 98 ∨ bt t 0 = 99 ∨ bt t 0 = 100 := by omega
    rcases hb with e | e | e | e
    · rw [e, if_pos (show ((97 : Int) - 97) % 256 = 0 by decide), if_pos (show (97 : Int) = 97 from rfl)]; exact key s0 (by simpa using hs 97)
    · rw [e, if_neg (show ¬ ((98 : Int) - 97) % 256 = 0 by decide), if_pos (show ((98 : Int) - 97) % 256 = 1 by decide), if_neg (show ¬ (98 : Int) = 97 by decide), if_pos (show (98 : Int) = 98 from rfl)]; exact key s1 (by simpa using hs 98)
    · rw [e, if_neg (show ¬ ((99 : Int) - 97) % 256 = 0 by decide), if_neg (show ¬ ((99 : Int) - 97) % 256 = 1 by decide), if_pos (show ((99 : Int) - 97) % 256 = 2 by decide), if_neg (show ¬ (99 : Int) = 97 by decide), if_neg (show ¬ (99 : Int) = 98 by decide), if_pos (show (99 : Int) = 99 from rfl)]; exact key s2 (by simpa using hs 99)
    · rw [e, if_neg (show ¬ ((100 : Int) - 97) % 256 = 0 by decide), if_neg (show ¬ ((100 : Int) - 97) % 256 = 1 by decide), if_neg (show ¬ ((100 : Int) - 97) % 256 = 2 by decide), if_pos (show ((100 : Int) - 97) % 256 = 3 by decide), if_neg (show ¬ (100 : Int) = 97 by decide), if_neg (show ¬ (100 : Int) = 98 by decide), if_neg (show ¬ (100 : Int) = 99 by decide)]; exact key s3 (by simpa using hs 100)
end Go.Proofs.YtjmbjnobbeflfaaDoor.Pure
