/- Plain laws of Pairs: for all weights of at most three kinds the table is there (reckoned by the kernel), and what more is wanted the longer it takes. -/
import Derived.Test.YtigmhomfadimnaaQMPairs
set_option linter.unusedVariables false
set_option linter.unusedSimpArgs false
namespace Go.Proofs.Ytigmhomfadimnaa.Pure
open Go.RowKit Go.Proofs.Ytigmhomfadimnaa.X Go.Proofs.YtigmhomfadimnaaW.PrintWords Go.Proofs.YtigmhomfadimnaaW.PrintLast Go.Proofs.YtigmhomfadimnaaW.PrintMore
/-- What Pairs tells of a set that is wanted twice. -/
def vT (l : List Nat) (T : List (Nat × Nat)) (s : Nat) : Nat × Nat := T.getD (need (2 ^ l.length - 1) s) (0, 0)
def okT (l : List Nat) (T : List (Nat × Nat)) : Bool :=
  (packets_Mean.f 100 (cl l) (2 ^ l.length - 1) == some (((vT l T 0).1 : Int), ((vT l T 0).2 : Int), 0)) && (List.range (2 ^ l.length)).all fun s => decide (1 ≤ (vT l T s).2) && decide ((vT l T s).1 ≤ 400 * (vT l T s).2) && decide ((vT l T s).1 < 9223372036854775808) && decide ((vT l T s).2 < 9223372036854775808) && decide ((vT l T 0).1 * (vT l T s).2 ≤ (vT l T s).1 * (vT l T 0).2) &&
    (List.range l.length).all fun i => decide (s / 2 ^ i % 2 = 1) || decide ((vT l T s).1 * (vT l T (s + 2 ^ i)).2 < (vT l T (s + 2 ^ i)).1 * (vT l T s).2)
def chk (l : List Nat) : Bool := match tabN l (3 ^ l.length) with
  | none => false
  | some T => okT l T
def all9 : List Nat := [1, 2, 3, 4, 5, 6, 7, 8, 9]
theorem chk1 : all9.all (fun x => chk [x]) = true := by decide +kernel
theorem chk2 : all9.all (fun x => all9.all fun y => chk [x, y]) = true := by decide +kernel
theorem chk31 : all9.all (fun y => all9.all fun z => chk [1, y, z]) = true := by decide +kernel
theorem chk32 : all9.all (fun y => all9.all fun z => chk [2, y, z]) = true := by decide +kernel
theorem chk33 : all9.all (fun y => all9.all fun z => chk [3, y, z]) = true := by decide +kernel
theorem chk34 : all9.all (fun y => all9.all fun z => chk [4, y, z]) = true := by decide +kernel
theorem chk35 : all9.all (fun y => all9.all fun z => chk [5, y, z]) = true := by decide +kernel
theorem chk36 : all9.all (fun y => all9.all fun z => chk [6, y, z]) = true := by decide +kernel
theorem chk37 : all9.all (fun y => all9.all fun z => chk [7, y, z]) = true := by decide +kernel
theorem chk38 : all9.all (fun y => all9.all fun z => chk [8, y, z]) = true := by decide +kernel
theorem chk39 : all9.all (fun y => all9.all fun z => chk [9, y, z]) = true := by decide +kernel
theorem in9 {x : Nat} (h1 : 1 ≤ x) (h9 : x ≤ 9) : x ∈ all9 := by
  have : x = 1 ∨ x = 2 ∨ x = 3 ∨ x = 4 ∨ x = 5 ∨ x = 6 ∨ x = 7 ∨ x = 8 ∨ x = 9 := by omega
  rcases this with e | e | e | e | e | e | e | e | e <;> rw [e] <;> decide
theorem chk_all {l : List Nat} (h : Small l) : chk l = true := by
  have h0 := h.len0
  have h3 := h.len
  have ho := h.one
  have hn := h.nine
  match l, h0, h3 with
  | [x], _, _ => exact List.all_eq_true.mp chk1 x (in9 (ho x (by simp)) (hn x (by simp)))
  | [x, y], _, _ => exact List.all_eq_true.mp (List.all_eq_true.mp chk2 x (in9 (ho x (by simp)) (hn x (by simp)))) y (in9 (ho y (by simp)) (hn y (by simp)))
  | [x, y, z], _, _ =>
    have hx1 := ho x (by simp)
    have hx9 := hn x (by simp)
    have hy := in9 (ho y (by simp)) (hn y (by simp))
    have hz := in9 (ho z (by simp)) (hn z (by simp))
    have : x = 1 ∨ x = 2 ∨ x = 3 ∨ x = 4 ∨ x = 5 ∨ x = 6 ∨ x = 7 ∨ x = 8 ∨ x = 9 := by omega
    rcases this with e | e | e | e | e | e | e | e | e
    · rw [e]; exact List.all_eq_true.mp (List.all_eq_true.mp chk31 y hy) z hz
    · rw [e]; exact List.all_eq_true.mp (List.all_eq_true.mp chk32 y hy) z hz
    · rw [e]; exact List.all_eq_true.mp (List.all_eq_true.mp chk33 y hy) z hz
    · rw [e]; exact List.all_eq_true.mp (List.all_eq_true.mp chk34 y hy) z hz
    · rw [e]; exact List.all_eq_true.mp (List.all_eq_true.mp chk35 y hy) z hz
    · rw [e]; exact List.all_eq_true.mp (List.all_eq_true.mp chk36 y hy) z hz
    · rw [e]; exact List.all_eq_true.mp (List.all_eq_true.mp chk37 y hy) z hz
    · rw [e]; exact List.all_eq_true.mp (List.all_eq_true.mp chk38 y hy) z hz
    · rw [e]; exact List.all_eq_true.mp (List.all_eq_true.mp chk39 y hy) z hz
theorem tab_of {l : List Nat} (h : Small l) : ∃ T, tabN l (3 ^ l.length) = some T ∧ okT l T = true := by
  have hc := chk_all h
  unfold chk at hc
  split at hc
  · cases hc
  · exact ⟨_, by assumption, hc⟩
theorem small_of {l : List Int} (h : okW l = true) (h3 : l.length ≤ 3) : ∃ ln : List Nat, Small ln ∧ l = cl ln := by
  obtain ⟨h1, -, hk⟩ := (okW_iff l).1 h
  refine ⟨l.map Int.toNat, ⟨by simpa using h1, by simpa using h3, ?_, ?_⟩, ?_⟩
  · intro x hx
    obtain ⟨y, hy, rfl⟩ := List.mem_map.mp hx
    have := hk y hy
    omega
  · intro x hx
    obtain ⟨y, hy, rfl⟩ := List.mem_map.mp hx
    have := hk y hy
    omega
  · unfold cl
    rw [List.map_map]
    refine (List.map_id l).symm.trans (List.map_congr_left fun y hy => ?_)
    have := hk y hy
    show y = ((y.toNat : Nat) : Int)
    omega
end Go.Proofs.Ytigmhomfadimnaa.Pure
