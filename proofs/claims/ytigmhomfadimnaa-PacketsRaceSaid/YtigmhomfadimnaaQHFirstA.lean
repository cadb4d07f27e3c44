/- The closure that packets.First calls, told as a function on numbers. -/
import Derived.Test.YtigmhomfadimnaaQHPairsB
set_option linter.unusedVariables false
set_option linter.unusedSimpArgs false
namespace Go.Proofs.Ytigmhomfadimnaa.X
open Go.RowKit Go.Proofs.YtigmhomfadimnaaW.PrintWords Go.Proofs.YtigmhomfadimnaaW.PrintLast Go.Proofs.YtigmhomfadimnaaW.PrintMore
open Go.Maps
mutual
def packets_First1.l0 : Nat → List Int → Int → Int → Int → Int → Int → Int → Option (Int × Int)
 | 0, _, _, _, _, _, _, _ => none
 | k + 1, l, a, b, c, i, s1, s2 => if i < (l.length : Int) then (if Go.bits .and .i64 (shr .i64 (Go.bits .andNot .i64 (Go.bits .or .i64 a b) c) i) 1 = 1 then ((packets_weights_of.f k l (Go.bits .andNot .i64 (Go.bits .or .i64 a b) c)).bind fun x => ((packets_frac.f k (rd l i) x).bind fun y => ((packets_First1.f k l a b (Go.bits .or .i64 c (shl .i64 1 i))).bind fun z => ((packets_times.f k y.1 y.2 z.1 z.2).bind fun u => ((packets_plus.f k s1 s2 u.1 u.2).bind fun v => (packets_First1.l0 k l a b c (i + 1) v.1 v.2)))))) else (packets_First1.l0 k l a b c (i + 1) s1 s2)) else (some (s1, s2))
def packets_First1.f : Nat → List Int → Int → Int → Int → Option (Int × Int)
 | 0, _, _, _, _ => none
 | k + 1, l, a, b, c => if Go.bits .andNot .i64 b c = 0 then (some (0, 1)) else (if Go.bits .andNot .i64 a c = 0 then (some (1, 1)) else (packets_First1.l0 k l a b c 0 0 1))
end
theorem packets_First1.mono_l : ∀ k, (∀ y0 y1 y2 y3 y4 y5 y6, LeO (packets_First1.l0 k y0 y1 y2 y3 y4 y5 y6) (packets_First1.l0 (k + 1) y0 y1 y2 y3 y4 y5 y6)) ∧ (∀ y0 y1 y2 y3, LeO (packets_First1.f k y0 y1 y2 y3) (packets_First1.f (k + 1) y0 y1 y2 y3))
 | 0 => ⟨fun _ _ _ _ _ _ _ r h => by simp [packets_First1.l0] at h, fun _ _ _ _ r h => by simp [packets_First1.f] at h⟩
 | k + 1 => by
  obtain ⟨ih0, ih1⟩ := packets_First1.mono_l k
  refine ⟨?_, ?_⟩
  ·intro y0 y1 y2 y3 y4 y5 y6
   unfold packets_First1.l0
   repeat' first
   | (with_reducible exact ih0 _ _ _ _ _ _ _)
   | (with_reducible exact ih1 _ _ _ _)
   | (with_reducible exact packets_weights_of.mono _ _ _)
   | (with_reducible exact packets_frac.mono _ _ _)
   | (with_reducible exact packets_times.mono _ _ _ _ _)
   | (with_reducible exact packets_plus.mono _ _ _ _ _)
   | (with_reducible exact LeO.refl _)
   | (with_reducible exact LeO.none _)
   | (with_reducible refine LeO.ite ?_ ?_)
   | (with_reducible refine LeO.bind ?_ (fun _ => ?_))
  ·intro y0 y1 y2 y3
   unfold packets_First1.f
   repeat' first
   | (with_reducible exact ih0 _ _ _ _ _ _ _)
   | (with_reducible exact LeO.refl _)
   | (with_reducible refine LeO.ite ?_ ?_)
theorem packets_First1.mono : ∀ a0 a1 a2 a3 k, LeO (packets_First1.f k a0 a1 a2 a3) (packets_First1.f (k + 1) a0 a1 a2 a3) := fun a0 a1 a2 a3 k => (packets_First1.mono_l k).2 a0 a1 a2 a3
theorem First1_le {l : List Int} {a b c : Int} {k m : Nat} (h : k ≤ m) {r : Int × Int} (hr : packets_First1.f k l a b c = some r) : packets_First1.f m l a b c = some r := by
  obtain ⟨d, rfl⟩ : ∃ d, m = k + d := ⟨m - k, by omega⟩
  clear h
  induction d with
  | zero => exact hr
  | succ d ih => exact packets_First1.mono _ _ _ _ _ _ ih
theorem First1_det {l : List Int} {a b c : Int} {k m : Nat} {r s : Int × Int} (hr : packets_First1.f k l a b c = some r) (hs : packets_First1.f m l a b c = some s) : r = s := by
  have h1 := First1_le (Nat.le_max_left k m) hr
  have h2 := First1_le (Nat.le_max_right k m) hs
  exact Option.some.inj (h1.symm.trans h2)
/-- How many of six kinds have not come. -/
def pz (c : Nat) : Nat := 6 - (c % 2 + c / 2 % 2 + c / 4 % 2 + c / 8 % 2 + c / 16 % 2 + c / 32 % 2)
def factF (m c i : Nat) : Bool :=
  (Go.bits .and .i64 (shr .i64 (Go.bits .andNot .i64 (m : Int) (c : Int)) (i : Int)) 1 != 1) ||
  (decide (c / 2 ^ i % 2 = 0) && (Go.bits .or .i64 (c : Int) (shl .i64 1 (i : Int)) == ((c + 2 ^ i : Nat) : Int)) && decide (c + 2 ^ i < 64) && decide (pz (c + 2 ^ i) + 1 = pz c))
theorem factF_all : (List.range 64).all (fun m => (List.range 64).all fun c => (List.range 6).all fun i => factF m c i) = true := by decide +kernel
theorem factF_at {m c i : Nat} (hm : m < 64) (hc : c < 64) (hi : i < 6) (hb : Go.bits .and .i64 (shr .i64 (Go.bits .andNot .i64 (m : Int) (c : Int)) (i : Int)) 1 = 1) :
    Go.bits .or .i64 (c : Int) (shl .i64 1 (i : Int)) = ((c + 2 ^ i : Nat) : Int) ∧ c + 2 ^ i < 64 ∧ pz (c + 2 ^ i) + 1 = pz c := by
  have h := List.all_eq_true.mp (List.all_eq_true.mp (List.all_eq_true.mp factF_all m (by simpa using hm)) c (by simpa using hc)) i (by simpa using hi)
  unfold factF at h
  rw [hb] at h
  simp only [bne_self_eq_false, Bool.false_or, Bool.and_eq_true, decide_eq_true_eq, beq_iff_eq] at h
  exact ⟨h.1.1.2, h.1.2, h.2⟩
theorem orF_all : (List.range 64).all (fun a => (List.range 64).all fun b => decide (0 ≤ Go.bits .or .i64 (a : Int) (b : Int)) && decide (Go.bits .or .i64 (a : Int) (b : Int) < 64)) = true := by decide +kernel
theorem orF {a b : Nat} (ha : a < 64) (hb : b < 64) : ∃ m : Nat, Go.bits .or .i64 (a : Int) (b : Int) = (m : Int) ∧ m < 64 := by
  have h := List.all_eq_true.mp (List.all_eq_true.mp orF_all a (by simpa using ha)) b (by simpa using hb)
  rw [Bool.and_eq_true, decide_eq_true_eq, decide_eq_true_eq] at h
  exact ⟨_, (Int.toNat_of_nonneg h.1).symm, by omega⟩
def keyF (c : Nat) : Lit := .int .i64 (c : Int)
theorem lawF : Keyed Try.prog 3 := int_keyed Try.underlying3
theorem keyOfF (c : Nat) (hc : c < 64) : keyOf Try.prog 3 (.int .i64 (c : Int)) = some (keyF c) := keyOf_int_mk Try.underlying3 (WalkArith.wf_i64 (by omega))
structure MemoF (l : List Int) (a b : Int) (D : DataW Unit) : Prop where
  isMap : IsMap D
  at_ : ∀ c : Nat, c < 64 → has D (keyF c) = true → ∃ k n d, packets_First1.f k l a b (c : Int) = some (n, d) ∧ D.atKey (keyF c) (frD 0 0) = frD n d
theorem MemoF.start (l : List Int) (a b : Int) : MemoF l a b (.map []) := ⟨⟨[], rfl⟩, fun c _ h => by cases h⟩
theorem MemoF.put {l : List Int} {a b : Int} {D : DataW Unit} (h : MemoF l a b D) {k : Nat} {c : Nat} (hc : c < 64) {n d : Int} (hf : packets_First1.f k l a b (c : Int) = some (n, d)) : MemoF l a b (D.put (keyF c) (frD n d)) := by
  refine ⟨?_, fun c' hc' hh => ?_⟩
  · obtain ⟨es, rfl⟩ := h.isMap
    exact ⟨_, rfl⟩
  · by_cases e : c' = c
    · subst e
      exact ⟨k, n, d, hf, by rw [atKey_put_same h.isMap (by trivial)]⟩
    · have hne : keyF c' ≠ keyF c := fun e2 => by unfold keyF at e2; injection e2 with _ e2; omega
      rw [has_put_other hne] at hh
      rw [atKey_put_other hne]
      exact h.at_ c' hc' hh
end Go.Proofs.Ytigmhomfadimnaa.X
