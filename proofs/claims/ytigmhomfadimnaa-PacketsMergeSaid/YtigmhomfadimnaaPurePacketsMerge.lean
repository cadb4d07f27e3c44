/- PacketsMerge: the program sets one weight and cuts the other out, the reference builds the list anew. -/
import Derived.Test.YtigmhomfadimnaaXcomfitlaw04PacketsMerge
import Derived.Test.YtigmhomfadimnaaMMerge
set_option linter.unusedVariables false
set_option linter.unusedSimpArgs false
namespace Go.Proofs.Ytigmhomfadimnaa.Pure
open Go.RowKit Go.Proofs.Ytigmhomfadimnaa.X Go.Proofs.YtigmhomfadimnaaW.PrintWords Go.Proofs.YtigmhomfadimnaaW.PrintLast Go.Proofs.YtigmhomfadimnaaW.PrintMore

theorem getD_set (l : List Int) (a i : Nat) (v : Int) (ha : a < l.length) : (l.set a v).getD i 0 = if i = a then v else l.getD i 0 := by
  by_cases h : i = a
  · subst h; simp [ha]
  · simp [h, List.getD, List.getElem?_set_ne (Ne.symm h)]
theorem refMerge_go (l : List Int) (a b : Nat) (ha : a < l.length) (hb : b < l.length) (hl : l.length ≤ 6) (hr : ∀ i : Nat, i < l.length → 1 ≤ rd l i ∧ rd l i ≤ 9) : ∀ (d i : Nat), i + d = l.length → ∀ acc : List Int, acc.length ≤ i →
    Ev (fun k => comfitref04_Merge.l0 k l a b acc l (l.length : Int) (i : Int)) (acc ++ (if i ≤ b then ((l.set a (rd l (a : Int) + rd l (b : Int))).drop i).eraseIdx (b - i) else (l.set a (rd l (a : Int) + rd l (b : Int))).drop i)) := by
  intro d
  induction d with
  | zero =>
    intro i hi acc hacc
    refine Ev.succ (g := fun _ => some acc) (Ev.const ?_) (fun k => by rw [comfitref04_Merge.l0, if_neg (by omega)])
    rw [if_neg (by omega), List.drop_of_length_le (by rw [List.length_set]; omega)]
    simp
  | succ d ih =>
    intro i hi acc hacc
    have hri := hr i (by omega)
    have hrb := hr b hb
    have e1 : wrap64 ((i : Int) + 1) = ((i + 1 : Nat) : Int) := by rw [w_in (by omega) (by omega)]; push_cast; rfl
    have hdrop : (l.set a (rd l (a : Int) + rd l (b : Int))).drop i = (if i = a then rd l a + rd l b else rd l i) :: (l.set a (rd l (a : Int) + rd l (b : Int))).drop (i + 1) := by
      rw [rd_drop _ i (by rw [List.length_set]; omega)]
      congr 1
      show (l.set a _).getD (i : Int).toNat 0 = _
      rw [Int.toNat_natCast, getD_set _ _ _ _ ha]
      split
      · rename_i h; rfl
      · simp [rd]
    have hstep : ∀ v : Int, v = (if i = a then rd l a + rd l b else rd l i) → Ev (fun k => comfitref04_Merge.j1 k l a b acc (i : Int) v l (l.length : Int) (i : Int)) (acc ++ (if i ≤ b then ((l.set a (rd l (a : Int) + rd l (b : Int))).drop i).eraseIdx (b - i) else (l.set a (rd l (a : Int) + rd l (b : Int))).drop i)) := by
      intro v hv
      by_cases hib : i = b
      · refine Ev.succ (g := fun k => comfitref04_Merge.l0 k l a b acc l (l.length : Int) ((i + 1 : Nat) : Int)) ((ih (i + 1) (by omega) acc (by omega)).cast ?_) (fun k => by rw [comfitref04_Merge.j1, if_pos (by omega), e1])
        rw [if_neg (by omega), if_pos (by omega), hdrop, hib, Nat.sub_self, List.eraseIdx_cons_zero]
      · refine Ev.succ (g := fun k => comfitref04_Merge.l0 k l a b (acc ++ [v]) l (l.length : Int) ((i + 1 : Nat) : Int)) ((ih (i + 1) (by omega) (acc ++ [v]) (by simp; omega)).cast ?_) (fun k => by rw [comfitref04_Merge.j1, if_neg (by omega), if_pos (by omega), e1])
        rw [hdrop, ← hv, List.append_assoc, List.singleton_append]
        by_cases hle : i ≤ b
        · rw [if_pos (by omega), if_pos hle, show b - i = (b - (i + 1)) + 1 by omega, List.eraseIdx_cons_succ]
        · rw [if_neg (by omega), if_neg hle]
    by_cases hia : i = a
    · have := hstep (wrap64 (rd l a + rd l b)) (by rw [if_pos hia]; have := hr a ha; exact w_in (by omega) (by omega))
      refine Ev.succ this (fun k => ?_)
      rw [comfitref04_Merge.l0, if_pos (by omega), if_pos (by omega), if_pos (by omega), if_pos (by omega), if_pos (by omega), if_pos (by omega), hia]
    · have := hstep (rd l i) (by rw [if_neg hia])
      refine Ev.succ this (fun k => ?_)
      rw [comfitref04_Merge.l0, if_pos (by omega), if_pos (by omega), if_pos (by omega), if_neg (by omega)]
theorem refMerge_ev (l : List Int) (a b : Nat) (h : okM l a b = true) : Ev (fun k => comfitref04_Merge.f k l a b) (mg l a b) := by
  obtain ⟨hw, a0, a1, b0, b1, hab, hs⟩ := (okM_iff l a b).1 h
  have hk := (okW_iff l).1 hw
  have := refMerge_go l a b (by omega) (by omega) hk.2.1 (fun i hi => rd_in l hw i (by omega) (by omega)) l.length 0 (by omega) [] (by simp)
  unfold comfitref04_Merge.f
  simpa [mg] using this
theorem Equal_go (l : List Int) (hl : l.length < 1000000) : ∀ (d i : Nat), i + d = l.length → Ev (fun k => slices_Equal_int_int.l0 k l l (l.length : Int) (i : Int)) true := by
  intro d
  induction d with
  | zero => intro i hi; exact Ev.succ (g := fun _ => some true) (Ev.const rfl) (fun k => by rw [slices_Equal_int_int.l0, if_neg (by omega)])
  | succ d ih =>
    intro i hi
    refine Ev.succ (ih (i + 1) (by omega)) (fun k => ?_)
    rw [slices_Equal_int_int.l0, if_pos (by omega), if_pos (by omega), if_pos (by omega), if_pos (by omega), if_pos rfl, w_in (by omega) (by omega)]
    push_cast
    rfl
theorem Equal_ev (l : List Int) (hl : l.length < 1000000) : Ev (fun k => slices_Equal_int_int.f k l l) true := by
  unfold slices_Equal_int_int.f
  exact Ev.ifPos rfl (Equal_go l hl l.length 0 (by omega))
theorem PacketsMerge : comfitlaw04_PacketsMerge.Pure := by
  intro l a b _ hl _ _ _
  refine Ev.get ?_
  unfold comfitlaw04_PacketsMerge.f
  rw [list_ok]
  simp only [Option.bind_some]
  have hlen : l.length < 4611686018427387904 := by omega
  cases h : okM l a b with
  | true =>
    obtain ⟨hw, a0, a1, b0, b1, hab, hs⟩ := (okM_iff l a b).1 h
    have hk := (okW_iff l).1 hw
    obtain ⟨a, rfl⟩ := Int.eq_ofNat_of_zero_le a0
    obtain ⟨b, rfl⟩ := Int.eq_ofNat_of_zero_le b0
    rw [take_ok l hw]
    refine Ev.bind (Merge_ev l a b h) (Ev.bind (Merged_ev l a b hlen) (Ev.ifPos h ?_))
    have hml : (mg l a b).length < 1000000 := by
      have : (mg l a b).length ≤ l.length := by
        unfold mg
        refine Nat.le_trans (List.length_eraseIdx_le ..) ?_
        rw [List.length_set]
        exact Nat.le_refl _
      omega
    exact Ev.bind (refMerge_ev l a b h) (Ev.bind (Equal_ev _ hml) (Ev.ifPos rfl (Ev.ifPos rfl (Ev.bind awake_ev (Ev.const rfl)))))
  | false =>
    have hb : okM (l.take 8) a b = false := by
      cases hw : okW l with
      | true => rw [take_ok l hw]; exact h
      | false => unfold okM; rw [okW_take, hw]; rfl
    refine Ev.bind (Merge_bad _ a b hb) (Ev.bind (Merged_ev l a b hlen) (Ev.ifNeg (by simp [h]) ?_))
    exact Ev.ifPos rfl (Ev.ifPos rfl (Ev.bind awake_ev (Ev.const rfl)))

end Go.Proofs.Ytigmhomfadimnaa.Pure
