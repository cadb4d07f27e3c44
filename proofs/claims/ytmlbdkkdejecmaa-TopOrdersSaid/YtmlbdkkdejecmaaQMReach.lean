/- Plain laws: what is marked is closed; a machine without what is not marked. -/
import Derived.Test.YtmlbdkkdejecmaaQHVisit
import Derived.Maps.OwnSet
import Derived.Maps.OwnOps
set_option linter.unusedVariables false
set_option linter.unusedSimpArgs false
namespace Go.Proofs.Ytmlbdkkdejecmaa.X
open Go.RowKit Go.Proofs.YtmlbdkkdejecmaaW.PrintWords Go.Proofs.YtmlbdkkdejecmaaW.PrintLast Go.Proofs.YtmlbdkkdejecmaaW.PrintMore
def hasB (B : List Bool) (j : Nat) : Bool := B.getD j false
theorem hasB_set (B : List Bool) (i j : Nat) (hi : i < B.length) : hasB (B.set i true) j = (decide (i = j) || hasB B j) := by
  unfold hasB
  by_cases h : i = j
  · subst h; simp [hi]
  · simp [List.getElem?_set, h]
theorem dfs_mono (l : List S45) : ∀ (d : Nat) (B : List Bool) (i j : Nat), hasB B j = true → hasB (dfs l d B i) j = true := by
  intro d
  induction d with
  | zero => intro B i j h; exact h
  | succ d ih =>
    intro B i j h
    have hset : hasB (B.set i true) j = true := by
      by_cases hi : i < B.length
      · rw [hasB_set B i j hi, h, Bool.or_true]
      · rw [List.set_eq_of_length_le (by omega)]; exact h
    unfold dfs
    split
    · exact h
    · dsimp only
      split <;> split
      · exact ih _ _ _ hset
      · exact ih _ _ _ (ih _ _ _ hset)
      · exact hset
      · exact ih _ _ _ hset
theorem dfs_self (l : List S45) (d : Nat) (B : List Bool) (i : Nat) (hd : unr B < d) (hi : i < B.length) : hasB (dfs l d B i) i = true := by
  obtain ⟨d, rfl⟩ : ∃ e, d = e + 1 := ⟨d - 1, by omega⟩
  have hset : hasB (B.set i true) i = true := by rw [hasB_set B i i hi]; simp
  unfold dfs
  split
  · rename_i h
    unfold hasB
    simp [hi] at h ⊢
    exact h
  · dsimp only
    split <;> split
    · exact dfs_mono l _ _ _ _ hset
    · exact dfs_mono l _ _ _ _ (dfs_mono l _ _ _ _ hset)
    · exact hset
    · exact dfs_mono l _ _ _ _ hset
/-- The orders that one leads on to are marked. -/
def closedAt (l : List S45) (B : List Bool) (j : Nat) : Prop := ((l.getD j z45).f0 ≠ 0 → hasB B (l.getD j z45).f2.toNat = true) ∧ ((l.getD j z45).f0 = 2 → hasB B (l.getD j z45).f3.toNat = true)
theorem closedAt.mono {l : List S45} {B B' : List Bool} {j : Nat} (h : closedAt l B j) (hm : ∀ k, hasB B k = true → hasB B' k = true) : closedAt l B' j := ⟨fun a => hm _ (h.1 a), fun a => hm _ (h.2 a)⟩
theorem dfs_closed {l : List S45} (hok : ∀ j, j < l.length → 0 ≤ (l.getD j z45).f2 ∧ (l.getD j z45).f2 < l.length ∧ 0 ≤ (l.getD j z45).f3 ∧ (l.getD j z45).f3 < l.length) :
    ∀ (d : Nat) (B : List Bool) (i : Nat), unr B < d → B.length = l.length → i < l.length → ∀ j, hasB (dfs l d B i) j = true → hasB B j = false → closedAt l (dfs l d B i) j := by
  intro d
  induction d with
  | zero => intro B i h; omega
  | succ d ih =>
    intro B i hd hlen hi j hj hb
    obtain ⟨o1, o2, o3, o4⟩ := hok i hi
    by_cases hB : B.getD i true = true
    · rw [dfs, if_pos hB] at hj
      rw [hj] at hb; simp at hb
    · have hB' : B.getD i true = false := Bool.eq_false_iff.mpr hB
      have hu := unr_set (by omega) hB'
      have e : dfs l (d + 1) B i = (fun B2 => if (l.getD i z45).f0 = 2 then dfs l d B2 (l.getD i z45).f3.toNat else B2) (if (l.getD i z45).f0 = 0 then B.set i true else dfs l d (B.set i true) (l.getD i z45).f2.toNat) := by rw [dfs, if_neg hB]
      have hset : ∀ k, hasB (B.set i true) k = (decide (i = k) || hasB B k) := fun k => hasB_set B i k (by omega)
      -- what stands behind the first call
      obtain ⟨B2, hB2⟩ : ∃ B2, (if (l.getD i z45).f0 = 0 then B.set i true else dfs l d (B.set i true) (l.getD i z45).f2.toNat) = B2 := ⟨_, rfl⟩
      have h2len : B2.length = l.length := by rw [← hB2]; split <;> simp [dfs_len, hlen]
      have h2unr : unr B2 < d := by
        rw [← hB2]
        split
        · omega
        · exact Nat.lt_of_le_of_lt (dfs_unr _ _ _ _) (by omega)
      have h2i : hasB B2 i = true := by
        have : hasB (B.set i true) i = true := by rw [hset]; simp
        rw [← hB2]
        split
        · exact this
        · exact dfs_mono l _ _ _ _ this
      have h2a : (l.getD i z45).f0 ≠ 0 → hasB B2 (l.getD i z45).f2.toNat = true := by
        intro h0
        rw [← hB2, if_neg h0]
        exact dfs_self l d _ _ (by omega) (by rw [List.length_set]; omega)
      have h2c : ∀ k, hasB B2 k = true → hasB B k = false → k ≠ i → closedAt l B2 k := by
        intro k hk hbk hki
        by_cases h0 : (l.getD i z45).f0 = 0
        · rw [if_pos h0] at hB2
          rw [← hB2, hset, hbk] at hk
          simp at hk; omega
        · rw [if_neg h0] at hB2
          rw [← hB2] at hk ⊢
          exact ih (B.set i true) _ (by omega) (by rw [List.length_set]; omega) (by omega) k hk (by rw [hset, hbk]; simp; omega)
      rw [hB2] at e
      dsimp only at e
      by_cases h2 : (l.getD i z45).f0 = 2
      · rw [if_pos h2] at e
        have hm : ∀ k, hasB B2 k = true → hasB (dfs l (d + 1) B i) k = true := fun k hk => by rw [e]; exact dfs_mono l _ _ _ _ hk
        by_cases hji : j = i
        · subst hji
          refine ⟨fun a => hm _ (h2a a), fun _ => ?_⟩
          rw [e]
          exact dfs_self l d _ _ h2unr (by omega)
        · by_cases hk : hasB B2 j = true
          · exact (h2c j hk hb hji).mono hm
          · rw [e] at hj ⊢
            exact ih B2 _ h2unr h2len (by omega) j hj (Bool.eq_false_iff.mpr hk)
      · rw [if_neg h2] at e
        rw [e] at hj ⊢
        by_cases hji : j = i
        · subst hji
          exact ⟨h2a, fun a => absurd a h2⟩
        · exact h2c j hj hb hji
/-- What is reached from the first order. -/
def marks (l : List S45) : List Bool := dfs l (l.length + 1) (List.replicate l.length false) 0
theorem unr_new (n : Nat) : unr (List.replicate n false) = n := by unfold unr; simp
theorem marks_len (l : List S45) : (marks l).length = l.length := by unfold marks; rw [dfs_len]; simp
theorem marks_closed {l : List S45} (hok : ∀ j, j < l.length → 0 ≤ (l.getD j z45).f2 ∧ (l.getD j z45).f2 < l.length ∧ 0 ≤ (l.getD j z45).f3 ∧ (l.getD j z45).f3 < l.length) (hn : 0 < l.length) (j : Nat) (hj : hasB (marks l) j = true) : closedAt l (marks l) j := by
  refine dfs_closed hok (l.length + 1) (List.replicate l.length false) 0 (by rw [unr_new]; omega) (by simp) hn j hj ?_
  unfold hasB
  by_cases h : j < l.length <;> simp [h]
theorem marks_zero {l : List S45} (hn : 0 < l.length) : hasB (marks l) 0 = true := dfs_self l _ _ _ (by rw [unr_new]; omega) (by simpa using hn)
/-- How many are marked ahead of one. -/
def cnt (B : List Bool) (i : Nat) : Nat := (B.take i).count true
theorem cnt_zero (B : List Bool) : cnt B 0 = 0 := by simp [cnt]
theorem cnt_yes {B : List Bool} {i : Nat} (h : hasB B i = true) : cnt B (i + 1) = cnt B i + 1 := by
  unfold cnt hasB at *
  have hi : i < B.length := by
    by_cases c : i < B.length
    · exact c
    · simp [show B[i]? = none from List.getElem?_eq_none (by omega)] at h
  rw [List.take_succ_eq_append_getElem hi, List.count_append]
  simp [hi] at h
  simp [h]
theorem cnt_no {B : List Bool} {i : Nat} (h : hasB B i = false) : cnt B (i + 1) = cnt B i := by
  unfold cnt hasB at *
  by_cases hi : i < B.length
  · rw [List.take_succ_eq_append_getElem hi, List.count_append]
    simp [hi] at h
    simp [h]
  · rw [List.take_of_length_le (by omega), List.take_of_length_le (by omega)]
theorem cnt_le (B : List Bool) (i : Nat) : cnt B i ≤ i := by unfold cnt; exact Nat.le_trans List.count_le_length (by rw [List.length_take]; omega)
def renum (B : List Bool) (x : S45) : S45 := ⟨x.f0, x.f1, if x.f0 = 0 then x.f2 else (cnt B x.f2.toNat : Int), if x.f0 = 2 then (cnt B x.f3.toNat : Int) else x.f3⟩
def outB (B : List Bool) (l : List S45) (i : Nat) : List S45 := ((List.range i).filter (fun j => hasB B j)).map (fun j => renum B (l.getD j z45))
theorem outB_yes {B : List Bool} {l : List S45} {i : Nat} (h : hasB B i = true) : outB B l (i + 1) = outB B l i ++ [renum B (l.getD i z45)] := by
  unfold outB
  rw [List.range_succ, List.filter_append, List.map_append]
  simp [h]
theorem outB_no {B : List Bool} {l : List S45} {i : Nat} (h : hasB B i = false) : outB B l (i + 1) = outB B l i := by
  unfold outB
  rw [List.range_succ, List.filter_append, List.map_append]
  simp [h]
theorem outB_len (B : List Bool) (l : List S45) (i : Nat) : (outB B l i).length = cnt B i := by
  induction i with
  | zero => simp [outB, cnt]
  | succ i ih =>
    cases h : hasB B i with
    | true => rw [outB_yes h, cnt_yes h, List.length_append, ih]; rfl
    | false => rw [outB_no h, cnt_no h, ih]

/-! ### The map of the numbers -/
open Go.Maps
theorem lawK : Keyed Try.prog 3 := int_keyed Try.underlying3
theorem zero3 (w : World) : (zeroValue 3).run Try.prog w = .ok (.int .i64 0) w := by kernel_rfl
theorem keyN (j : Int) (h0 : 0 ≤ j) (h1 : j ≤ 100) : keyOf Try.prog 3 (.int .i64 j) = some (.int .i64 j) := keyOf_int_mk Try.underlying3 (WalkArith.wf_i64 (by omega))
structure NumIs (B : List Bool) (i : Nat) (D : DataW Unit) : Prop where
  size : size D = cnt B i
  out : ∀ j : Int, (i : Int) ≤ j → has D (.int .i64 j) = false
  at_ : ∀ j : Nat, j < i → hasB B j = true → D.atKey (.int .i64 (j : Int)) (.lit (.int .i64 0)) = .lit (.int .i64 (cnt B j : Int))
theorem NumIs.start (B : List Bool) : NumIs B 0 (.map []) := ⟨by rw [cnt_zero]; rfl, fun j _ => rfl, fun j h => by omega⟩
theorem NumIs.no {B : List Bool} {i : Nat} {D : DataW Unit} (h : NumIs B i D) (hb : hasB B i = false) : NumIs B (i + 1) D := by
  refine ⟨by rw [cnt_no hb]; exact h.size, fun j hj => h.out j (by omega), fun j hj hb2 => ?_⟩
  by_cases e : j = i
  · rw [e, hb] at hb2; simp at hb2
  · exact h.at_ j (by omega) hb2
theorem NumIs.yes {B : List Bool} {i : Nat} {D : DataW Unit} (h : NumIs B i D) (ht : Tidy D) (hb : hasB B i = true) : NumIs B (i + 1) (D.put (.int .i64 (i : Int)) (.lit (.int .i64 (cnt B i : Int)))) := by
  refine ⟨?_, fun j hj => ?_, fun j hj hb2 => ?_⟩
  · rw [size_put ht, h.out i (by omega), cnt_yes hb, h.size]; rfl
  · rw [has_put_other (by intro e; injection e with _ e; omega)]
    exact h.out j (by omega)
  · by_cases e : j = i
    · rw [e, atKey_put_same ht.isMap (by trivial)]
    · rw [atKey_put_other (by intro e2; injection e2 with _ e2; omega)]
      exact h.at_ j (by omega) hb2
end Go.Proofs.Ytmlbdkkdejecmaa.X
