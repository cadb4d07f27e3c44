/- PacketsMerged: the set's weights are the same list, whether two other kinds are made one or not. -/
import Derived.Test.YtigmhomfadimnaaXcomfitlaw04PacketsMerged
import Derived.Test.YtigmhomfadimnaaMMerge
import Derived.Test.YtigmhomfadimnaaMMean
set_option linter.unusedVariables false
set_option linter.unusedSimpArgs false
namespace Go.Proofs.Ytigmhomfadimnaa.Pure
open Go.RowKit Go.Proofs.Ytigmhomfadimnaa.X Go.Proofs.YtigmhomfadimnaaW.PrintWords Go.Proofs.YtigmhomfadimnaaW.PrintLast Go.Proofs.YtigmhomfadimnaaW.PrintMore

/-- A set without the place b. -/
def dropb : Nat → Int → Int
  | 0, s => s / 2
  | b + 1, s => s % 2 + 2 * dropb b (s / 2)
theorem sub_erase : ∀ (b : Nat) (l : List Int) (s : Int), b < l.length → (s / 2 ^ b) % 2 = 0 → sub (l.eraseIdx b) (dropb b s) = sub l s := by
  intro b
  induction b with
  | zero =>
    intro l s hb hs
    cases l with
    | nil => simp at hb
    | cons x l =>
      simp only [Int.pow_zero, Int.ediv_one] at hs
      rw [List.eraseIdx_cons_zero, dropb, sub, if_neg (by omega)]
  | succ b ih =>
    intro l s hb hs
    cases l with
    | nil => simp at hb
    | cons x l =>
      rw [Int.pow_succ, Int.mul_comm, ← Int.ediv_ediv_of_nonneg (by omega)] at hs
      have h := ih l (s / 2) (by simpa using hb) hs
      rw [List.eraseIdx_cons_succ, dropb, sub, sub]
      have e1 : (s % 2 + 2 * dropb b (s / 2)) % 2 = s % 2 := by omega
      have e2 : (s % 2 + 2 * dropb b (s / 2)) / 2 = dropb b (s / 2) := by omega
      rw [e1, e2, h]
theorem sub_set : ∀ (a : Nat) (l : List Int) (v s : Int), (s / 2 ^ a) % 2 = 0 → sub (l.set a v) s = sub l s := by
  intro a
  induction a with
  | zero =>
    intro l v s hs
    cases l with
    | nil => rfl
    | cons x l =>
      simp only [Int.pow_zero, Int.ediv_one] at hs
      rw [List.set_cons_zero, sub, if_neg (by omega), sub, if_neg (by omega)]
  | succ a ih =>
    intro l v s hs
    cases l with
    | nil => rfl
    | cons x l =>
      rw [Int.pow_succ, Int.mul_comm, ← Int.ediv_ediv_of_nonneg (by omega)] at hs
      rw [List.set_cons_succ, sub, sub, ih l v (s / 2) hs]
theorem sum_set : ∀ (l : List Int) (a : Nat) (v : Int), a < l.length → (l.set a v).sum = l.sum - l.getD a 0 + v := by
  intro l
  induction l with
  | nil => intro a v h; simp at h
  | cons x l ih =>
    intro a v h
    cases a with
    | zero => simp; omega
    | succ a =>
      have := ih a v (by simpa using h)
      simp only [List.set_cons_succ, List.sum_cons, List.getD_cons_succ]
      omega
theorem sum_erase : ∀ (l : List Int) (b : Nat), b < l.length → (l.eraseIdx b).sum = l.sum - l.getD b 0 := by
  intro l
  induction l with
  | nil => intro a h; simp at h
  | cons x l ih =>
    intro b h
    cases b with
    | zero => simp; omega
    | succ b =>
      have := ih b (by simpa using h)
      simp only [List.eraseIdx_cons_succ, List.sum_cons, List.getD_cons_succ]
      omega
theorem getD_set (l : List Int) (a i : Nat) (v : Int) (ha : a < l.length) : (l.set a v).getD i 0 = if i = a then v else l.getD i 0 := by
  by_cases h : i = a
  · subst h; simp [ha]
  · simp [h, List.getD, List.getElem?_set_ne (Ne.symm h)]
theorem mg_ok (l : List Int) (a b : Nat) (h : okM l a b = true) : okW (mg l a b) = true ∧ tot (mg l a b) = tot l ∧ (mg l a b).length = l.length - 1 := by
  obtain ⟨hw, a0, a1, b0, b1, hab, hs⟩ := (okM_iff l a b).1 h
  have hk := (okW_iff l).1 hw
  have ha := rd_in l hw a a0 a1
  have hb := rd_in l hw b b0 b1
  have hlen : (mg l a b).length = l.length - 1 := by unfold mg; rw [List.length_eraseIdx, List.length_set, if_pos (by omega)]
  refine ⟨(okW_iff _).2 ⟨by omega, by omega, ?_⟩, ?_, hlen⟩
  · intro x hx
    have hx2 := List.mem_of_mem_eraseIdx hx
    rcases List.mem_or_eq_of_mem_set hx2 with h1 | h1
    · exact hk.2.2 x h1
    · subst h1; omega
  · rw [wsum_all, wsum_all]
    unfold mg
    rw [sum_erase _ _ (by rw [List.length_set]; omega), sum_set _ _ _ (by omega), getD_set _ _ _ _ (by omega), if_neg (by omega)]
    simp only [rd, Int.toNat_natCast]
    omega
def rest1 (n : Nat) (m : Int) (a b : Nat) : Int := Go.bits .andNot .i64 m (Go.bits .or .i64 (shl .i64 1 (a : Int)) (shl .i64 1 (b : Int)))
def rest2 (s : Int) (b : Nat) : Int := Go.bits .or .i64 (Go.bits .and .i64 s (wrap64 ((shl .i64 1 (b : Int)) - 1))) (shl .i64 (shr .i64 s (wrap64 ((b : Int) + 1))) (b : Int))
theorem rest_all : ∀ n : Fin 7, ∀ a : Fin n.val, ∀ b : Fin n.val, ∀ m : Fin (2 ^ n.val), 0 ≤ rest1 n.val m.val a.val b.val ∧ rest1 n.val m.val a.val b.val < 2 ^ n.val ∧ (rest1 n.val m.val a.val b.val / 2 ^ a.val) % 2 = 0 ∧ (rest1 n.val m.val a.val b.val / 2 ^ b.val) % 2 = 0 ∧ rest2 (rest1 n.val m.val a.val b.val) b.val = dropb b.val (rest1 n.val m.val a.val b.val) ∧ 0 ≤ dropb b.val (rest1 n.val m.val a.val b.val) ∧ dropb b.val (rest1 n.val m.val a.val b.val) < 2 ^ (n.val - 1) := by decide +kernel
theorem shlu_dec : ∀ n : Fin 7, shl .u64 1 (n.val : Int) = ((2 ^ n.val : Nat) : Int) := by decide +kernel
theorem u64_nonneg (a : Int) : 0 ≤ IntKind.u64.wrap a := by
  simp [IntKind.wrap, IntKind.bits, IntKind.signed]
  omega

theorem PacketsMerged : comfitlaw04_PacketsMerged.Pure := by
  intro l a b x3 _ hl _ _ _ _
  refine Ev.get ?_
  unfold comfitlaw04_PacketsMerged.f
  rw [list_ok]
  simp only [Option.bind_some]
  have hlen : l.length < 4611686018427387904 := by omega
  cases h : okM l a b with
  | true =>
    obtain ⟨hw, a0, a1, b0, b1, hab, hs⟩ := (okM_iff l a b).1 h
    have hk := (okW_iff l).1 hw
    obtain ⟨a, rfl⟩ := Int.eq_ofNat_of_zero_le a0
    obtain ⟨b, rfl⟩ := Int.eq_ofNat_of_zero_le b0
    obtain ⟨hmw, hmt, hml⟩ := mg_ok l a b h
    rw [take_ok l hw]
    refine Ev.bind (Merge_ev l a b h) (Ev.ifPos rfl (Ev.bind (Merged_ev l a b hlen) (Ev.ifPos h ?_)))
    have e0 : (((mg l a b).length : Int) != wrap64 ((l.length : Int) - 1)) = false := by
      rw [hml, w_in (by omega) (by omega)]
      simp
      omega
    show Ev (fun k => comfitlaw04_PacketsMerged.j0 k l a b x3 (mg l a b) 0 (((mg l a b).length : Int) != wrap64 ((l.length : Int) - 1))) true
    rw [e0]
    have hsh : shl .u64 1 (l.length : Int) = ((2 ^ l.length : Nat) : Int) := shlu_dec ⟨l.length, by omega⟩
    have hpos : 0 < 2 ^ l.length := Nat.pow_pos (by omega)
    have hp64 := pow_le l.length hk.2.1
    obtain ⟨m, hm, hme⟩ : ∃ m : Nat, m < 2 ^ l.length ∧ wrap64 (Int.tmod (IntKind.u64.wrap x3) (shl .u64 1 (l.length : Int))) = (m : Int) := by
      have h0 := u64_nonneg x3
      rw [hsh]
      generalize IntKind.u64.wrap x3 = u at h0
      rw [Int.tmod_eq_emod_of_nonneg h0]
      have h2 : 0 ≤ u % ((2 ^ l.length : Nat) : Int) := Int.emod_nonneg _ (by omega)
      have h3 : u % ((2 ^ l.length : Nat) : Int) < ((2 ^ l.length : Nat) : Int) := Int.emod_lt_of_pos _ (by omega)
      have h4 : ((2 ^ l.length : Nat) : Int) ≤ 64 := by push_cast; omega
      refine ⟨(u % ((2 ^ l.length : Nat) : Int)).toNat, by omega, ?_⟩
      rw [w_in (by omega) (by omega)]
      omega
    obtain ⟨r0, r1, ra, rb, r2, r3, r4⟩ := rest_all ⟨l.length, by omega⟩ ⟨a, by show a < l.length; omega⟩ ⟨b, by show b < l.length; omega⟩ ⟨m, hm⟩
    dsimp only at r0 r1 ra rb r2 r3 r4
    have hS1 : okS l (rest1 l.length m a b) = true := (okS_iff _ _).2 ⟨hw, r0, r1⟩
    have hS2 : okS (mg l a b) (dropb b (rest1 l.length m a b)) = true := (okS_iff _ _).2 ⟨hmw, r3, by rw [hml]; exact r4⟩
    have hmean : meanR (mg l a b) (dropb b (rest1 l.length m a b)) = meanR l (rest1 l.length m a b) := by
      unfold meanR
      rw [hmt]
      unfold mg
      rw [sub_erase b _ _ (by rw [List.length_set]; omega) rb, sub_set a _ _ _ ra]
    obtain ⟨k1, h1⟩ := Mean_ev l (rest1 l.length m a b) hS1
    obtain ⟨k2, h2⟩ := Mean_ev (mg l a b) (dropb b (rest1 l.length m a b)) hS2
    obtain ⟨k3, h3⟩ := awake_ev
    rw [hmean] at h2
    dsimp only at h1 h2 h3
    refine ⟨k1 + k2 + k3 + 1, fun k hk' => ?_⟩
    obtain ⟨j, rfl⟩ : ∃ j, k = j + 1 := ⟨k - 1, by omega⟩
    show comfitlaw04_PacketsMerged.j0 (j + 1) l a b x3 (mg l a b) 0 false = _
    rw [comfitlaw04_PacketsMerged.j0, if_neg (by simp), if_neg (by rw [hsh]; omega), if_pos (by omega), if_pos (by omega), if_pos (by rw [w_in (by omega) (by omega)]; omega), list_ok, take_ok l hw]
    simp only [Option.bind_some]
    rw [hme]
    show ((packets_Mean.f j l (rest1 l.length m a b)).bind fun bt340 => (packets_Mean.f j (mg l a b) (rest2 (rest1 l.length m a b) b)).bind _) = _
    rw [h1 j (by omega), r2]
    simp only [Option.bind_some]
    rw [h2 j (by omega), h3 j (by omega)]
    simp
  | false =>
    have hb : okM (l.take 8) a b = false := by
      cases hw : okW l with
      | true => rw [take_ok l hw]; exact h
      | false => unfold okM; rw [okW_take, hw]; rfl
    refine Ev.bind (Merge_bad _ a b hb) (Ev.ifNeg (by simp) ?_)
    exact Ev.succ (g := fun k => (comfitlaw04_awake.f k).bind fun t336 => some t336) (Ev.bind awake_ev (Ev.const rfl)) (fun k => by rw [comfitlaw04_PacketsMerged.j0, if_pos rfl, if_pos rfl])

end Go.Proofs.Ytigmhomfadimnaa.Pure
