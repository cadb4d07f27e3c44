/- Taken and Looks are the averages of Run over all items, each with its chance (of plans for at most 8 items): for every plan and chance, no conditions. -/
import Derived.Test.YtdppnmfljfdhaaaQMAll
import Derived.Test.YtdppnmfljfdhaaaQHAll
set_option linter.unusedVariables false
set_option linter.unusedSimpArgs false
namespace Go.Proofs.Ytdppnmfljfdhaaa.Pure
open Go.RowKit Go.Proofs.Ytdppnmfljfdhaaa.X Go.Proofs.YtdppnmfljfdhaaaW.PrintWords Go.Proofs.YtdppnmfljfdhaaaW.PrintLast Go.Proofs.YtdppnmfljfdhaaaW.PrintMore

theorem bit_dec : ∀ s : Fin 256, ∀ i : Fin 8, bitA s.val i.val = s.val.testBit i.val := by decide +kernel
theorem shl_dec : ∀ n : Fin 9, shl .i64 1 (n.val : Int) = ((2 ^ n.val : Nat) : Int) := by decide +kernel
theorem bit_ok (s i : Nat) (hs : s < 256) (hi : i < 8) : bitA s i = s.testBit i := bit_dec ⟨s, hs⟩ ⟨i, hi⟩
theorem it_ok (s n : Nat) (hs : s < 256) (hn : n ≤ 8) : itA s n n = bl n s := by
  unfold itA bl
  refine List.map_congr_left (fun j hj => ?_)
  have hj' : j < n := List.mem_range.1 hj
  rw [if_pos hj', bit_ok s j hs (by omega)]
theorem pow8 (o : Int) (h1 : 1 ≤ o) (h : o ≤ 12) (n : Nat) (hn : n ≤ 8) : 1 ≤ o ^ n ∧ o ^ n ≤ 429981696 := by
  refine ⟨(pow_bound o h1 h n (by omega)).1, Int.le_trans (pow_le12 o (by omega) h n) ?_⟩
  have h : (12 : Nat) ^ n ≤ 12 ^ 8 := Nat.pow_le_pow_right (by omega) hn
  have e : ((12 ^ n : Nat) : Int) = (12 : Int) ^ n := by push_cast; rfl
  rw [← e]
  have : (12 : Nat) ^ 8 = 429981696 := by decide
  omega
theorem powA_ok (o : Int) (h1 : 1 ≤ o) (h : o ≤ 12) : ∀ n : Nat, n ≤ 8 → powA o n = o ^ n := by
  intro n
  induction n with
  | zero => intro _; simp [powA]
  | succ n ih =>
    intro hn
    have hp := pow8 o h1 h (n + 1) hn
    rw [Int.pow_succ] at hp ⊢
    show wrap64 (powA o n * o) = _
    rw [ih (by omega)]
    exact w_in (by omega) (by omega)
theorem bl_snoc (i s : Nat) : bl (i + 1) s = bl i s ++ [s.testBit i] := by unfold bl; rw [List.range_succ, List.map_append]; rfl
theorem bl_length (i s : Nat) : (bl i s).length = i := by simp [bl]
theorem tmA_ok {y o : Int} (hc : okC y o) (s : Nat) (hs : s < 256) : ∀ i : Nat, i ≤ 8 → tmA y o s i = wt y o (bl i s) := by
  intro i
  induction i with
  | zero => intro _; rfl
  | succ i ih =>
    intro hi
    have hb := wt_bound hc.2.2.1 hc.2.2.2 (bl (i + 1) s)
    rw [bl_length] at hb
    have hp := pow8 o hc.1 hc.2.1 (i + 1) hi
    have hw : wrap64 (o - y) = o - y := w_in (by have := hc.1; have := hc.2; omega) (by have := hc.1; have := hc.2; omega)
    rw [bl_snoc, wt_snoc] at hb ⊢
    rw [tmA, ih (by omega), hw, bit_ok s i hs (by omega)]
    exact w_in (by omega) (by omega)
section
variable {l0 l1 : List Int} {y o : Int}
def okS (l0 l1 : List Int) (n s : Nat) : Bool := (run l0 l1 (bl n s) 0 0).2
def kfS (l0 l1 : List Int) (n s : Nat) : Int := (run l0 l1 (bl n s) 0 0).1
theorem tk_ok (h : Ok l0 l1) (hc : okC y o) (h8 : l0.length ≤ 8) : ∀ s : Nat, s ≤ 2 ^ l0.length → tkS y o l0.length (okS l0 l1 l0.length) s = sI (fun s => if okS l0 l1 l0.length s = true then wt y o (bl l0.length s) else 0) s := by
  have h256 : 2 ^ l0.length ≤ 256 := Nat.le_trans (Nat.pow_le_pow_right (by omega) h8) (by decide)
  have hT : sI (fun s => if okS l0 l1 l0.length s = true then wt y o (bl l0.length s) else 0) (2 ^ l0.length) = sTaken l0 l1 y o := taken_all h
  have hb := sTaken_bound (y := y) (o := o) h hc.2.2.1 hc.2.2.2
  have hp := pow8 o hc.1 hc.2.1 l0.length h8
  have hnn : ∀ s : Nat, 0 ≤ (if okS l0 l1 l0.length s = true then wt y o (bl l0.length s) else 0) := fun s => by
    split
    · exact (wt_bound hc.2.2.1 hc.2.2.2 _).1
    · omega
  intro s
  induction s with
  | zero => intro _; rfl
  | succ s ih =>
    intro hs
    have h1 := sI_part (fun s => if okS l0 l1 l0.length s = true then wt y o (bl l0.length s) else 0) (2 ^ l0.length) (fun s _ => hnn s) (s + 1) hs
    have h0 := sI_nonneg (f := fun s => if okS l0 l1 l0.length s = true then wt y o (bl l0.length s) else 0) (s + 1) (fun s _ => hnn s)
    rw [hT] at h1
    rw [sI] at h0 h1 ⊢
    rw [tkS, ih (by omega), tmA_ok hc s (by omega) _ h8]
    by_cases ho : okS l0 l1 l0.length s = true
    · rw [if_pos ho] at h0 h1 ⊢
      rw [if_pos ho]
      exact w_in (by omega) (by omega)
    · rw [if_neg ho, if_neg ho]; omega
theorem lk_ok (h : Ok l0 l1) (hc : okC y o) (h8 : l0.length ≤ 8) : ∀ s : Nat, s ≤ 2 ^ l0.length → lkS y o l0.length (kfS l0 l1 l0.length) s = sI (fun s => wt y o (bl l0.length s) * kfS l0 l1 l0.length s) s := by
  have h256 : 2 ^ l0.length ≤ 256 := Nat.le_trans (Nat.pow_le_pow_right (by omega) h8) (by decide)
  have hpos := h.pos
  have hT : sI (fun s => wt y o (bl l0.length s) * kfS l0 l1 l0.length s) (2 ^ l0.length) = sLooks l0 l1 y o := looks_all h
  have hb := sLooks_bound (y := y) (o := o) h hc.2.2.1 hc.2.2.2
  have hp := pow8 o hc.1 hc.2.1 l0.length h8
  have hmx : (l0.length : Int) * o ^ l0.length ≤ 8 * o ^ l0.length := Int.mul_le_mul_of_nonneg_right (by omega) (by omega)
  have hk : ∀ s : Nat, 1 ≤ kfS l0 l1 l0.length s := fun s => by
    have := run_range (l0 := l0) (l1 := l1) (bl l0.length s) 0 0 (by intro e; have := bl_length l0.length s; rw [e] at this; simp at this; omega)
    unfold kfS
    omega
  have hnn : ∀ s : Nat, 0 ≤ wt y o (bl l0.length s) * kfS l0 l1 l0.length s := fun s => Int.mul_nonneg (wt_bound hc.2.2.1 hc.2.2.2 _).1 (by have := hk s; omega)
  intro s
  induction s with
  | zero => intro _; rfl
  | succ s ih =>
    intro hs
    have h1 := sI_part (fun s => wt y o (bl l0.length s) * kfS l0 l1 l0.length s) (2 ^ l0.length) (fun s _ => hnn s) (s + 1) hs
    have h0 := sI_nonneg (f := fun s => wt y o (bl l0.length s) * kfS l0 l1 l0.length s) s (fun s _ => hnn s)
    have h2 := hnn s
    rw [hT] at h1
    rw [sI] at h1 ⊢
    rw [lkS, ih (by omega), tmA_ok hc s (by omega) _ h8, w_addr]
    exact w_in (by omega) (by omega)
end
theorem LotsAll (l0 l1 : List Int) (y o : Int) (_ : l0.length ≤ maxLen) (_ : ∀ x ∈ l0, (Lit.int .i64 x).wf = true) (_ : l1.length ≤ maxLen) (_ : ∀ x ∈ l1, (Lit.int .i64 x).wf = true) (_ : (Lit.int .i64 y).wf = true) (_ : (Lit.int .i64 o).wf = true) :
    ∃ (k : Nat) (x1 x2 y1 y2 e0 : Int), comfitlaw02_Of.f l0 l1 = some (l0.take 15, l1.take 15) ∧ lots_Taken.f k (l0.take 15) (l1.take 15) y o = some (x1, x2, e0) ∧ lots_Looks.f k (l0.take 15) (l1.take 15) y o = some (y1, y2, e0) ∧ comfitlaw02_awake.f k = some true ∧
    (e0 = 2 ∨ (e0 = 0 ∧ comfitref02_Valid.f k l0 l1 = some true ∧ comfitref02_Is.f y o = some true ∧ (8 < l0.length ∨ (l0.length ≤ 8 ∧ 1 ≤ l0.length ∧ ∃ (pw : Nat) (kf : Nat → Int) (ok : Nat → Bool), shl .i64 1 (l0.length : Int) = (pw : Int) ∧ pw ≤ 256 ∧
      (∀ s : Nat, s < pw → lots_Run.f k (l0.take 15) (l1.take 15) (itA s l0.length l0.length) = some (kf s, ok s, 0) ∧ 1 ≤ kf s ∧ kf s ≤ (l0.length : Int)) ∧
      1 ≤ x2 ∧ x2 ≤ powA o l0.length ∧ 1 ≤ y2 ∧ y2 ≤ powA o l0.length ∧ 0 ≤ x1 ∧ x1 ≤ x2 ∧ 0 ≤ y1 ∧ y1 ≤ wrap64 ((l0.length : Int) * y2) ∧
      wrap64 (x1 * powA o l0.length) = wrap64 (tkS y o l0.length ok pw * x2) ∧ wrap64 (y1 * powA o l0.length) = wrap64 (lkS y o l0.length kf pw * y2))))) := by
  obtain ⟨ka, haw⟩ := awake_ev
  by_cases h : okP l0 l1 = true ∧ okC y o
  · obtain ⟨ho, hc⟩ := h
    have ok := (okP_iff l0 l1).1 ho
    obtain ⟨e0, e1⟩ := take_ok ok
    obtain ⟨k1, t1⟩ := Taken_ev ok hc
    obtain ⟨k2, t2⟩ := Looks_ev ok hc
    obtain ⟨k3, t3⟩ := ref_valid_ev l0 l1
    rw [ho] at t3
    have hI : comfitref02_Is.f y o = some true := by rw [Is_ok, decide_eq_true hc]
    by_cases h8 : 8 < l0.length
    · exact ⟨max ka (max k1 (max k2 k3)), _, _, _, _, _, Of_ok l0 l1, by rw [e0, e1]; exact t1 _ (by omega), by rw [e0, e1]; exact t2 _ (by omega), haw _ (by omega), Or.inr ⟨rfl, t3 _ (by omega), hI, Or.inl h8⟩⟩
    · have hpos := ok.pos
      have h8' : l0.length ≤ 8 := by omega
      have h256 : 2 ^ l0.length ≤ 256 := Nat.le_trans (Nat.pow_le_pow_right (by omega) h8') (by decide)
      have hrun : ∃ k4, ∀ k, k4 ≤ k → ∀ s : Nat, s < 2 ^ l0.length → lots_Run.f k l0 l1 (itA s l0.length l0.length) = some (kfS l0 l1 l0.length s, okS l0 l1 l0.length s, 0) := by
        have hone : ∀ s : Nat, s < 2 ^ l0.length → ∃ k0, ∀ k, k0 ≤ k → lots_Run.f k l0 l1 (itA s l0.length l0.length) = some (kfS l0 l1 l0.length s, okS l0 l1 l0.length s, 0) := fun s hs => by
          rw [it_ok s l0.length (by omega) h8']
          exact Run_ev ok (bl l0.length s) (bl_length ..)
        have hall : ∀ N : Nat, N ≤ 2 ^ l0.length → ∃ k0, ∀ k, k0 ≤ k → ∀ s : Nat, s < N → lots_Run.f k l0 l1 (itA s l0.length l0.length) = some (kfS l0 l1 l0.length s, okS l0 l1 l0.length s, 0) := by
          intro N
          induction N with
          | zero => intro _; exact ⟨0, fun _ _ s hs => absurd hs (by omega)⟩
          | succ N ih =>
            intro hN
            obtain ⟨a, ha⟩ := ih (by omega)
            obtain ⟨b, hb⟩ := hone N (by omega)
            refine ⟨max a b, fun k hk s hs => ?_⟩
            by_cases he : s = N
            · subst he; exact hb k (by omega)
            · exact ha k (by omega) s (by omega)
        exact hall _ (Nat.le_refl _)
      obtain ⟨k4, t4⟩ := hrun
      have hb := sTaken_bound ok hc.2.2.1 hc.2.2.2
      have hl := sLooks_bound ok hc.2.2.1 hc.2.2.2
      have hp := pow8 o hc.1 hc.2.1 l0.length h8'
      have eP := powA_ok o hc.1 hc.2.1 l0.length h8'
      have eT : tkS y o l0.length (okS l0 l1 l0.length) (2 ^ l0.length) = sTaken l0 l1 y o := by rw [tk_ok ok hc h8' _ (Nat.le_refl _)]; exact taken_all ok
      have eL : lkS y o l0.length (kfS l0 l1 l0.length) (2 ^ l0.length) = sLooks l0 l1 y o := by rw [lk_ok ok hc h8' _ (Nat.le_refl _)]; exact looks_all ok
      have hsh : shl .i64 1 (l0.length : Int) = ((2 ^ l0.length : Nat) : Int) := shl_dec ⟨l0.length, by omega⟩
      obtain ⟨c, hc0, q1, q2⟩ := divInt_parts (sTaken l0 l1 y o) (o ^ l0.length) (by omega)
      obtain ⟨c', hc0', q1', q2'⟩ := divInt_parts (sLooks l0 l1 y o) (o ^ l0.length) (by omega)
      have hd : (0 : Int) < ((Rat.divInt (sTaken l0 l1 y o) (o ^ l0.length)).den : Int) := by have := (Rat.divInt (sTaken l0 l1 y o) (o ^ l0.length)).den_nz; omega
      have hd' : (0 : Int) < ((Rat.divInt (sLooks l0 l1 y o) (o ^ l0.length)).den : Int) := by have := (Rat.divInt (sLooks l0 l1 y o) (o ^ l0.length)).den_nz; omega
      unfold fr at t1 t2
      dsimp only at t1 t2
      generalize ((Rat.divInt (sTaken l0 l1 y o) (o ^ l0.length)).den : Int) = d at *
      generalize (Rat.divInt (sTaken l0 l1 y o) (o ^ l0.length)).num = p at *
      generalize ((Rat.divInt (sLooks l0 l1 y o) (o ^ l0.length)).den : Int) = d' at *
      generalize (Rat.divInt (sLooks l0 l1 y o) (o ^ l0.length)).num = p' at *
      refine ⟨max ka (max k1 (max k2 (max k3 k4))), _, _, _, _, _, Of_ok l0 l1, by rw [e0, e1]; exact t1 _ (by omega), by rw [e0, e1]; exact t2 _ (by omega), haw _ (by omega), Or.inr ⟨rfl, t3 _ (by omega), hI, Or.inr ⟨h8', hpos, 2 ^ l0.length, kfS l0 l1 l0.length, okS l0 l1 l0.length, hsh, h256, fun s hs => ⟨by rw [e0, e1]; exact t4 _ (by omega) s hs, ?_, ?_⟩, ?_⟩⟩⟩
      · have := run_range (l0 := l0) (l1 := l1) (bl l0.length s) 0 0 (by intro e; have := bl_length l0.length s; rw [e] at this; simp at this; omega)
        unfold kfS
        omega
      · have := run_range (l0 := l0) (l1 := l1) (bl l0.length s) 0 0 (by intro e; have := bl_length l0.length s; rw [e] at this; simp at this; omega)
        rw [bl_length] at this
        unfold kfS
        omega
      · rw [eP, eT, eL]
        have hdc : d ≤ o ^ l0.length := by
          rw [q1]
          have := Int.mul_le_mul_of_nonneg_left (show 1 ≤ c by omega) (show 0 ≤ d by omega)
          omega
        have hdc' : d' ≤ o ^ l0.length := by
          rw [q1']
          have := Int.mul_le_mul_of_nonneg_left (show 1 ≤ c' by omega) (show 0 ≤ d' by omega)
          omega
        have hp0 : 0 ≤ p := by rw [q2] at hb; exact Int.nonneg_of_mul_nonneg_left hb.1 hc0
        have hpd : p ≤ d := by rw [q2, q1] at hb; exact Int.le_of_mul_le_mul_right hb.2 hc0
        have hp0' : 0 ≤ p' := by
          have : 0 ≤ p' * c' := by rw [← q2']; omega
          exact Int.nonneg_of_mul_nonneg_left this hc0'
        have hpd' : p' ≤ (l0.length : Int) * d' := by
          have : p' * c' ≤ ((l0.length : Int) * d') * c' := by rw [← q2', Int.mul_assoc, ← q1']; exact hl.2
          exact Int.le_of_mul_le_mul_right this hc0'
        have hnd : 0 ≤ (l0.length : Int) * d' ∧ (l0.length : Int) * d' ≤ 8 * 429981696 := ⟨Int.mul_nonneg (by omega) (by omega), Int.le_trans (Int.mul_le_mul_of_nonneg_right (show (l0.length : Int) ≤ 8 by omega) (by omega)) (by omega)⟩
        refine ⟨by omega, hdc, by omega, hdc', hp0, hpd, hp0', by rw [w_in (by omega) (by omega)]; exact hpd', ?_, ?_⟩
        · congr 1
          rw [q1, q2]
          grind
        · congr 1
          rw [q1', q2']
          grind
  · have hno : okP (l0.take 15) (l1.take 15) = false ∨ ¬ okC y o := by
      rw [okP_take]
      cases ho : okP l0 l1 with
      | false => exact Or.inl rfl
      | true => exact Or.inr (fun hc => h ⟨ho, hc⟩)
    obtain ⟨k1, t1⟩ := Taken_no hno
    obtain ⟨k2, t2⟩ := Looks_no hno
    exact ⟨max ka (max k1 k2), 0, 0, 0, 0, 2, Of_ok l0 l1, t1 _ (by omega), t2 _ (by omega), haw _ (by omega), Or.inl rfl⟩
end Go.Proofs.Ytdppnmfljfdhaaa.Pure
