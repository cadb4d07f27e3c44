/- The plain law of PacketsFirst: First answers as the reference. No conditions but the sizes that the arguments have. -/
import Derived.Test.YtigmhomfadimnaaQMFirstP
import Derived.Test.YtigmhomfadimnaaQXcomfitlaw04PacketsFirst
set_option linter.unusedVariables false
set_option linter.unusedSimpArgs false
namespace Go.Proofs.Ytigmhomfadimnaa.Pure
open Go.RowKit Go.Proofs.Ytigmhomfadimnaa.X Go.Proofs.YtigmhomfadimnaaW.PrintWords Go.Proofs.YtigmhomfadimnaaW.PrintLast Go.Proofs.YtigmhomfadimnaaW.PrintMore
theorem rl_over' (D x : Nat) (hD : 0 < D) : ∀ L : List (Bool × Nat), (∀ c ∈ L, 0 < c.2 + x ∧ c.2 + x ∣ D) → ∃ N : Int, rl x L = Rat.divInt N D := by
  intro L
  induction L with
  | nil => intro _; exact ⟨0, by rw [rl, Rat.zero_divInt]⟩
  | cons c L ih =>
    obtain ⟨b, y⟩ := c
    intro hd
    obtain ⟨N, hN⟩ := ih (fun c hc => hd c (by simp [hc]))
    have hyd := hd (b, y) (by simp)
    have h := term_eq x (y + x) D hyd.1 hyd.2 hD (if b then 1 else -1)
    refine ⟨(if b then 1 else -1) * (x * (D / (y + x)) : Nat) + N, ?_⟩
    rw [rl, hN, ← divInt_sum, ← h]
    congr 1
    rw [Rat.divInt_eq_div, Rat.intCast_mul]
    have e1 : (((y + x : Nat) : Int) : Rat) = (x : Rat) + (y : Rat) := by
      rw [Rat.intCast_natCast]; push_cast; grind
    rw [e1, Rat.intCast_natCast]
    cases b
    · simp only [Bool.false_eq_true, if_false]
      show _ = ((-1 : Int) : Rat) * _ / _
      grind
    · simp only [if_true]
      show _ = ((1 : Int) : Rat) * _ / _
      grind
theorem last_over' (l : List Int) (h : okW l = true) (s : Int) : ∃ D : Nat, 0 < D ∧ D < 1152921504606846976 ∧ ∀ i : Nat, i < l.length → (s / 2 ^ i) % 2 = 1 → ∃ N : Int, lastR l s i = Rat.divInt N D := by
  have hk := (okW_iff l).1 h
  have hr := sub_range l s hk.2.2
  obtain ⟨D, hD, hD2, hdv, _⟩ := good2 (sub l s) hr.1 (by omega)
  refine ⟨D, hD, hD2, fun i hi hb => ?_⟩
  have hx := rd_ok l h i hi
  have hperm := sub_minus l s i hi hb
  obtain ⟨N, hN⟩ := rl_over' D (rd l (i : Int)).toNat hD (dscS (sub l (s - 2 ^ i))) (fun c hc => by
    have hy : c.2 ∈ sumsN (sub l (s - 2 ^ i)) := by rw [← dscS_snd]; exact List.mem_map.2 ⟨c, hc, rfl⟩
    have hy2 : c.2 + (rd l (i : Int)).toNat ∈ sumsN (sub l s) := by
      refine (sumsN_perm hperm).mem_iff.2 ?_
      rw [sumsN, List.mem_flatMap]
      exact ⟨_, hy, by simp⟩
    rcases hdv _ hy2 with h | h
    · omega
    · exact ⟨by omega, h⟩)
  exact ⟨N, by rw [← hN, rl_gg, gg_ee]; rfl⟩
theorem refFirst_loop (l : List Int) (h : okW l = true) (a b m d : Nat) (Q : Sets l a b m d) (D : Nat) (hD : 0 < D) (hD2 : D < 1152921504606846976) (hN : ∀ i : Nat, i < l.length → ((m : Int) / 2 ^ i) % 2 = 1 → ∃ N : Int, lastR l (m : Int) i = Rat.divInt N D) :
    ∀ (e i : Nat), i + e = l.length → ∀ N : Int, 0 ≤ N → Rat.divInt N (D : Int) + suf (gF l (d : Int) (m : Int)) i e ≤ 1 →
      Ev (fun k => comfitref04_First.l0 k l (a : Int) (b : Int) (l.length : Int) (i : Int) (fr (Rat.divInt N (D : Int))).1 (fr (Rat.divInt N (D : Int))).2) (fr (Rat.divInt N (D : Int) + suf (gF l (d : Int) (m : Int)) i e)) := by
  have hk := (okW_iff l).1 h
  have hp := pow_le l.length hk.2.1
  have hlen := hk.2.1
  have hD0 : (0 : Int) < (D : Int) := Int.ofNat_lt.mpr hD
  have hD3 : (D : Int) < 1152921504606846976 := by omega
  have hd64 : (d : Int) < 64 := by have := Q.d64; omega
  intro e
  induction e with
  | zero =>
    intro i hi N hN' _
    have hc1 : ¬ (i : Int) < (l.length : Int) := by omega
    refine Ev.succ (g := fun _ => some (fr (Rat.divInt N (D : Int)))) (Ev.const ?_) (fun k => by rw [comfitref04_First.l0, if_neg hc1])
    rw [suf, Rat.add_zero]
  | succ e ihe =>
    intro i hi N hN' hle
    have hi6 : i < 6 := by clear hle; omega
    have hil : i < l.length := by clear hle; omega
    have hnx : i + 1 + e = l.length := by clear hle; omega
    have HBO := Aside0.mk (bit_of (d : Int) (Int.natCast_nonneg d) hd64 i hi6)
    have hc1 : (i : Int) < (l.length : Int) := Int.ofNat_lt.mpr hil
    have hc0 : (0 : Int) ≤ (i : Int) := Int.natCast_nonneg i
    have hw1 : wrap64 ((i : Int) + 1) = ((i + 1 : Nat) : Int) := by rw [w_in (by clear hle; omega) (by clear hle; omega)]; rfl
    rw [suf] at hle ⊢
    by_cases hb : ((d : Int) / 2 ^ i) % 2 = 1
    · have hdb := Q.db i hi6
      have hmb := Q.mb i hi6
      have hm1 : ((m : Int) / 2 ^ i) % 2 = 1 := by
        rw [hb] at hdb
        split at hdb
        · rename_i q
          rw [hmb, if_pos (.inr q.1)]
        · omega
      clear hdb hmb
      have hg : gF l (d : Int) (m : Int) i = lastR l (m : Int) i := by unfold gF; rw [if_pos ⟨hm1, hb⟩]
      obtain ⟨M, hM⟩ := hN i hil hm1
      have hlr := lastR_le l h (m : Int) i hil
      have hM0 := divInt_nonneg' hD0 (by rw [← hM]; exact hlr.2)
      have hrest : 0 ≤ suf (gF l (d : Int) (m : Int)) (i + 1) e := suf_nonneg _ _ (fun j _ hj => (gF_rng l h _ _ j (Nat.lt_of_lt_of_eq hj hnx)).1)
      rw [hg, ← Rat.add_assoc, hM, divInt_sum] at hle ⊢
      have hNM := divInt_le_one hD0 (N := N + M) (by
        generalize Rat.divInt (N + M) (D : Int) = A at hle ⊢
        generalize suf _ _ _ = B at hle hrest
        clear hM
        grind)
      have hL := refLast_ev l h (m : Int).toNat (m : Int) rfl (Int.natCast_nonneg m) Q.ml i hil hm1
      rw [hM] at hL
      have hP := ref_Plus_ev N M (D : Int) hD0 (Int.lt_trans hD3 (by decide)) (Int.lt_of_lt_of_le (by decide) (Int.add_nonneg hN' hM0)) (Int.lt_of_le_of_lt hNM (Int.lt_trans hD3 (by decide)))
      have hnext := ihe (i + 1) hnx (N + M) (Int.add_nonneg hN' hM0) hle
      have hbb := HBO.out.trans hb
      refine Ev.succ (g := fun k => (comfitref04_Last.f k l (m : Int) (i : Int)).bind fun t => (comfitref04_Plus.f k (fr (Rat.divInt N (D : Int))).1 (fr (Rat.divInt N (D : Int))).2 t.1 t.2).bind fun c => comfitref04_First.l0 k l (a : Int) (b : Int) (l.length : Int) ((i + 1 : Nat) : Int) c.1 c.2) (Ev.bind hL (Ev.bind hP hnext)) (fun k => ?_)
      simp only [comfitref04_First.l0, if_pos hc1, if_pos hc0, Q.not_, Q.or_, if_pos hbb, hw1]
    · have hg : gF l (d : Int) (m : Int) i = 0 := by unfold gF; rw [if_neg (fun q => hb q.2)]
      rw [hg, Rat.zero_add] at hle ⊢
      have hnext := ihe (i + 1) hnx N hN' hle
      have hbb : ¬ Go.bits .and .i64 (shr .i64 (d : Int) (i : Int)) 1 = 1 := fun q => hb (HBO.out.symm.trans q)
      refine Ev.succ (g := fun k => _) hnext (fun k => ?_)
      simp only [comfitref04_First.l0, if_pos hc1, if_pos hc0, Q.not_, if_neg hbb, hw1]
theorem refFirst_ev (l : List Int) (h : okW l = true) (a b m d : Nat) (Q : Sets l a b m d) : Ev (fun k => comfitref04_First.f k l (a : Int) (b : Int)) (fr (gw l (d : Int) (m : Int))) := by
  obtain ⟨D, hD, hD2, hN⟩ := last_over' l h (m : Int)
  have hloop := refFirst_loop l h a b m d Q D hD hD2 hN l.length 0 (by omega) 0 (by omega) (by rw [Rat.zero_divInt, Rat.zero_add]; exact (gw_rng l h _ _ (Int.natCast_nonneg m) Q.ml).2)
  rw [Rat.zero_divInt, Rat.zero_add] at hloop
  unfold comfitref04_First.f
  exact Ev.bind (g := fun _ => some (0, 1)) (v := (0, 1)) (Ev.const rfl) hloop
theorem PacketsFirst : comfitlaw04_PacketsFirst.Pure := by
  intro l a b _ hl _ _ _
  refine Ev.get ?_
  unfold comfitlaw04_PacketsFirst.f
  rw [list_ok]
  simp only [Option.bind_some]
  have hlen : l.length < 4611686018427387904 := by omega
  have hno : Ev (fun k => comfitlaw04_PacketsFirst.j0 k l a b 2 true 0 0) true := by
    refine Ev.succ (g := fun k => (comfitlaw04_awake.f k).bind fun t472 => some t472) (Ev.bind awake_ev (Ev.const rfl)) (fun k => ?_)
    simp [comfitlaw04_PacketsFirst.j0, comfitlaw04_none.f]
  have hbad : (okS l a = false ∨ okS l b = false ∨ a = 0 ∨ b = 0) → Ev (fun k => packets_First.f k (l.take 8) a b) (0, 0, 2) := fun hx => First_bad _ a b (by rw [okS_take, okS_take]; exact hx)
  cases hA : okS l a with
  | false => exact Ev.bind (hbad (.inl hA)) (Ev.bind ((Set_ev l a hlen).cast hA) (Ev.ifNeg (by decide) hno))
  | true =>
    cases hB : okS l b with
    | false => exact Ev.bind (hbad (.inr (.inl hB))) (Ev.bind ((Set_ev l a hlen).cast hA) (Ev.ifPos rfl (Ev.bind ((Set_ev l b hlen).cast hB) (Ev.ifNeg (by decide) hno))))
    | true =>
      by_cases ha0 : a = 0
      · exact Ev.bind (hbad (.inr (.inr (.inl ha0)))) (Ev.bind ((Set_ev l a hlen).cast hA) (Ev.ifPos rfl (Ev.bind ((Set_ev l b hlen).cast hB) (Ev.ifPos rfl (Ev.ifPos ha0 hno)))))
      · by_cases hb0 : b = 0
        · refine Ev.bind (hbad (.inr (.inr (.inr hb0)))) (Ev.bind ((Set_ev l a hlen).cast hA) (Ev.ifPos rfl (Ev.bind ((Set_ev l b hlen).cast hB) (Ev.ifPos rfl (Ev.ifNeg ha0 ?_)))))
          rw [show (b == 0) = true from beq_iff_eq.mpr hb0]
          exact hno
        · obtain ⟨h, a0, a1⟩ := (okS_iff l a).1 hA
          obtain ⟨-, b0, b1⟩ := (okS_iff l b).1 hB
          obtain ⟨an, rfl⟩ := Int.eq_ofNat_of_zero_le a0
          obtain ⟨bn, rfl⟩ := Int.eq_ofNat_of_zero_le b0
          obtain ⟨m, d, Q⟩ := Sets.of l h an bn a1 b1
          rw [take_ok l h]
          refine Ev.bind (First_ev l an bn hA hB (by omega) (by omega) m d Q) (Ev.bind ((Set_ev l an hlen).cast hA) (Ev.ifPos rfl (Ev.bind ((Set_ev l bn hlen).cast hB) (Ev.ifPos rfl (Ev.ifNeg ha0 ?_)))))
          rw [show ((bn : Int) == 0) = false from beq_eq_false_iff_ne.mpr hb0]
          refine Ev.succ (g := fun k => (comfitref04_First.f k l (an : Int) (bn : Int)).bind fun bt473 => (if ((fr (gw l (d : Int) (m : Int))).1 == bt473.1 && ((fr (gw l (d : Int) (m : Int))).2 == bt473.2)) = true then (if (0 : Int) = 0 then ((comfitlaw04_awake.f k).bind fun t475 => (some t475)) else (some false)) else (some false))) ?_ (fun k => ?_)
          · exact Ev.bind (refFirst_ev l h an bn m d Q) (Ev.ifPos (by simp) (Ev.ifPos rfl (Ev.bind awake_ev (Ev.const rfl))))
          · rw [comfitlaw04_PacketsFirst.j0, if_neg (by decide)]
end Go.Proofs.Ytigmhomfadimnaa.Pure
