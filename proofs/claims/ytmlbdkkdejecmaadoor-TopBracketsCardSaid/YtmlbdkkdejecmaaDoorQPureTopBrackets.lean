/- The left creases of a pile with an even number of leaves that can be folded are brackets: of every slice; no conditions but the sizes that the argument has. -/
import Derived.Test.YtmlbdkkdejecmaaDoorQMPiles
import Derived.Test.YtmlbdkkdejecmaaDoorQMPilesE
set_option linter.unusedVariables false
set_option linter.unusedSimpArgs false
namespace Go.Proofs.YtmlbdkkdejecmaaDoor.Pure
open Go.RowKit Go.Proofs.YtmlbdkkdejecmaaDoor.X Go.Proofs.YtmlbdkkdejecmaaDoorW.PrintWords Go.Proofs.YtmlbdkkdejecmaaDoorW.PrintLast
/-- The number of the elements of a small set. -/
def pc (x : Nat) : Nat := ((List.range 7).filter (fun j => Nat.testBit x j)).length
theorem bor_one : ∀ a < 128, ∀ i < 7, Go.bits .or .i64 ((a : Nat) : Int) (shl .i64 1 ((i : Nat) : Int)) = ((a ||| 2 ^ i : Nat) : Int) := by decide +kernel
theorem pc_one : ∀ a < 128, ∀ i < 7, pc (a ||| 2 ^ i) = pc a + (if Nat.testBit a i = true then 0 else 1) := by decide +kernel
theorem full_pc : ∀ n < 8, ∀ a < 128, (((a : Nat) : Int) == wrap64 ((shl .i64 1 ((n : Nat) : Int)) - 1)) = true → pc a = n := by decide +kernel
/-- The state amid the look at a pile. -/
structure Inv (l : List Int) (n i s : Nat) : Prop where
  lt : s < 128
  le : pc s ≤ i
  rng : ∀ j : Nat, j < i → 0 ≤ rd l (j : Int) ∧ rd l (j : Int) < n
  dis : pc s = i → (∀ j : Nat, j < i → Nat.testBit s (rd l (j : Int)).toNat = true) ∧ ∀ a b : Nat, a < b → b < i → rd l (a : Int) ≠ rd l (b : Int)
theorem isPile_go (l : List Int) (hn7 : l.length ≤ 7) : ∀ (d i s : Nat), i + d = l.length → Inv l l.length i s →
    ∃ b, Ev (fun k => folds_isPile.l0 k l (l.length : Int) (s : Int) l (l.length : Int) (i : Int)) b ∧ (b = true → (∀ j : Nat, j < l.length → 0 ≤ rd l (j : Int) ∧ rd l (j : Int) < l.length) ∧ ∀ a b : Nat, a < b → b < l.length → rd l (a : Int) ≠ rd l (b : Int)) := by
  intro d
  induction d with
  | zero =>
    intro i s hi h
    obtain rfl : i = l.length := by omega
    refine ⟨((s : Int) == wrap64 ((shl .i64 1 (l.length : Int)) - 1)), Ev.succ (g := fun _ => some ((s : Int) == wrap64 ((shl .i64 1 (l.length : Int)) - 1))) (Ev.const rfl) (fun k => by rw [folds_isPile.l0, if_neg (by omega), if_pos rfl, if_pos (by omega)]), fun hb => ?_⟩
    have := full_pc l.length (by omega) s h.lt hb
    exact ⟨h.rng, (h.dis this).2⟩
  | succ d ih =>
    intro i s hi h
    have c0 : (i : Int) < (l.length : Int) := by omega
    have c1 : (0 : Int) ≤ (i : Int) := by omega
    by_cases h1 : rd l (i : Int) < 0
    · exact ⟨false, Ev.succ (g := fun _ => some false) (Ev.const rfl) (fun k => by rw [folds_isPile.l0, if_pos c0, if_pos c1, if_pos c0, if_pos h1]), fun hb => by simp at hb⟩
    · by_cases h2 : rd l (i : Int) ≥ (l.length : Int)
      · exact ⟨false, Ev.succ (g := fun _ => some false) (Ev.const rfl) (fun k => by rw [folds_isPile.l0, if_pos c0, if_pos c1, if_pos c0, if_neg h1, if_pos h2]), fun hb => by simp at hb⟩
      · have hx : ((rd l (i : Int)).toNat : Int) = rd l (i : Int) := Int.toNat_of_nonneg (by omega)
        have hx7 : (rd l (i : Int)).toNat < 7 := by omega
        have hor := bor_one s h.lt _ hx7
        rw [hx] at hor
        have hp := pc_one s h.lt _ hx7
        have h' : Inv l l.length (i + 1) (s ||| 2 ^ (rd l (i : Int)).toNat) := by
          refine ⟨Nat.or_lt_two_pow (n := 7) h.lt (Nat.pow_lt_pow_right (by omega) hx7), ?_, fun j hj => ?_, fun he => ?_⟩
          · have := h.le
            rw [hp]; split <;> omega
          · by_cases e : j = i
            · subst e; omega
            · exact h.rng j (by omega)
          · have hle := h.le
            have hnb : Nat.testBit s (rd l (i : Int)).toNat = false := by
              cases hb : Nat.testBit s (rd l (i : Int)).toNat with
              | false => rfl
              | true => rw [hp, if_pos hb] at he; omega
            rw [hp, if_neg (by rw [hnb]; decide)] at he
            obtain ⟨d1, d2⟩ := h.dis (by omega)
            refine ⟨fun j hj => ?_, fun a b hab hb => ?_⟩
            · rw [Nat.testBit_or]
              by_cases e : j = i
              · subst e; rw [Nat.testBit_two_pow]; simp
              · rw [d1 j (by omega)]; rfl
            · by_cases e : b = i
              · subst e
                intro hc
                have := d1 a hab
                rw [hc, hnb] at this
                cases this
              · exact d2 a b hab (by omega)
        obtain ⟨b, hb1, hb2⟩ := ih (i + 1) _ (by omega) h'
        refine ⟨b, Ev.succ hb1 (fun k => ?_), hb2⟩
        rw [folds_isPile.l0, if_pos c0, if_pos c1, if_pos c0, if_neg h1, if_neg h2, if_pos (by omega), hor, w_in (n := (i : Int) + 1) (by omega) (by omega)]
        rfl
theorem isStrip_ev (l : List Int) : ∃ b, Ev (fun k => folds_isStrip.f k l) b ∧ (b = true → (1 ≤ l.length ∧ l.length ≤ 7) ∧ (∀ j : Nat, j < l.length → 0 ≤ rd l (j : Int) ∧ rd l (j : Int) < l.length) ∧ ∀ a b : Nat, a < b → b < l.length → rd l (a : Int) ≠ rd l (b : Int)) := by
  by_cases h1 : (l.length : Int) ≥ 1
  · by_cases h2 : (l.length : Int) ≤ 7
    · obtain ⟨b, hb1, hb2⟩ := isPile_go l (by omega) l.length 0 0 (by omega) ⟨by omega, by decide, fun j hj => by omega, fun _ => ⟨fun j hj => by omega, fun a b _ hb => by omega⟩⟩
      exact ⟨b, Ev.ifPos h1 (Ev.ifPos h2 (Ev.bind hb1 (Ev.const rfl))), fun hb => ⟨⟨by omega, by omega⟩, hb2 hb⟩⟩
    · exact ⟨false, Ev.ifPos h1 (Ev.ifNeg h2 (Ev.const rfl)), fun hb => by simp at hb⟩
  · exact ⟨false, Ev.ifNeg h1 (Ev.const rfl), fun hb => by simp at hb⟩
theorem reads_ok : comfittop_reads.f 300 = some true := by decide +kernel
theorem chk_ok {p : List Nat} {l : List Int} (h : chk p = true) (hl : p.map (fun x : Nat => (x : Int)) = l) : ∃ k, comfittop_TopBrackets.f k l = some true := by
  subst hl
  exact ⟨300, eq_of_beq h⟩
theorem of_piles (hp : allP 7 7 [] = true) (l : List Int) (h1 : 1 ≤ l.length) (h7 : l.length ≤ 7) (hr : ∀ j : Nat, j < l.length → 0 ≤ rd l (j : Int) ∧ rd l (j : Int) < l.length) (hd : ∀ a b : Nat, a < b → b < l.length → rd l (a : Int) ≠ rd l (b : Int)) : ∃ k, comfittop_TopBrackets.f k l = some true := by
  have hget : ∀ j (hj : j < l.length), rd l (j : Int) = l[j] := fun j hj => by unfold rd; simp [hj]
  have hl : (l.map Int.toNat).map (fun x : Nat => (x : Int)) = l := by
    refine List.ext_getElem (by simp) (fun j a b => ?_)
    simp only [List.getElem_map]
    have hj : j < l.length := by simpa using a
    have := hr j hj
    rw [hget j hj] at this
    exact Int.toNat_of_nonneg this.1
  refine chk_ok (p := l.map Int.toNat) ?_ hl
  have hall : allP l.length l.length [] = true := by
    have : l.length = 1 ∨ l.length = 2 ∨ l.length = 3 ∨ l.length = 4 ∨ l.length = 5 ∨ l.length = 6 ∨ l.length = 7 := by omega
    rcases this with e | e | e | e | e | e | e
    · rw [e]; exact piles1
    · rw [e]; exact piles2
    · rw [e]; exact piles3
    · rw [e]; exact piles4
    · rw [e]; exact piles5
    · rw [e]; exact piles6
    · rw [e]; exact hp
  have := allP_spec l.length l.length [] hall (l.map Int.toNat) (by simp) (fun x hx => ?_) ?_
  · simpa using this
  · obtain ⟨y, hy, rfl⟩ := List.mem_map.mp hx
    obtain ⟨j, hj, rfl⟩ := List.mem_iff_getElem.mp hy
    have := hr j hj
    rw [hget j hj] at this
    omega
  · rw [List.nil_append]
    refine List.pairwise_iff_getElem.mpr (fun a b ha hb hab => ?_)
    simp only [List.getElem_map]
    have ha' : a < l.length := by simpa using ha
    have hb' : b < l.length := by simpa using hb
    have h2 := hd a b hab hb'
    have ra := hr a ha'
    have rb := hr b hb'
    rw [hget a ha', hget b hb'] at h2
    rw [hget a ha'] at ra
    rw [hget b hb'] at rb
    omega
theorem of_piles7 (hp : allP 7 7 [] = true) : comfittop_TopBrackets.Pure := by
  intro l _ _ _
  obtain ⟨b, hb1, hb2⟩ := isStrip_ev (l.take 9)
  cases b with
  | true =>
    obtain ⟨⟨h1, h7⟩, hr, hd⟩ := hb2 rfl
    have hlen : l.length ≤ 7 := by rw [List.length_take] at h7; omega
    have ht : l.take 9 = l := List.take_of_length_le (by omega)
    rw [ht] at h1 h7 hr hd
    exact of_piles hp l h1 h7 hr hd
  | false =>
    refine Ev.get (g := fun k => comfittop_TopBrackets.f k l) ?_
    have hreads : Ev (fun k => comfittop_reads.f k) true := Ev.of (fun k => comfittop_reads.mono _) 300 reads_ok
    have hj : Ev (fun k => comfittop_TopBrackets.j0 k l false 2 true) true :=
      Ev.succ (g := fun k => (comfittop_reads.f k).bind fun t => some t) (Ev.bind hreads (Ev.const rfl)) (fun k => by rw [comfittop_TopBrackets.j0, if_pos rfl, if_pos rfl])
    have hposs : Ev (fun k => folds_Possible.f k (l.take 9)) (false, 2) := Ev.bind hb1 (Ev.ifNeg (by decide) (Ev.const rfl))
    have hmn : l.take (mn (l.length : Int) 9).toNat = l.take 9 := by
      unfold mn
      by_cases c : (9 : Int) < (l.length : Int)
      · rw [if_pos c]; rfl
      · rw [if_neg c, Int.toNat_natCast, List.take_of_length_le (Nat.le_refl _), List.take_of_length_le (by omega)]
    unfold comfittop_TopBrackets.f
    refine Ev.ifPos (by unfold mn; split <;> omega) (Ev.ifPos (by unfold mn; split <;> omega) ?_)
    rw [hmn]
    have hcl : slices_Clone_int_int.f (l.take 9) = some (l.take 9) := by
      unfold slices_Clone_int_int.f
      rw [Option.bind_some, if_pos (by rw [List.length_take]; simp; omega), List.nil_append]
    rw [hcl]
    simp only [Option.bind_some]
    exact Ev.bind hposs (Ev.ifNeg (by decide) hj)
theorem TopBrackets : comfittop_TopBrackets.Pure := of_piles7 piles7
end Go.Proofs.YtmlbdkkdejecmaaDoor.Pure
