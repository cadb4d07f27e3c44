/- The plain law of PacketsRace: one set is there first, or the other one, or both at the same time. No conditions but the sizes that the arguments have. -/
import Derived.Test.YtigmhomfadimnaaQMFirstR
import Derived.Test.YtigmhomfadimnaaQMCount
import Derived.Test.YtigmhomfadimnaaQXcomfitlaw04PacketsRace
set_option linter.unusedVariables false
set_option linter.unusedSimpArgs false
namespace Go.Proofs.Ytigmhomfadimnaa.Pure
open Go.RowKit Go.Proofs.Ytigmhomfadimnaa.X Go.Proofs.YtigmhomfadimnaaW.PrintWords Go.Proofs.YtigmhomfadimnaaW.PrintLast Go.Proofs.YtigmhomfadimnaaW.PrintMore
theorem and_tb : ∀ a : Fin 64, ∀ b : Fin 64, ∀ k : Fin 6, (Go.bits .and .i64 (a.val : Int) (b.val : Int) / 2 ^ k.val) % 2 = if ((a.val : Int) / 2 ^ k.val) % 2 = 1 ∧ ((b.val : Int) / 2 ^ k.val) % 2 = 1 then 1 else 0 := by decide +kernel
theorem and_rng : ∀ a : Fin 64, ∀ b : Fin 64, 0 ≤ Go.bits .and .i64 (a.val : Int) (b.val : Int) ∧ Go.bits .and .i64 (a.val : Int) (b.val : Int) ≤ a.val := by decide +kernel
theorem or_swap : ∀ a : Fin 64, ∀ b : Fin 64, Go.bits .or .i64 (a.val : Int) (b.val : Int) = Go.bits .or .i64 (b.val : Int) (a.val : Int) ∧ (a.val ≠ 0 → 0 < Go.bits .or .i64 (a.val : Int) (b.val : Int)) := by decide +kernel
theorem suf_append (f g : Nat → Rat) (d : Nat) : suf f 0 d + suf g 0 d = suf (fun j => f j + g j) 0 d := (suf_add f g d 0).symm
/-- All three together. -/
theorem race_one (l : List Int) (h : okW l = true) (m d d' e : Int) (h0 : 0 < m) (h1 : m < 2 ^ l.length)
    (hone : ∀ k : Nat, k < l.length → (m / 2 ^ k) % 2 = 1 → ((d / 2 ^ k) % 2 = 1 ∧ ¬ (d' / 2 ^ k) % 2 = 1 ∧ ¬ (e / 2 ^ k) % 2 = 1) ∨ (¬ (d / 2 ^ k) % 2 = 1 ∧ (d' / 2 ^ k) % 2 = 1 ∧ ¬ (e / 2 ^ k) % 2 = 1) ∨ (¬ (d / 2 ^ k) % 2 = 1 ∧ ¬ (d' / 2 ^ k) % 2 = 1 ∧ (e / 2 ^ k) % 2 = 1)) :
    gw l d m + gw l d' m + gw l e m = 1 := by
  have h2 := suf_one l h m (Int.le_of_lt h0) h1
  rw [if_neg (by omega)] at h2
  unfold gw
  rw [suf_append, suf_append, ← h2]
  refine suf_congr _ _ (fun k _ hk => ?_)
  unfold gF
  by_cases hm : (m / 2 ^ k) % 2 = 1
  · rcases hone k (by omega) hm with ⟨e1, e2, e3⟩ | ⟨e1, e2, e3⟩ | ⟨e1, e2, e3⟩
    · rw [if_pos ⟨hm, e1⟩, if_neg (fun q => e2 q.2), if_neg (fun q => e3 q.2), if_pos hm, Rat.add_zero, Rat.add_zero]
    · rw [if_neg (fun q => e1 q.2), if_pos ⟨hm, e2⟩, if_neg (fun q => e3 q.2), if_pos hm, Rat.add_zero, Rat.zero_add]
    · rw [if_neg (fun q => e1 q.2), if_neg (fun q => e2 q.2), if_pos ⟨hm, e3⟩, if_pos hm, Rat.add_zero, Rat.zero_add]
  · rw [if_neg (fun q => hm q.1), if_neg (fun q => hm q.1), if_neg (fun q => hm q.1), if_neg hm, Rat.add_zero, Rat.add_zero]
theorem race_loop (l : List Int) (h : okW l = true) (a b m e : Nat) (hm : Go.bits .or .i64 (a : Int) (b : Int) = (m : Int)) (hml : (m : Int) < 2 ^ l.length) (he : Go.bits .and .i64 (a : Int) (b : Int) = (e : Int)) (he64 : (e : Int) < 64)
    (hem : ∀ k : Nat, k < 6 → ((e : Int) / 2 ^ k) % 2 = 1 → ((m : Int) / 2 ^ k) % 2 = 1) (D : Nat) (hD : 0 < D) (hD2 : D < 1152921504606846976) (hN : ∀ i : Nat, i < l.length → ((m : Int) / 2 ^ i) % 2 = 1 → ∃ N : Int, lastR l (m : Int) i = Rat.divInt N D) (x1 x2 y1 y2 : Int) (v : Bool) :
    ∀ (n i : Nat), i + n = l.length → ∀ N : Int, 0 ≤ N → Rat.divInt N (D : Int) + suf (gF l (e : Int) (m : Int)) i n ≤ 1 →
      Ev (fun k => comfitlaw04_PacketsRace.l0 k l (a : Int) (b : Int) (l.length : Int) (l.length : Int) x1 x2 y1 y2 (fr (Rat.divInt N (D : Int) + suf (gF l (e : Int) (m : Int)) i n)).1 (fr (Rat.divInt N (D : Int) + suf (gF l (e : Int) (m : Int)) i n)).2) v →
      Ev (fun k => comfitlaw04_PacketsRace.l0 k l (a : Int) (b : Int) (l.length : Int) (i : Int) x1 x2 y1 y2 (fr (Rat.divInt N (D : Int))).1 (fr (Rat.divInt N (D : Int))).2) v := by
  have hk := (okW_iff l).1 h
  have hp := pow_le l.length hk.2.1
  have hlen := hk.2.1
  have hD0 : (0 : Int) < (D : Int) := Int.ofNat_lt.mpr hD
  have hD3 : (D : Int) < 1152921504606846976 := by omega
  have hokm : okS l (m : Int) = true := (okS_iff _ _).2 ⟨h, Int.natCast_nonneg m, hml⟩
  have HM := Aside0.mk hm
  have HE := Aside0.mk he
  clear hm he
  intro n
  induction n with
  | zero =>
    intro i hi N hN' _ hv
    rw [suf, Rat.add_zero] at hv
    rw [show i = l.length by omega]
    exact hv
  | succ n ihn =>
    intro i hi N hN' hle hv
    have hi6 : i < 6 := by clear hle hv; omega
    have hil : i < l.length := by clear hle hv; omega
    have hnx : i + 1 + n = l.length := by clear hle hv; omega
    have HBO := Aside0.mk (bit_of (e : Int) (Int.natCast_nonneg e) he64 i hi6)
    have hc1 : (i : Int) < (l.length : Int) := Int.ofNat_lt.mpr hil
    have hc0 : (0 : Int) ≤ (i : Int) := Int.natCast_nonneg i
    have hw1 : wrap64 ((i : Int) + 1) = ((i + 1 : Nat) : Int) := by rw [w_in (by clear hle hv; omega) (by clear hle hv; omega)]; rfl
    rw [suf] at hle hv
    by_cases hb : ((e : Int) / 2 ^ i) % 2 = 1
    · have hm1 := hem i hi6 hb
      have hg : gF l (e : Int) (m : Int) i = lastR l (m : Int) i := by unfold gF; rw [if_pos ⟨hm1, hb⟩]
      obtain ⟨M, hM⟩ := hN i hil hm1
      have hlr := lastR_le l h (m : Int) i hil
      have hM0 := divInt_nonneg' hD0 (by rw [← hM]; exact hlr.2)
      have hrest : 0 ≤ suf (gF l (e : Int) (m : Int)) (i + 1) n := suf_nonneg _ _ (fun j _ hj => (gF_rng l h _ _ j (Nat.lt_of_lt_of_eq hj hnx)).1)
      rw [hg, ← Rat.add_assoc, hM, divInt_sum] at hle hv
      have hNM := divInt_le_one hD0 (N := N + M) (by
        generalize Rat.divInt (N + M) (D : Int) = A at hle ⊢
        generalize suf _ _ _ = B at hle hrest
        clear hM hv
        grind)
      have hM1 := divInt_le_one hD0 (N := M) (by rw [← hM]; exact hlr.1)
      have hL := Last_ev l (m : Int) hokm i hil hm1
      rw [hM] at hL
      have hadd := added_ev N M (D : Int) hD0 (Int.le_of_lt hD3) hN' hM0 (Int.lt_of_le_of_lt hNM (Int.lt_trans hD3 (by decide)))
      have hright := right_ok M (D : Int) 1 hD0 (by decide) (by decide) hM0 (by rw [Int.one_mul]; exact hM1)
      have hnext := ihn (i + 1) hnx (N + M) (Int.add_nonneg hN' hM0) hle hv
      have hbb : ¬ Go.bits .and .i64 (shr .i64 (e : Int) (i : Int)) 1 = 0 := by rw [HBO.out, hb]; decide
      have hj2 : Ev (fun k => comfitlaw04_PacketsRace.j2 k l (a : Int) (b : Int) (l.length : Int) (i : Int) false x1 x2 y1 y2 (fr (Rat.divInt N (D : Int))).1 (fr (Rat.divInt N (D : Int))).2 (fr (Rat.divInt M (D : Int))).1 (fr (Rat.divInt M (D : Int))).2) v := by
        refine Ev.succ (g := fun k => (comfitlaw04_added.f k (fr (Rat.divInt N (D : Int))).1 (fr (Rat.divInt N (D : Int))).2 (fr (Rat.divInt M (D : Int))).1 (fr (Rat.divInt M (D : Int))).2 false).bind fun t => if t.2.2 = true then comfitlaw04_PacketsRace.l0 k l (a : Int) (b : Int) (l.length : Int) ((i + 1 : Nat) : Int) x1 x2 y1 y2 t.1 t.2.1 else some false) (Ev.bind hadd (Ev.ifPos rfl hnext)) (fun k => ?_)
        rw [comfitlaw04_PacketsRace.j2, if_neg (by decide), hw1]
      refine Ev.succ (g := fun k => (packets_Last.f k l (m : Int) (i : Int)).bind fun t => if t.2.2 = 0 then (comfitlaw04_right.f t.1 t.2.1 1).bind fun r => comfitlaw04_PacketsRace.j2 k l (a : Int) (b : Int) (l.length : Int) (i : Int) (!r) x1 x2 y1 y2 (fr (Rat.divInt N (D : Int))).1 (fr (Rat.divInt N (D : Int))).2 t.1 t.2.1 else comfitlaw04_PacketsRace.j2 k l (a : Int) (b : Int) (l.length : Int) (i : Int) true x1 x2 y1 y2 (fr (Rat.divInt N (D : Int))).1 (fr (Rat.divInt N (D : Int))).2 t.1 t.2.1) (Ev.bind hL (Ev.ifPos rfl ?_)) (fun k => ?_)
      · exact Ev.bind (g := fun _ => comfitlaw04_right.f _ _ 1) (Ev.const hright) hj2
      · simp only [comfitlaw04_PacketsRace.l0, if_pos hc1, if_pos hc0, HE.out, if_neg hbb, list_ok, take_ok l h, Option.bind_some, HM.out]
    · have hg : gF l (e : Int) (m : Int) i = 0 := by unfold gF; rw [if_neg (fun q => hb q.2)]
      rw [hg, Rat.zero_add] at hle hv
      have hnext := ihn (i + 1) hnx N hN' hle hv
      have hb0 : ((e : Int) / 2 ^ i) % 2 = 0 := by clear hle hv hnext; omega
      have hbb : Go.bits .and .i64 (shr .i64 (e : Int) (i : Int)) 1 = 0 := by rw [HBO.out, hb0]
      refine Ev.succ (g := fun k => _) hnext (fun k => ?_)
      simp only [comfitlaw04_PacketsRace.l0, if_pos hc1, if_pos hc0, HE.out, if_pos hbb, hw1]
theorem race_end (l : List Int) (a b : Nat) (D : Nat) (hD : 0 < D) (hD2 : D < 1152921504606846976) (X Y Z : Int) (hX : 0 ≤ X) (hY : 0 ≤ Y) (hZ : 0 ≤ Z) (hs : X + Y + Z = (D : Int))
    (hx : Go.bits .andNot .i64 (b : Int) (a : Int) = 0 → X = 0) (hy : Go.bits .andNot .i64 (a : Int) (b : Int) = 0 → Y = 0) :
    Ev (fun k => comfitlaw04_PacketsRace.l0 k l (a : Int) (b : Int) (l.length : Int) (l.length : Int) (fr (Rat.divInt X (D : Int))).1 (fr (Rat.divInt X (D : Int))).2 (fr (Rat.divInt Y (D : Int))).1 (fr (Rat.divInt Y (D : Int))).2 (fr (Rat.divInt Z (D : Int))).1 (fr (Rat.divInt Z (D : Int))).2) true := by
  have hD0 : (0 : Int) < (D : Int) := Int.ofNat_lt.mpr hD
  have hD3 : (D : Int) < 1152921504606846976 := by omega
  have HX := Aside0.mk hx
  have HY := Aside0.mk hy
  clear hx hy
  have r1 := right_ok X (D : Int) 1 hD0 (by decide) (by decide) hX (by omega)
  have r2 := right_ok Y (D : Int) 1 hD0 (by decide) (by decide) hY (by omega)
  have a1 := added_ev X Y (D : Int) hD0 (Int.le_of_lt hD3) hX hY (by omega)
  have a2 := added_ev (X + Y) Z (D : Int) hD0 (Int.le_of_lt hD3) (by omega) hZ (by omega)
  have e1 : Rat.divInt (X + Y + Z) (D : Int) = 1 := by
    rw [hs, Rat.divInt_eq_div]
    have hDr := ratE_pos hD0
    rw [Rat.div_def]
    exact Rat.mul_inv_cancel _ (by grind)
  rw [e1] at a2
  have hj3 : Ev (fun k => comfitlaw04_PacketsRace.j3 k false (fr (Rat.divInt X (D : Int))).1 (fr (Rat.divInt X (D : Int))).2 (fr (Rat.divInt Y (D : Int))).1 (fr (Rat.divInt Y (D : Int))).2 (fr (Rat.divInt Z (D : Int))).1 (fr (Rat.divInt Z (D : Int))).2) true := by
    refine Ev.succ (g := fun k => (comfitlaw04_added.f k (fr (Rat.divInt X (D : Int))).1 (fr (Rat.divInt X (D : Int))).2 (fr (Rat.divInt Y (D : Int))).1 (fr (Rat.divInt Y (D : Int))).2 false).bind fun t => if t.2.2 = true then ((comfitlaw04_added.f k t.1 t.2.1 (fr (Rat.divInt Z (D : Int))).1 (fr (Rat.divInt Z (D : Int))).2 false).bind fun u => if u.2.2 = true then (if (u.1 == 1 && (u.2.1 == 1)) = true then ((comfitlaw04_awake.f k).bind fun w => some w) else some false) else some false) else some false) (Ev.bind a1 (Ev.ifPos rfl (Ev.bind a2 (Ev.ifPos rfl (Ev.ifPos (by decide) (Ev.bind awake_ev (Ev.const rfl))))))) (fun k => ?_)
    rw [comfitlaw04_PacketsRace.j3, if_neg (by decide)]
  have hc1 : ¬ (l.length : Int) < (l.length : Int) := Int.lt_irrefl _
  have z1 : ∀ N : Int, N = 0 → (fr (Rat.divInt N (D : Int))).1 = 0 := fun N e => by rw [e, Rat.zero_divInt]; rfl
  refine Ev.succ (g := fun k => _) hj3 (fun k => ?_)
  rw [comfitlaw04_PacketsRace.l0, if_neg hc1, r1, Option.bind_some, if_pos rfl, r2, Option.bind_some, if_pos rfl]
  by_cases c1 : Go.bits .andNot .i64 (b : Int) (a : Int) = 0
  · rw [if_pos c1, if_pos (z1 X (HX.out c1))]
    by_cases c2 : Go.bits .andNot .i64 (a : Int) (b : Int) = 0
    · rw [if_pos c2, z1 Y (HY.out c2)]; rfl
    · rw [if_neg c2]
  · rw [if_neg c1]
    by_cases c2 : Go.bits .andNot .i64 (a : Int) (b : Int) = 0
    · rw [if_pos c2, z1 Y (HY.out c2)]; rfl
    · rw [if_neg c2]
theorem gw_atD (l : List Int) (d m : Int) (D : Nat) (hN : ∀ i : Nat, i < l.length → (m / 2 ^ i) % 2 = 1 → ∃ N : Int, lastR l m i = Rat.divInt N D) : ∃ N : Int, gw l d m = Rat.divInt N (D : Int) := by
  refine suf_over _ _ _ _ (fun j _ hj => ?_)
  unfold gF
  split
  · rename_i e
    exact hN j (by omega) e.1
  · exact ⟨0, by rw [Rat.zero_divInt]⟩
theorem gw_of_zero (l : List Int) (hl : l.length ≤ 6) (d m : Int) (hd : d = 0) : gw l d m = 0 := gw_zero l d m (fun k hk _ e => by
  rw [hd, zero_tb ⟨k, by omega⟩] at e
  omega)
theorem divInt_inj {a b D : Int} (hD : 0 < D) (h : Rat.divInt a D = Rat.divInt b D) : a = b := by
  have hDr := ratE_pos hD
  rw [Rat.divInt_eq_div, Rat.divInt_eq_div, Rat.div_def, Rat.div_def] at h
  have h2 := congrArg (· * (D : Rat)) h
  simp only [Rat.mul_assoc, Rat.inv_mul_cancel _ (show (D : Rat) ≠ 0 by grind), Rat.mul_one] at h2
  exact_mod_cast h2
theorem PacketsRace : comfitlaw04_PacketsRace.Pure := by
  intro l a b _ hl _ _ _
  refine Ev.get ?_
  unfold comfitlaw04_PacketsRace.f
  rw [list_ok]
  simp only [Option.bind_some]
  have hlen : l.length < 4611686018427387904 := by omega
  have hno : Ev (fun k => comfitlaw04_PacketsRace.j0 k l a b 2 2 true 0 0 0 0) true := by
    refine Ev.succ (g := fun k => (comfitlaw04_awake.f k).bind fun t => some t) (Ev.bind awake_ev (Ev.const rfl)) (fun k => ?_)
    simp [comfitlaw04_PacketsRace.j0]
  have hbad : (okS l a = false ∨ okS l b = false ∨ a = 0 ∨ b = 0) → Ev (fun k => (packets_First.f k (l.take 8) a b).bind fun bt720 => (packets_First.f k (l.take 8) b a).bind fun bt727 => (if bt720.2.2 = 0 then (if bt727.2.2 = 0 then ((comfitref04_Set.f k l a).bind fun t731 => (if t731 = true then ((comfitref04_Set.f k l b).bind fun t732 => (comfitlaw04_PacketsRace.j0 k l a b bt720.2.2 bt727.2.2 (!t732) bt720.1 bt720.2.1 bt727.1 bt727.2.1)) else (comfitlaw04_PacketsRace.j0 k l a b bt720.2.2 bt727.2.2 true bt720.1 bt720.2.1 bt727.1 bt727.2.1))) else (comfitlaw04_PacketsRace.j0 k l a b bt720.2.2 bt727.2.2 true bt720.1 bt720.2.1 bt727.1 bt727.2.1)) else (comfitlaw04_PacketsRace.j0 k l a b bt720.2.2 bt727.2.2 true bt720.1 bt720.2.1 bt727.1 bt727.2.1))) true := fun hx =>
    Ev.bind (First_bad _ a b (by rw [okS_take, okS_take]; exact hx)) (Ev.bind (First_bad _ b a (by
      rw [okS_take, okS_take]
      rcases hx with e | e | e | e
      · exact .inr (.inl e)
      · exact .inl e
      · exact .inr (.inr (.inr e))
      · exact .inr (.inr (.inl e)))) (Ev.ifNeg (by decide) hno))
  by_cases hx : okS l a = false ∨ okS l b = false ∨ a = 0 ∨ b = 0
  · exact hbad hx
  clear hbad hno
  have hA : okS l a = true := by
    cases e : okS l a with
    | true => rfl
    | false => exact absurd (.inl e) hx
  have hB : okS l b = true := by
    cases e : okS l b with
    | true => rfl
    | false => exact absurd (.inr (.inl e)) hx
  have ha0 : a ≠ 0 := fun e => hx (.inr (.inr (.inl e)))
  have hb0 : b ≠ 0 := fun e => hx (.inr (.inr (.inr e)))
  clear hx
  obtain ⟨h, a0, a1⟩ := (okS_iff l a).1 hA
  obtain ⟨-, b0, b1⟩ := (okS_iff l b).1 hB
  have hk := (okW_iff l).1 h
  have hp := pow_le l.length hk.2.1
  obtain ⟨an, rfl⟩ := Int.eq_ofNat_of_zero_le a0
  obtain ⟨bn, rfl⟩ := Int.eq_ofNat_of_zero_le b0
  have ha64 : an < 64 := by omega
  have hb64 : bn < 64 := by omega
  obtain ⟨m, d, Q⟩ := Sets.of l h an bn a1 b1
  obtain ⟨m', d', Q'⟩ := Sets.of l h bn an b1 a1
  have hmm : m' = m := by
    have e1 := (or_swap ⟨an, ha64⟩ ⟨bn, hb64⟩).1
    have e2 := Q.or_
    have e3 := Q'.or_
    dsimp only at e1
    rw [e2, e3] at e1
    exact (Int.ofNat.inj e1).symm
  subst hmm
  have hm0 : (0 : Int) < (m' : Int) := by
    have e1 := (or_swap ⟨an, ha64⟩ ⟨bn, hb64⟩).2 (fun e => ha0 (by dsimp only at e; rw [e]; rfl))
    have e2 := Q.or_
    dsimp only at e1
    rw [e2] at e1
    exact e1
  obtain ⟨e, he⟩ := Int.eq_ofNat_of_zero_le (and_rng ⟨an, ha64⟩ ⟨bn, hb64⟩).1
  have her := (and_rng ⟨an, ha64⟩ ⟨bn, hb64⟩).2
  dsimp only at he her
  rw [he] at her
  have heb : ∀ k : Nat, k < 6 → ((e : Int) / 2 ^ k) % 2 = if ((an : Int) / 2 ^ k) % 2 = 1 ∧ ((bn : Int) / 2 ^ k) % 2 = 1 then 1 else 0 := fun k hk6 => by
    rw [← he]; exact and_tb ⟨an, ha64⟩ ⟨bn, hb64⟩ ⟨k, hk6⟩
  obtain ⟨D, hD, hD2, hN⟩ := last_over' l h (m' : Int)
  have hD0 : (0 : Int) < (D : Int) := Int.ofNat_lt.mpr hD
  obtain ⟨X, hX⟩ := gw_atD l (d : Int) (m' : Int) D hN
  obtain ⟨Y, hY⟩ := gw_atD l (d' : Int) (m' : Int) D hN
  obtain ⟨Z, hZ⟩ := gw_atD l (e : Int) (m' : Int) D hN
  have rX := gw_rng l h (d : Int) (m' : Int) (Int.le_of_lt hm0) Q.ml
  have rY := gw_rng l h (d' : Int) (m' : Int) (Int.le_of_lt hm0) Q.ml
  have rZ := gw_rng l h (e : Int) (m' : Int) (Int.le_of_lt hm0) Q.ml
  have hone := race_one l h (m' : Int) (d : Int) (d' : Int) (e : Int) hm0 Q.ml (fun k hkl hmk => by
    have hk6 : k < 6 := Nat.lt_of_lt_of_le hkl hk.2.1
    have q1 := Q.db k hk6
    have q2 := Q'.db k hk6
    have q3 := heb k hk6
    have q4 := Q.mb k hk6
    rw [hmk] at q4
    rw [q1, q2, q3]
    have z1 : ((an : Int) / 2 ^ k) % 2 = 0 ∨ ((an : Int) / 2 ^ k) % 2 = 1 := Int.emod_two_eq _
    have z2 : ((bn : Int) / 2 ^ k) % 2 = 0 ∨ ((bn : Int) / 2 ^ k) % 2 = 1 := Int.emod_two_eq _
    rcases z1 with z1 | z1 <;> rcases z2 with z2 | z2 <;> rw [z1, z2] at q4 ⊢ <;> simp at q4 ⊢)
  rw [hX, hY, hZ, divInt_sum, divInt_sum] at hone
  have hsum : X + Y + Z = (D : Int) := divInt_inj hD0 (by
    rw [hone, Rat.divInt_eq_div, Rat.div_def]
    have hDr := ratE_pos hD0
    exact (Rat.mul_inv_cancel _ (by grind)).symm)
  have hX0 := divInt_nonneg' hD0 (by rw [← hX]; exact rX.1)
  have hY0 := divInt_nonneg' hD0 (by rw [← hY]; exact rY.1)
  have hZ0 := divInt_nonneg' hD0 (by rw [← hZ]; exact rZ.1)
  have hend := race_end l an bn D hD hD2 X Y Z hX0 hY0 hZ0 hsum (fun c => by
    have e1 := gw_of_zero l hk.2.1 (d : Int) (m' : Int) (by rw [← Q.not_]; exact c)
    rw [hX, ← Rat.zero_divInt (D : Int)] at e1
    exact divInt_inj hD0 e1) (fun c => by
    have e1 := gw_of_zero l hk.2.1 (d' : Int) (m' : Int) (by rw [← Q'.not_]; exact c)
    rw [hY, ← Rat.zero_divInt (D : Int)] at e1
    exact divInt_inj hD0 e1)
  have hz : Rat.divInt 0 (D : Int) + suf (gF l (e : Int) (m' : Int)) 0 l.length = Rat.divInt Z (D : Int) := by
    rw [Rat.zero_divInt, Rat.zero_add]; exact hZ
  have hloop := race_loop l h an bn m' e Q.or_ Q.ml he (by omega) (fun k hk6 hek => by
    rw [heb k hk6] at hek
    rw [Q.mb k hk6]
    split at hek
    · rename_i q; rw [if_pos (.inl q.1)]
    · omega) D hD hD2 hN (fr (Rat.divInt X (D : Int))).1 (fr (Rat.divInt X (D : Int))).2 (fr (Rat.divInt Y (D : Int))).1 (fr (Rat.divInt Y (D : Int))).2 true l.length 0 (by omega) 0 (by omega) (by rw [hz, ← hZ]; exact rZ.2) (by rw [hz]; exact hend)
  rw [Rat.zero_divInt] at hloop
  have hF1 := First_ev l an bn hA hB (by omega) (by omega) m' d Q
  have hF2 := First_ev l bn an hB hA (by omega) (by omega) m' d' Q'
  rw [hX] at hF1
  rw [hY] at hF2
  rw [take_ok l h]
  refine Ev.bind hF1 (Ev.bind hF2 (Ev.ifPos rfl (Ev.ifPos rfl (Ev.bind ((Set_ev l an hlen).cast hA) (Ev.ifPos rfl (Ev.bind ((Set_ev l bn hlen).cast hB) ?_))))))
  refine Ev.succ (g := fun k => _) hloop (fun k => ?_)
  rw [comfitlaw04_PacketsRace.j0, if_neg (by decide)]
  rfl
end Go.Proofs.Ytigmhomfadimnaa.Pure
