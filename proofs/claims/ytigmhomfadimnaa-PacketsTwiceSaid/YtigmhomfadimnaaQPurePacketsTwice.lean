/- The plain law of PacketsTwice: where nothing is wanted twice it takes as long as until all are there; with one more that is wanted twice it takes longer. No conditions but the sizes that the arguments have. -/
import Derived.Test.YtigmhomfadimnaaQMPairsL
import Derived.Test.YtigmhomfadimnaaQMLess
import Derived.Test.YtigmhomfadimnaaQXcomfitlaw04PacketsTwice
set_option linter.unusedVariables false
set_option linter.unusedSimpArgs false
namespace Go.Proofs.Ytigmhomfadimnaa.Pure
open Go.RowKit Go.Proofs.Ytigmhomfadimnaa.X Go.Proofs.YtigmhomfadimnaaW.PrintWords Go.Proofs.YtigmhomfadimnaaW.PrintLast Go.Proofs.YtigmhomfadimnaaW.PrintMore
theorem right_nat {n d : Nat} (hd : 1 ≤ d) (hn : n ≤ 400 * d) : comfitlaw04_right.f (n : Int) (d : Int) 400 = some true := by
  unfold comfitlaw04_right.f
  have hq : n / d ≤ 400 := Nat.div_le_of_le_mul (by rw [Nat.mul_comm]; exact hn)
  rw [if_pos (by omega), if_pos (by omega), if_neg (by omega), tdiv_nat, wn (by unfold B63; omega), if_pos (by omega)]
  by_cases h : n / d < 400
  · rw [if_pos (by omega)]
  · rw [if_neg (by omega)]
    have h4 : n / d = 400 := by omega
    have h5 := Nat.div_add_mod n d
    rw [h4] at h5
    have h6 : n % d = 0 := by
      have : d * 400 = 400 * d := Nat.mul_comm _ _
      omega
    have h7 : Int.tmod (n : Int) (d : Int) = ((n % d : Nat) : Int) := by
      rw [Int.tmod_eq_emod_of_nonneg (by omega)]; rfl
    rw [h7, h6]; rfl
theorem less_nat {a b c d : Nat} (hb : 1 ≤ b) (hd : 1 ≤ d) (ha : a < 9223372036854775808) (hb2 : b < 9223372036854775808) (hc : c < 9223372036854775808) (hd2 : d < 9223372036854775808) : Ev (fun k => comfitref04_Less.f k (a : Int) (b : Int) (c : Int) (d : Int)) (decide (a * d < c * b)) := by
  have := less_go (b + d) (a : Int) (b : Int) (c : Int) (d : Int) (by omega) (by omega) (by omega) (by omega) (by omega) (by omega) (by omega) (by omega) (by omega)
  refine Ev.cast this ?_
  rw [← Int.natCast_mul, ← Int.natCast_mul]
  exact decide_eq_decide.mpr Int.ofNat_lt
theorem mod_small (a : Int) (m : Nat) (h0 : 0 < m) (h1 : m ≤ 1000) : ∃ A : Nat, wrap64 (Int.tmod (IntKind.u64.wrap a) (m : Int)) = (A : Int) ∧ A < m := by
  have h2 : 0 ≤ IntKind.u64.wrap a := by
    unfold IntKind.wrap
    simp [IntKind.signed, IntKind.bits]
    omega
  have h3 := Int.tmod_nonneg (m : Int) h2
  have h4 := Int.tmod_lt_of_pos (IntKind.u64.wrap a) (show (0 : Int) < (m : Int) by omega)
  generalize Int.tmod (IntKind.u64.wrap a) (m : Int) = q at h3 h4
  clear h2
  refine ⟨q.toNat, ?_, by omega⟩
  unfold wrap64
  omega
theorem u64_small (m : Nat) (h : m ≤ 1000) : IntKind.u64.wrap (m : Int) = (m : Int) := by
  unfold IntKind.wrap
  simp [IntKind.signed, IntKind.bits]
  omega
theorem or_all : (List.range 8).all (fun (s : Nat) => (List.range 3).all fun (i : Nat) => Go.bits .or .i64 (s : Int) (shl .i64 1 (i : Int)) == (((if s / 2 ^ i % 2 = 1 then s else s + 2 ^ i : Nat)) : Int)) = true := by decide +kernel
theorem or_at {s i : Nat} (hs : s < 8) (hi : i < 3) : Go.bits .or .i64 (s : Int) (shl .i64 1 (i : Int)) = ((if s / 2 ^ i % 2 = 1 then s else s + 2 ^ i : Nat) : Int) :=
  eq_of_beq (List.all_eq_true.mp (List.all_eq_true.mp or_all s (by simpa using hs)) i (by simpa using hi))
theorem and_all : (List.range 8).all (fun (s : Nat) => (List.range 3).all fun (i : Nat) => Go.bits .and .i64 (shr .i64 (s : Int) (i : Int)) 1 == ((s / 2 ^ i % 2 : Nat) : Int)) = true := by decide +kernel
theorem and_at {s i : Nat} (hs : s < 8) (hi : i < 3) : Go.bits .and .i64 (shr .i64 (s : Int) (i : Int)) 1 = ((s / 2 ^ i % 2 : Nat) : Int) :=
  eq_of_beq (List.all_eq_true.mp (List.all_eq_true.mp and_all s (by simpa using hs)) i (by simpa using hi))
theorem add_all : (List.range 4).all (fun m => (List.range (2 ^ m)).all fun s => (List.range m).all fun i => decide (s / 2 ^ i % 2 = 1) || decide (s + 2 ^ i < 2 ^ m)) = true := by decide +kernel
theorem add_at {m s i : Nat} (hm : m ≤ 3) (hs : s < 2 ^ m) (hi : i < m) (h : ¬ s / 2 ^ i % 2 = 1) : s + 2 ^ i < 2 ^ m := by
  have := List.all_eq_true.mp (List.all_eq_true.mp (List.all_eq_true.mp add_all m (by simp; omega)) s (by simpa using hs)) i (by simpa using hi)
  simpa [h] using this
structure OkS (l : List Nat) (T : List (Nat × Nat)) (s : Nat) : Prop where
  den : 1 ≤ (vT l T s).2
  most : (vT l T s).1 ≤ 400 * (vT l T s).2
  n63 : (vT l T s).1 < 9223372036854775808
  d63 : (vT l T s).2 < 9223372036854775808
  least : (vT l T 0).1 * (vT l T s).2 ≤ (vT l T s).1 * (vT l T 0).2
  more : ∀ i, i < l.length → ¬ s / 2 ^ i % 2 = 1 → (vT l T s).1 * (vT l T (s + 2 ^ i)).2 < (vT l T (s + 2 ^ i)).1 * (vT l T s).2
theorem okT_at {l : List Nat} {T : List (Nat × Nat)} (h : okT l T = true) : packets_Mean.f 100 (cl l) (2 ^ l.length - 1) = some (((vT l T 0).1 : Int), ((vT l T 0).2 : Int), 0) ∧ ∀ s, s < 2 ^ l.length → OkS l T s := by
  unfold okT at h
  rw [Bool.and_eq_true] at h
  refine ⟨eq_of_beq h.1, fun s hs => ?_⟩
  have h2 := List.all_eq_true.mp h.2 s (by simpa using hs)
  simp only [Bool.and_eq_true, decide_eq_true_eq] at h2
  obtain ⟨⟨⟨⟨⟨h1, h2⟩, h3⟩, h4⟩, h5⟩, h6⟩ := h2
  refine ⟨h1, h2, h3, h4, h5, fun i hi hb => ?_⟩
  have := List.all_eq_true.mp h6 i (by simpa using hi)
  rw [Bool.or_eq_true, decide_eq_true_eq, decide_eq_true_eq] at this
  exact this.resolve_left hb
theorem PacketsTwice : comfitlaw04_PacketsTwice.Pure := by
  intro l s kd _ hl _ _ _
  refine Ev.get ?_
  unfold comfitlaw04_PacketsTwice.f
  rw [list_ok]
  simp only [Option.bind_some]
  have hlen : l.length < 4611686018427387904 := by omega
  by_cases hg : okS l s = true ∧ l.length ≤ 3
  · obtain ⟨hS, h3⟩ := hg
    obtain ⟨hW, hs0, hs1⟩ := (okS_iff l s).1 hS
    rw [take_ok l hW]
    obtain ⟨ln, hsm, rfl⟩ := small_of hW h3
    obtain ⟨T, hT, hok⟩ := tab_of hsm
    obtain ⟨hMean, hOk⟩ := okT_at hok
    obtain ⟨sn, rfl⟩ : ∃ sn : Nat, s = (sn : Int) := ⟨s.toNat, by omega⟩
    rw [cl_len] at hs1 h3
    have hsn : sn < 2 ^ ln.length := by exact_mod_cast hs1
    have hs8 : sn < 8 := Nat.lt_of_lt_of_le hsn (Nat.le_trans (Nat.pow_le_pow_right (by omega) h3) (by decide))
    have hp0 : 0 < 2 ^ ln.length := Nat.pow_pos (by omega)
    have O0 := hOk 0 hp0
    have Os := hOk sn hsn
    have P0 := Pairs_ok hsm hT hW 0 hp0
    have Ps := Pairs_ok hsm hT hW sn hsn
    have hl0 := hsm.len0
    have hpw := pow_le ln.length (by omega)
    have PM : Ev (fun k => packets_Mean.f k (cl ln) (wrap64 (shl .i64 1 (((cl ln).length : Nat) : Int) - 1))) (((vT ln T 0).1 : Int), ((vT ln T 0).2 : Int), 0) := by
      rw [cl_len, shl_ok ln.length (by omega), w_in (by omega) (by omega)]
      exact Ev.of (packets_Mean.mono _ _) 100 hMean
    obtain ⟨i, hi, hil⟩ := mod_small kd ln.length (by omega) (by omega)
    have hu := u64_small ln.length (by omega)
    have hLess1 : Ev (fun k => comfitref04_Less.f k ((vT ln T sn).1 : Int) ((vT ln T sn).2 : Int) ((vT ln T 0).1 : Int) ((vT ln T 0).2 : Int)) false :=
      (less_nat Os.den O0.den Os.n63 Os.d63 O0.n63 O0.d63).cast (decide_eq_false (by have := Os.least; omega))
    refine Ev.bind Ps (Ev.ifPos rfl (Ev.bind (Set_ev (cl ln) (sn : Int) hlen) (Ev.ifPos hS ?_)))
    rw [cl_len, show decide ((ln.length : Int) > 3) = false from decide_eq_false (by omega)]
    refine Ev.succ (g := fun k => _) ?_ (fun k => by rw [comfitlaw04_PacketsTwice.j0, if_neg (by decide), list_ok, take_ok (cl ln) hW])
    refine Ev.bind (g := fun _ => some _) (Ev.const rfl) ?_
    refine Ev.bind P0 ?_
    refine Ev.bind (g := fun _ => some _) (Ev.const rfl) ?_
    refine Ev.bind PM (Ev.ifPos rfl (Ev.ifPos rfl (Ev.ifNeg (by simp) ?_)))
    refine Ev.bind (g := fun _ => _) (Ev.const (right_nat O0.den O0.most)) (Ev.ifPos rfl ?_)
    refine Ev.bind (g := fun _ => _) (Ev.const (right_nat Os.den Os.most)) (Ev.ifPos rfl ?_)
    refine Ev.bind hLess1 ?_
    have hpart : ∀ (sn' : Nat), Go.bits .or .i64 (sn : Int) (shl .i64 1 (i : Int)) = (sn' : Int) → sn' < 2 ^ ln.length →
        (sn / 2 ^ i % 2 = 1 → sn' = sn) → (¬ sn / 2 ^ i % 2 = 1 → sn' = sn + 2 ^ i) → Ev (fun k => comfitlaw04_PacketsTwice.j1 k (cl ln) (sn : Int) kd false ((vT ln T sn).1 : Int) ((vT ln T sn).2 : Int)) true := by
      intro sn' hor hlt hy hn
      have Oy := hOk sn' hlt
      have Py := Pairs_ok hsm hT hW sn' hlt
      refine Ev.succ (g := fun k => (packets_Pairs.f k (cl ln) (sn' : Int)).bind fun bt660 => (if bt660.2.2 = 0 then ((comfitlaw04_right.f bt660.1 bt660.2.1 400).bind fun t664 => (if t664 = true then (if ((sn / 2 ^ i % 2 : Nat) : Int) = 1 then (if (bt660.1 == ((vT ln T sn).1 : Int) && (bt660.2.1 == ((vT ln T sn).2 : Int))) = true then ((comfitlaw04_awake.f k).bind fun t665 => (some t665)) else (if ((sn / 2 ^ i % 2 : Nat) : Int) = 0 then ((comfitref04_Less.f k ((vT ln T sn).1 : Int) ((vT ln T sn).2 : Int) bt660.1 bt660.2.1).bind fun t666 => (if t666 = true then ((comfitlaw04_awake.f k).bind fun t667 => (some t667)) else (none))) else (none))) else (if ((sn / 2 ^ i % 2 : Nat) : Int) = 0 then ((comfitref04_Less.f k ((vT ln T sn).1 : Int) ((vT ln T sn).2 : Int) bt660.1 bt660.2.1).bind fun t668 => (if t668 = true then ((comfitlaw04_awake.f k).bind fun t669 => (some t669)) else (none))) else (none))) else (none))) else (none))) ?_ (fun k => by
        rw [comfitlaw04_PacketsTwice.j1, if_neg (by decide), cl_len, hu, if_neg (by omega), list_ok, take_ok (cl ln) hW, Option.bind_some, hi, if_pos (by omega), hor, and_at hs8 (by omega)])
      refine Ev.bind Py (Ev.ifPos rfl (Ev.bind (g := fun _ => _) (Ev.const (right_nat Oy.den Oy.most)) (Ev.ifPos rfl ?_)))
      by_cases hb : sn / 2 ^ i % 2 = 1
      · rw [hy hb]
        exact Ev.ifPos (by rw [hb]; rfl) (Ev.ifPos (by simp) (Ev.bind awake_ev (Ev.const rfl)))
      · have hb0 : sn / 2 ^ i % 2 = 0 := by omega
        have hm := Os.more i hil hb
        rw [← hn hb] at hm
        refine Ev.ifNeg (by rw [hb0]; decide) (Ev.ifPos (by rw [hb0]; rfl) (Ev.bind ((less_nat Os.den Oy.den Os.n63 Os.d63 Oy.n63 Oy.d63).cast (decide_eq_true hm)) (Ev.ifPos rfl (Ev.bind awake_ev (Ev.const rfl)))))
    have hor := or_at hs8 (show i < 3 by omega)
    by_cases hb : sn / 2 ^ i % 2 = 1
    · rw [if_pos hb] at hor
      exact hpart sn hor hsn (fun _ => rfl) (fun h => absurd hb h)
    · rw [if_neg hb] at hor
      exact hpart (sn + 2 ^ i) hor (add_at h3 hsn hil hb) (fun h => absurd h hb) (fun _ => rfl)
  · have hb : okS (l.take 8) s = false ∨ (l.take 8).length > 3 := by
      rw [okS_take]
      cases h : okS l s with
      | false => exact .inl rfl
      | true =>
        refine .inr ?_
        have h3 : ¬ l.length ≤ 3 := fun e => hg ⟨h, e⟩
        rw [List.length_take]; omega
    refine Ev.bind (Pairs_bad _ s hb) (Ev.ifNeg (by decide) ?_)
    refine Ev.succ (g := fun k => (comfitlaw04_awake.f k).bind fun t639 => (some t639)) (Ev.bind awake_ev (Ev.const rfl)) (fun k => ?_)
    rw [comfitlaw04_PacketsTwice.j0, if_pos rfl, if_pos rfl]
end Go.Proofs.Ytigmhomfadimnaa.Pure
