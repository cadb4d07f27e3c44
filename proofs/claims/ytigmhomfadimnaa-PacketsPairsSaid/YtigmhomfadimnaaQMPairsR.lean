/- Plain laws of Pairs: the reference tells the same table. -/
import Derived.Test.YtigmhomfadimnaaQMPairs
set_option linter.unusedVariables false
set_option linter.unusedSimpArgs false
namespace Go.Proofs.Ytigmhomfadimnaa.Pure
open Go.RowKit Go.Proofs.Ytigmhomfadimnaa.X Go.Proofs.YtigmhomfadimnaaW.PrintWords Go.Proofs.YtigmhomfadimnaaW.PrintLast Go.Proofs.YtigmhomfadimnaaW.PrintMore
theorem open_rf {l : List Nat} (h : Small l) (n : Nat) (v : Int × Int) : ∀ (r : List Nat) (i : Nat), l.drop i = r → i ≤ l.length → ∀ acc : Nat, acc + openN r (n / 3 ^ i) ≤ 1000 →
    Ev (fun k => comfitref04_pairs.l0 k (cl l) ((acc + openN r (n / 3 ^ i) : Nat) : Int) (cl l) (l.length : Int) (l.length : Int) (nd n 0 : Int) (nd n 1 : Int) (nd n 2 : Int)) v →
    Ev (fun k => comfitref04_pairs.l0 k (cl l) (acc : Int) (cl l) (l.length : Int) (i : Int) (nd n 0 : Int) (nd n 1 : Int) (nd n 2 : Int)) v := by
  intro r
  induction r with
  | nil =>
    intro i hi hil acc hb hv
    have hi2 : l.length ≤ i := by simpa using hi
    obtain rfl : i = l.length := by omega
    exact hv
  | cons x r ih =>
    intro i hi _ acc hb hv
    obtain ⟨hx, hil, hd⟩ := rd_cl hi
    have hl := h.len
    have hnd : nd n i = n / 3 ^ i % 3 := rfl
    rw [openN, Nat.div_div_eq_div_mul, ← Nat.pow_succ, ← hnd] at hb hv
    by_cases h0 : nd n i = 0
    · rw [if_pos h0, Nat.zero_add] at hb hv
      have h2 := ih (i + 1) hd (by omega) acc hb hv
      refine Ev.succ (g := fun k => _) h2 (fun k => ?_)
      rw [comfitref04_pairs.l0, if_pos (by omega), if_pos (by omega), if_pos (by rw [cl_len]; omega)]
      obtain e | e | e : i = 0 ∨ i = 1 ∨ i = 2 := by omega
      · subst e
        rw [if_pos (show ((0 : Nat) : Int) = 0 from rfl), if_neg (by omega)]; rfl
      · subst e
        rw [if_neg (by decide), if_pos (show ((1 : Nat) : Int) = 1 from rfl), if_neg (by omega)]; rfl
      · subst e
        rw [if_neg (by decide), if_neg (by decide), if_pos (show ((2 : Nat) : Int) = 2 from rfl), if_neg (by omega)]; rfl
    · rw [if_neg h0] at hb hv
      have h2 := ih (i + 1) hd (by omega) (acc + x) (by rw [Nat.add_assoc]; exact hb) (by rw [Nat.add_assoc]; exact hv)
      have hw : wrap64 ((acc : Int) + (x : Int)) = ((acc + x : Nat) : Int) := wn (n := acc + x) (by unfold B63; omega)
      refine Ev.succ (g := fun k => _) h2 (fun k => ?_)
      rw [comfitref04_pairs.l0, if_pos (by omega), if_pos (by omega), if_pos (by rw [cl_len]; omega)]
      obtain e | e | e : i = 0 ∨ i = 1 ∨ i = 2 := by omega
      · subst e
        have hx0 : rd (cl l) 0 = (x : Int) := hx
        rw [if_pos (show ((0 : Nat) : Int) = 0 from rfl), if_pos (by omega), hx0, hw]; rfl
      · subst e
        have hx0 : rd (cl l) 1 = (x : Int) := hx
        rw [if_neg (by decide), if_pos (show ((1 : Nat) : Int) = 1 from rfl), if_pos (by omega), hx0, hw]; rfl
      · subst e
        have hx0 : rd (cl l) 2 = (x : Int) := hx
        rw [if_neg (by decide), if_neg (by decide), if_pos (show ((2 : Nat) : Int) = 2 from rfl), if_pos (by omega), hx0, hw]; rfl
theorem nd_all : (List.range 27).all (fun n => (List.range 3).all fun i => (nd n i == 0) || ((List.range 3).all fun j => nd (n - 3 ^ i) j == if j = i then nd n i - 1 else nd n j)) = true := by decide +kernel
theorem nd_next {n i : Nat} (hn : n < 27) (hi : i < 3) (h : nd n i ≠ 0) : ∀ j, j < 3 → nd (n - 3 ^ i) j = if j = i then nd n i - 1 else nd n j := by
  have h2 := List.all_eq_true.mp (List.all_eq_true.mp nd_all n (by simpa using hn)) i (by simpa using hi)
  rw [beq_eq_false_iff_ne.mpr h, Bool.false_or] at h2
  intro j hj
  exact eq_of_beq (List.all_eq_true.mp h2 j (by simpa using hj))
theorem pow3 {m : Nat} (h : m ≤ 3) : 3 ^ m ≤ 27 := by
  have := Nat.pow_le_pow_right (n := 3) (by omega) h
  simpa using this
theorem loop_rf {l : List Nat} (h : Small l) (T : List (Nat × Nat)) {n : Nat} (hn : n < 3 ^ l.length) (op : Nat)
    (ih : ∀ i : Nat, i < l.length → nd n i ≠ 0 → Ev (fun k => comfitref04_pairs.f k (cl l) (nd (n - 3 ^ i) 0 : Int) (nd (n - 3 ^ i) 1 : Int) (nd (n - 3 ^ i) 2 : Int)) (ci (T.getD (n - 3 ^ i) (0, 0)))) :
    ∀ (r : List Nat) (i : Nat), l.drop i = r → i ≤ l.length → ∀ (s v : Nat × Nat), foldN T n op i r s = some v → Ev (fun k => comfitref04_pairs.l1 k (cl l) (op : Int) (cl l) (l.length : Int) (i : Int) (nd n 0 : Int) (nd n 1 : Int) (nd n 2 : Int) (s.1 : Int) (s.2 : Int)) (ci v) := by
  have hl := h.len
  have hn27 : n < 27 := Nat.lt_of_lt_of_le hn (pow3 hl)
  intro r
  induction r with
  | nil =>
    intro i hi hil s v hv
    cases hv
    have hi2 : l.length ≤ i := by simpa using hi
    exact Ev.succ (g := fun _ => some (ci s)) (Ev.const rfl) (fun k => by rw [comfitref04_pairs.l1, if_neg (by omega)]; rfl)
  | cons x r ihr =>
    intro i hi _ s v hv
    obtain ⟨hx, hil, hd⟩ := rd_cl hi
    unfold foldN at hv
    by_cases h0 : nd n i = 0
    · rw [if_pos h0] at hv
      have h2 := ihr (i + 1) hd (by omega) s v hv
      refine Ev.succ (g := fun k => _) h2 (fun k => ?_)
      rw [comfitref04_pairs.l1, if_pos (by omega), if_pos (by omega), if_pos (by rw [cl_len]; omega)]
      obtain e | e | e : i = 0 ∨ i = 1 ∨ i = 2 := by omega
      · subst e
        rw [if_pos (show ((0 : Nat) : Int) = 0 from rfl), if_neg (by omega)]; rfl
      · subst e
        rw [if_neg (by decide), if_pos (show ((1 : Nat) : Int) = 1 from rfl), if_neg (by omega)]; rfl
      · subst e
        rw [if_neg (by decide), if_neg (by decide), if_pos (show ((2 : Nat) : Int) = 2 from rfl), if_neg (by omega)]; rfl
    · rw [if_neg h0] at hv
      obtain ⟨f, hf, hv⟩ := Option.bind_eq_some_iff.mp hv
      obtain ⟨u, hu, hv⟩ := Option.bind_eq_some_iff.mp hv
      obtain ⟨p, hp, hv⟩ := Option.bind_eq_some_iff.mp hv
      have h2 := ihr (i + 1) hd (by omega) p v hv
      have hi3 := ih i hil h0
      have hnx := nd_next hn27 (by omega) h0
      have hsub : wrap64 ((nd n i : Int) - 1) = ((nd n i - 1 : Nat) : Int) := by
        have h9 : nd n i < 3 := Nat.mod_lt _ (by omega)
        rw [w_in (by omega) (by omega)]; omega
      have hb : ∀ g : Nat → Option (Int × Int), (∀ k, g k = (comfitref04_frac.f k (x : Int) (op : Int)).bind fun bt588 => (comfitref04_pairs.f k (cl l) (nd (n - 3 ^ i) 0 : Int) (nd (n - 3 ^ i) 1 : Int) (nd (n - 3 ^ i) 2 : Int)).bind fun bt590 => (comfitref04_times.f k bt588.1 bt588.2 bt590.1 bt590.2).bind fun bt592 => (comfitref04_Plus.f k (s.1 : Int) (s.2 : Int) bt592.1 bt592.2).bind fun bt594 => comfitref04_pairs.l1 k (cl l) (op : Int) (cl l) (l.length : Int) ((i + 1 : Nat) : Int) (nd n 0 : Int) (nd n 1 : Int) (nd n 2 : Int) bt594.1 bt594.2) → Ev g (ci v) := by
        intro g hg
        have := Ev.bind (fracN_rf hf) (f := fun k bt588 => (comfitref04_pairs.f k (cl l) (nd (n - 3 ^ i) 0 : Int) (nd (n - 3 ^ i) 1 : Int) (nd (n - 3 ^ i) 2 : Int)).bind fun bt590 => (comfitref04_times.f k bt588.1 bt588.2 bt590.1 bt590.2).bind fun bt592 => (comfitref04_Plus.f k (s.1 : Int) (s.2 : Int) bt592.1 bt592.2).bind fun bt594 => comfitref04_pairs.l1 k (cl l) (op : Int) (cl l) (l.length : Int) ((i + 1 : Nat) : Int) (nd n 0 : Int) (nd n 1 : Int) (nd n 2 : Int) bt594.1 bt594.2) (Ev.bind hi3 (Ev.bind (timesN_rf hu) (Ev.bind (plusN_rf hp) h2)))
        obtain ⟨a, ha⟩ := this
        exact ⟨a, fun k hk => (hg k).trans (ha k hk)⟩
      refine Ev.succ (g := fun k => _) (hb _ (fun k => rfl)) (fun k => ?_)
      rw [comfitref04_pairs.l1, if_pos (by omega), if_pos (by omega), if_pos (by rw [cl_len]; omega)]
      obtain e | e | e : i = 0 ∨ i = 1 ∨ i = 2 := by omega
      · subst e
        have hx0 : rd (cl l) 0 = (x : Int) := hx
        rw [if_pos (show ((0 : Nat) : Int) = 0 from rfl), if_pos (by omega), hx0, hsub, hnx 0 (by omega), hnx 1 (by omega), hnx 2 (by omega)]; rfl
      · subst e
        have hx0 : rd (cl l) 1 = (x : Int) := hx
        rw [if_neg (by decide), if_pos (show ((1 : Nat) : Int) = 1 from rfl), if_pos (by omega), hx0, hsub, hnx 0 (by omega), hnx 1 (by omega), hnx 2 (by omega)]; rfl
      · subst e
        have hx0 : rd (cl l) 2 = (x : Int) := hx
        rw [if_neg (by decide), if_neg (by decide), if_pos (show ((2 : Nat) : Int) = 2 from rfl), if_pos (by omega), hx0, hsub, hnx 0 (by omega), hnx 1 (by omega), hnx 2 (by omega)]; rfl
theorem ref_ev {l : List Nat} (h : Small l) {T : List (Nat × Nat)} (hT : ∀ n, n < 3 ^ l.length → stepN l T n = some (T.getD n (0, 0))) : ∀ (n : Nat), n < 3 ^ l.length → Ev (fun k => comfitref04_pairs.f k (cl l) (nd n 0 : Int) (nd n 1 : Int) (nd n 2 : Int)) (ci (T.getD n (0, 0))) := by
  intro n
  induction n using Nat.strongRecOn with
  | ind n ih =>
  intro hlt
  have hs := hT n hlt
  have hl := h.len
  have hsum := h.sum
  have hop := openN_le l n
  have e0 : n / 3 ^ 0 = n := by simp
  have hp := pow_le l.length (by omega)
  refine Ev.succ (g := fun k => comfitref04_pairs.l0 k (cl l) ((0 : Nat) : Int) (cl l) (l.length : Int) ((0 : Nat) : Int) (nd n 0 : Int) (nd n 1 : Int) (nd n 2 : Int)) ?_ (fun k => by rw [comfitref04_pairs.f, cl_len]; rfl)
  refine open_rf h n _ l 0 rfl (by omega) 0 (by rw [e0]; omega) ?_
  rw [e0, Nat.zero_add]
  unfold stepN at hs
  by_cases h0 : openN l n = 0
  · rw [if_pos h0] at hs
    rw [← Option.some.inj hs]
    refine Ev.succ (g := fun _ => some (0, 1)) (Ev.const rfl) (fun k => ?_)
    rw [comfitref04_pairs.l0, if_neg (by omega), if_pos (by omega)]; rfl
  · rw [if_neg h0] at hs
    obtain ⟨s, hs1, hs2⟩ := Option.bind_eq_some_iff.mp hs
    have hSum : Ev (fun k => comfitref04_Sum.f k (cl l) (2 ^ l.length - 1)) (l.sum : Int) :=
      (ref_Sum_ev (cl l) _ (by omega) (by omega) (by rw [cl_len]; omega)).cast (by rw [sum_tot l hl]; exact wn (by unfold B63; omega))
    have hloop := loop_rf h T hlt (openN l n) (fun i hi hnd => by
      have h3 : 0 < 3 ^ i := Nat.pow_pos (by omega)
      have hn0 : n ≠ 0 := fun e => h0 (by rw [e, openN_zero])
      exact ih (n - 3 ^ i) (by omega) (by omega)) l 0 rfl (by omega) s _ hs2
    refine Ev.succ (g := fun k => (comfitref04_Sum.f k (cl l) (2 ^ l.length - 1)).bind fun t582 => (comfitref04_frac.f k t582 (openN l n : Int)).bind fun bt583 => comfitref04_pairs.l1 k (cl l) (openN l n : Int) (cl l) (l.length : Int) ((0 : Nat) : Int) (nd n 0 : Int) (nd n 1 : Int) (nd n 2 : Int) bt583.1 bt583.2) (Ev.bind hSum (Ev.bind (fracN_rf hs1) hloop)) (fun k => ?_)
    rw [comfitref04_pairs.l0, if_neg (by omega), if_neg (by omega), cl_len, shl_ok l.length (by omega), w_in (by omega) (by omega)]; rfl
/-! ### The reference's Pairs -/
theorem np3 : (List.range 8).all (fun (s : Nat) => (List.range 3).all fun (i : Nat) => wrap64 (1 + (Go.bits .and .i64 (shr .i64 (s : Int) (i : Int)) 1)) == (nd (need 7 s) i : Int)) = true := by decide +kernel
theorem np2 : (List.range 4).all (fun (s : Nat) => ((List.range 2).all fun (i : Nat) => wrap64 (1 + (Go.bits .and .i64 (shr .i64 (s : Int) (i : Int)) 1)) == (nd (need 3 s) i : Int)) && (nd (need 3 s) 2 == 0)) = true := by decide +kernel
theorem np1 : (List.range 2).all (fun (s : Nat) => (wrap64 (1 + (Go.bits .and .i64 (shr .i64 (s : Int) 0) 1)) == (nd (need 1 s) 0 : Int)) && (nd (need 1 s) 1 == 0) && (nd (need 1 s) 2 == 0)) = true := by decide +kernel
theorem need_lt_all : (List.range 4).all (fun m => (List.range (2 ^ m)).all fun s => decide (need (2 ^ m - 1) s < 3 ^ m)) = true := by decide +kernel
theorem need_lt {m s : Nat} (hm : m ≤ 3) (hs : s < 2 ^ m) : need (2 ^ m - 1) s < 3 ^ m := by
  have := List.all_eq_true.mp (List.all_eq_true.mp need_lt_all m (by simp; omega)) s (by simpa using hs)
  simpa using this
theorem refP_ev {l : List Nat} (h : Small l) {T : List (Nat × Nat)} (hT : ∀ n, n < 3 ^ l.length → stepN l T n = some (T.getD n (0, 0))) (s : Nat) (hs : s < 2 ^ l.length) : Ev (fun k => comfitref04_Pairs.f k (cl l) (s : Int)) (ci (T.getD (need (2 ^ l.length - 1) s) (0, 0))) := by
  have hn := need_lt h.len hs
  have hr := ref_ev h hT _ hn
  have hfin : Ev (fun k => comfitref04_Pairs.l0 k (cl l) (s : Int) (l.length : Int) (l.length : Int) (nd (need (2 ^ l.length - 1) s) 0 : Int) (nd (need (2 ^ l.length - 1) s) 1 : Int) (nd (need (2 ^ l.length - 1) s) 2 : Int)) (ci (T.getD (need (2 ^ l.length - 1) s) (0, 0))) := by
    refine Ev.succ (g := fun k => (comfitref04_pairs.f k (cl l) (nd (need (2 ^ l.length - 1) s) 0 : Int) (nd (need (2 ^ l.length - 1) s) 1 : Int) (nd (need (2 ^ l.length - 1) s) 2 : Int)).bind fun bt616 => some (bt616.1, bt616.2)) (Ev.bind hr (Ev.const rfl)) (fun k => ?_)
    rw [comfitref04_Pairs.l0, if_neg (by omega)]
  unfold comfitref04_Pairs.f
  rw [cl_len]
  have h0 := h.len0
  have h3 := h.len
  obtain e | e | e : l.length = 1 ∨ l.length = 2 ∨ l.length = 3 := by omega
  · rw [e] at hs hfin ⊢
    have hq := List.all_eq_true.mp np1 s (by simpa using hs)
    simp only [Bool.and_eq_true, beq_iff_eq] at hq
    obtain ⟨⟨q0, q1⟩, q2⟩ := hq
    rw [show (2 ^ 1 - 1 : Nat) = 1 from rfl, q1, q2, ← q0] at hfin
    refine Ev.succ (g := fun k => _) hfin (fun k => ?_)
    rw [comfitref04_Pairs.l0, if_pos (by decide), if_pos (by decide), if_pos rfl]; rfl
  · rw [e] at hs hfin ⊢
    have hq := List.all_eq_true.mp np2 s (by simpa using hs)
    rw [Bool.and_eq_true, List.all_eq_true, beq_iff_eq] at hq
    have q0 := eq_of_beq (hq.1 0 (by decide))
    have q1 := eq_of_beq (hq.1 1 (by decide))
    have q2 := hq.2
    rw [show (2 ^ 2 - 1 : Nat) = 3 from rfl, q2, ← q0, ← q1] at hfin
    have s1 : Ev (fun k => comfitref04_Pairs.l0 k (cl l) (s : Int) 2 1 (wrap64 (1 + (Go.bits .and .i64 (shr .i64 (s : Int) 0) 1))) 0 0) (ci (T.getD (need (2 ^ 2 - 1) s) (0, 0))) := by
      refine Ev.succ (g := fun k => _) hfin (fun k => ?_)
      rw [comfitref04_Pairs.l0, if_pos (by decide), if_pos (by decide), if_neg (by decide), if_pos rfl]; rfl
    refine Ev.succ (g := fun k => _) s1 (fun k => ?_)
    rw [comfitref04_Pairs.l0, if_pos (by decide), if_pos (by decide), if_pos rfl]; rfl
  · rw [e] at hs hfin ⊢
    have hq := List.all_eq_true.mp np3 s (by simpa using hs)
    rw [List.all_eq_true] at hq
    have q0 := eq_of_beq (hq 0 (by decide))
    have q1 := eq_of_beq (hq 1 (by decide))
    have q2 := eq_of_beq (hq 2 (by decide))
    rw [show (2 ^ 3 - 1 : Nat) = 7 from rfl, ← q0, ← q1, ← q2] at hfin
    have s2 : Ev (fun k => comfitref04_Pairs.l0 k (cl l) (s : Int) 3 2 (wrap64 (1 + (Go.bits .and .i64 (shr .i64 (s : Int) 0) 1))) (wrap64 (1 + (Go.bits .and .i64 (shr .i64 (s : Int) 1) 1))) 0) (ci (T.getD (need (2 ^ 3 - 1) s) (0, 0))) := by
      refine Ev.succ (g := fun k => _) hfin (fun k => ?_)
      rw [comfitref04_Pairs.l0, if_pos (by decide), if_pos (by decide), if_neg (by decide), if_neg (by decide), if_pos rfl]; rfl
    have s1 : Ev (fun k => comfitref04_Pairs.l0 k (cl l) (s : Int) 3 1 (wrap64 (1 + (Go.bits .and .i64 (shr .i64 (s : Int) 0) 1))) 0 0) (ci (T.getD (need (2 ^ 3 - 1) s) (0, 0))) := by
      refine Ev.succ (g := fun k => _) s2 (fun k => ?_)
      rw [comfitref04_Pairs.l0, if_pos (by decide), if_pos (by decide), if_neg (by decide), if_pos rfl]
    refine Ev.succ (g := fun k => _) s1 (fun k => ?_)
    rw [comfitref04_Pairs.l0, if_pos (by decide), if_pos (by decide), if_pos rfl]; rfl
end Go.Proofs.Ytigmhomfadimnaa.Pure
