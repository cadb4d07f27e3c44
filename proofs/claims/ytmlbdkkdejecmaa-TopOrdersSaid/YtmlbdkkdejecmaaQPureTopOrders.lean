/- The plain law of TopOrders: what a machine's run reaches is what is reached in the works of its orders. No conditions but the sizes that the arguments have. -/
import Derived.Test.YtmlbdkkdejecmaaQMBits
import Derived.Test.YtmlbdkkdejecmaaQXcomfittopTopOrders
set_option linter.unusedVariables false
set_option linter.unusedSimpArgs false
namespace Go.Proofs.Ytmlbdkkdejecmaa.Pure
open Go.RowKit Go.Proofs.Ytmlbdkkdejecmaa.X Go.Proofs.YtmlbdkkdejecmaaW.PrintWords Go.Proofs.YtmlbdkkdejecmaaW.PrintLast Go.Proofs.YtmlbdkkdejecmaaW.PrintMore
abbrev cI (l : List Nat) : List Int := l.map (fun x : Nat => (x : Int))
theorem min_ev {l : List Int} (h0 : 0 < l.length) (hl : l.length ≤ 100) (P : Int → Prop) (hP : ∀ i : Nat, i < l.length → P (rd l (i : Int))) : ∃ v, P v ∧ Ev (fun k => slices_Min_int_int.f k l) v := by
  have go : ∀ (d i : Nat) (x : Int), i + d = l.length → P x → ∃ v, P v ∧ Ev (fun k => slices_Min_int_int.l0 k l x (i : Int)) v := by
    intro d
    induction d with
    | zero =>
      intro i x hi hx
      exact ⟨x, hx, Ev.succ (g := fun _ => some x) (Ev.const rfl) (fun k => by rw [slices_Min_int_int.l0, if_neg (by omega)])⟩
    | succ d ih =>
      intro i x hi hx
      obtain ⟨v, hv, he⟩ := ih (i + 1) (mn x (rd l (i : Int))) (by omega) (by unfold mn; split; exact hP i (by omega); exact hx)
      exact ⟨v, hv, Ev.succ he (fun k => by rw [slices_Min_int_int.l0, if_pos (by omega), if_pos (by omega), w_in (by omega) (by omega)]; rfl)⟩
  obtain ⟨v, hv, he⟩ := go (l.length - 1) 1 (rd l 0) (by omega) (hP 0 h0)
  exact ⟨v, hv, Ev.ifNeg (by omega) (Ev.ifPos (by omega) he)⟩
theorem max_ev {l : List Int} (h0 : 0 < l.length) (hl : l.length ≤ 100) (P : Int → Prop) (hP : ∀ i : Nat, i < l.length → P (rd l (i : Int))) : ∃ v, P v ∧ Ev (fun k => slices_Max_int_int.f k l) v := by
  have go : ∀ (d i : Nat) (x : Int), i + d = l.length → P x → ∃ v, P v ∧ Ev (fun k => slices_Max_int_int.l0 k l x (i : Int)) v := by
    intro d
    induction d with
    | zero =>
      intro i x hi hx
      exact ⟨x, hx, Ev.succ (g := fun _ => some x) (Ev.const rfl) (fun k => by rw [slices_Max_int_int.l0, if_neg (by omega)])⟩
    | succ d ih =>
      intro i x hi hx
      obtain ⟨v, hv, he⟩ := ih (i + 1) (mx x (rd l (i : Int))) (by omega) (by unfold mx; split; exact hP i (by omega); exact hx)
      exact ⟨v, hv, Ev.succ he (fun k => by rw [slices_Max_int_int.l0, if_pos (by omega), if_pos (by omega), w_in (by omega) (by omega)]; rfl)⟩
  obtain ⟨v, hv, he⟩ := go (l.length - 1) 1 (rd l 0) (by omega) (hP 0 h0)
  exact ⟨v, hv, Ev.ifNeg (by omega) (Ev.ifPos (by omega) he)⟩
theorem shl_n {n : Nat} (h : n ≤ 6) : shl .i64 1 (n : Int) = ((2 ^ n : Nat) : Int) := by
  have : ∀ i < 7, shl .i64 1 ((i : Nat) : Int) = ((2 ^ i : Nat) : Int) := by decide +kernel
  exact this n (by omega)
theorem all_n {n : Nat} (h : n ≤ 6) (h1 : 1 ≤ n) : (1 : Int) ≤ wrap64 (((2 ^ n : Nat) : Int) - 1) := by
  have : ∀ i < 7, 1 ≤ i → (1 : Int) ≤ wrap64 (((2 ^ i : Nat) : Int) - 1) := by decide +kernel
  exact this n (by omega) h1
theorem reach_ev {w : List Nat} (hw : small w) (h0 : 0 < w.length) : Ev (fun k => fixes_Reach.f k (cI w) (List.replicate w.length 0) 1) (((rN w w.length 1 : Nat) : Int), 0) := by
  have hlen : (cI w).length = w.length := List.length_map _
  have hle := hw.1
  obtain ⟨v1, p1, e1⟩ := min_ev (l := cI w) (by omega) (by omega) (fun v => 0 ≤ v) (fun i hi => by rw [rd_nat]; omega)
  obtain ⟨v2, p2, e2⟩ := max_ev (l := cI w) (by omega) (by omega) (fun v => v < ((2 ^ w.length : Nat) : Int)) (fun i hi => by rw [rd_nat]; exact Int.ofNat_lt.mpr (hw.2 i))
  have hz : ∀ i : Nat, i < (List.replicate w.length (0 : Int)).length → rd (List.replicate w.length (0 : Int)) (i : Int) = 0 := fun i hi => by
    unfold rd
    rw [List.length_replicate] at hi
    simp [hi]
  obtain ⟨v3, p3, e3⟩ := min_ev (l := List.replicate w.length (0 : Int)) (by rw [List.length_replicate]; omega) (by rw [List.length_replicate]; omega) (fun v => v = 0) hz
  obtain ⟨v4, p4, e4⟩ := max_ev (l := List.replicate w.length (0 : Int)) (by rw [List.length_replicate]; omega) (by rw [List.length_replicate]; omega) (fun v => v = 0) hz
  have hv : Ev (fun k => fixes_Works_valid.f k (cI w) (List.replicate w.length 0)) true := by
    unfold fixes_Works_valid.f
    rw [hlen, List.length_replicate, shl_n hle]
    exact Ev.ifPos (by omega) (Ev.ifPos (by omega) (Ev.ifPos rfl (Ev.bind e1 (Ev.ifPos p1 (Ev.bind e2 (Ev.ifPos p2 (Ev.bind e3 (Ev.ifPos (by rw [p3]; omega) (Ev.bind e4 (Ev.const (by rw [p4]; rfl)))))))))))
  have hs : Ev (fun k => fixes_Works_isSet.f k (cI w) (List.replicate w.length 0) 1) true := by
    unfold fixes_Works_isSet.f fixes_Works_all.f
    refine Ev.bind hv (Ev.ifPos rfl (Ev.ifPos (by omega) (Ev.const ?_)))
    rw [Option.bind_some, hlen, shl_n hle, decide_eq_true (all_n hle (by omega))]
  refine Ev.bind hs (Ev.ifPos rfl (Ev.const ?_))
  have h := reach_is hw w.length 1 (Nat.one_lt_two_pow (by omega))
  rw [hlen]
  rw [show ((1 : Nat) : Int) = 1 from rfl] at h
  rw [h]
/-- What has been turned round: the rows ahead of s, and of row s the states ahead of t. -/
structure Inv (next : List Nat) (s t : Nat) (A : List Nat) : Prop where
  len : A.length = next.length
  lt : ∀ i, A.getD i 0 < 2 ^ next.length
  bit : ∀ i, i < next.length → ∀ j, Nat.testBit (A.getD i 0) j = (decide (j < s ∨ (j = s ∧ i < t)) && Nat.testBit (next.getD j 0) i)
theorem Inv.next {next : List Nat} {s : Nat} {A : List Nat} (h : Inv next s next.length A) : Inv next (s + 1) 0 A := by
  refine ⟨h.len, h.lt, fun i hi j => ?_⟩
  rw [h.bit i hi j]
  congr 1
  exact decide_eq_decide.mpr (by omega)
theorem Inv.no {next : List Nat} {s t : Nat} {A : List Nat} (h : Inv next s t A) (hb : Nat.testBit (next.getD s 0) t = false) : Inv next s (t + 1) A := by
  refine ⟨h.len, h.lt, fun i hi j => ?_⟩
  rw [h.bit i hi j]
  by_cases c : j = s ∧ i = t
  · obtain ⟨rfl, rfl⟩ := c
    rw [hb]; simp
  · congr 1
    exact decide_eq_decide.mpr (by omega)
theorem Inv.yes {next : List Nat} {s t : Nat} {A : List Nat} (h : Inv next s t A) (hs : s < next.length) (ht : t < next.length) (hb : Nat.testBit (next.getD s 0) t = true) : Inv next s (t + 1) (A.set t (A.getD t 0 ||| 2 ^ s)) := by
  have hget : ∀ i, (A.set t (A.getD t 0 ||| 2 ^ s)).getD i 0 = if i = t then A.getD t 0 ||| 2 ^ s else A.getD i 0 := by
    intro i
    have := h.len
    by_cases c : i = t
    · subst c
      simp [show i < A.length by omega]
    · rw [if_neg c]
      simp [show ¬ t = i from fun e => c e.symm]
  refine ⟨by rw [List.length_set, h.len], fun i => ?_, fun i hi j => ?_⟩
  · rw [hget]
    split
    · exact Nat.or_lt_two_pow (h.lt t) (Nat.pow_lt_pow_right (by omega) hs)
    · exact h.lt i
  · rw [hget]
    by_cases c : i = t
    · subst c
      rw [if_pos rfl, Nat.testBit_or, h.bit i hi j, Nat.testBit_two_pow]
      by_cases e : s = j
      · subst e
        rw [hb]; simp
      · rw [decide_eq_false e, Bool.or_false]
        congr 1
        exact decide_eq_decide.mpr (by omega)
    · rw [if_neg c, h.bit i hi j]
      congr 1
      exact decide_eq_decide.mpr (by omega)
theorem Inv.start (next : List Nat) : Inv next 0 0 (List.replicate next.length 0) := by
  have hz : ∀ i, (List.replicate next.length 0).getD i 0 = 0 := fun i => by
    by_cases c : i < next.length <;> simp [c]
  refine ⟨List.length_replicate, fun i => by rw [hz]; exact Nat.two_pow_pos _, fun i hi j => ?_⟩
  rw [hz, decide_eq_false (by omega)]
  simp
theorem l1_ev {next : List Nat} (hx : small next) {s : Nat} (hs : s < next.length) (z : List Int) : ∀ (d t : Nat) (A : List Nat), t + d = next.length → Inv next s t A →
    ∃ A', Inv next (s + 1) 0 A' ∧ ∀ v, Ev (fun k => comfittop_reached.l0 k (cI next) (cI next) (next.length : Int) ((s + 1 : Nat) : Int) (cI A') z) v →
      Ev (fun k => comfittop_reached.l1 k (cI next) (s : Int) ((next.getD s 0 : Nat) : Int) (cI next) (next.length : Int) (s : Int) (next.length : Int) (t : Int) (cI A) z) v := by
  intro d
  induction d with
  | zero =>
    intro t A ht h
    obtain rfl : t = next.length := by omega
    refine ⟨A, h.next, fun v hv => Ev.succ hv (fun k => ?_)⟩
    have := hx.1
    rw [comfittop_reached.l1, if_neg (by omega), w_in (by omega) (by omega)]
    rfl
  | succ d ih =>
    intro t A ht h
    have h6 := hx.1
    have hlt := lt64 hx.1 (hx.2 s)
    cases hb : Nat.testBit (next.getD s 0) t with
    | false =>
      obtain ⟨A', hA, hk⟩ := ih (t + 1) A (by omega) (h.no hb)
      refine ⟨A', hA, fun v hv => Ev.succ (hk v hv) (fun k => ?_)⟩
      rw [comfittop_reached.l1, if_pos (by omega), if_pos (by omega), if_neg (by rw [shr_all _ hlt t (by omega), hb]; simp), w_in (by omega) (by omega)]
      rfl
    | true =>
      obtain ⟨A', hA, hk⟩ := ih (t + 1) _ (by omega) (h.yes hs (by omega) hb)
      refine ⟨A', hA, fun v hv => Ev.succ (hk v hv) (fun k => ?_)⟩
      have hl := h.len
      have h2 : (2 : Nat) ^ s < 64 := lt64 hx.1 (Nat.pow_lt_pow_right (by omega) hs)
      rw [comfittop_reached.l1, if_pos (by omega), if_pos (by omega), if_pos (by rw [shr_all _ hlt t (by omega), hb]), if_pos (by rw [List.length_map]; omega), if_pos (by omega), w_in (by omega) (by omega),
        rd_nat, shl_all s (by omega), bor_all _ (lt64 hx.1 (h.lt t)) _ h2, Int.toNat_natCast, show cI (A.set t (A.getD t 0 ||| 2 ^ s)) = (cI A).set t ((A.getD t 0 ||| 2 ^ s : Nat) : Int) from List.map_set]
      rfl
theorem l0_ev {next : List Nat} (hx : small next) (h0 : 0 < next.length) : ∀ (d s : Nat) (A : List Nat), s + d = next.length → Inv next s 0 A →
    ∃ w, Inv next next.length 0 w ∧ Ev (fun k => comfittop_reached.l0 k (cI next) (cI next) (next.length : Int) (s : Int) (cI A) (List.replicate next.length 0)) ((rN w w.length 1 : Nat) : Int) := by
  intro d
  induction d with
  | zero =>
    intro s A hs h
    obtain rfl : s = next.length := by omega
    refine ⟨A, h, ?_⟩
    have hr := reach_ev (w := A) ⟨by rw [h.len]; exact hx.1, fun i => by rw [h.len]; exact h.lt i⟩ (by rw [h.len]; exact h0)
    rw [h.len] at hr ⊢
    exact Ev.succ (g := fun k => (fixes_Reach.f k (cI A) (List.replicate next.length 0) 1).bind fun bt => (if bt.2 = 0 then some bt.1 else some (-1))) (Ev.bind hr (Ev.ifPos rfl (Ev.const rfl))) (fun k => by rw [comfittop_reached.l0, if_neg (by omega)])
  | succ d ih =>
    intro s A hs h
    obtain ⟨A', hA, hk⟩ := l1_ev hx (s := s) (by omega) (List.replicate next.length 0) next.length 0 A (by omega) h
    obtain ⟨w, hw, he⟩ := ih (s + 1) A' (by omega) hA
    refine ⟨w, hw, Ev.succ (hk _ he) (fun k => ?_)⟩
    rw [comfittop_reached.l0, if_pos (by omega), if_pos (by omega), if_pos (by rw [List.length_map]; omega), rd_nat, List.length_map]
    rfl
/-- The states that are reached: by way of the works that are turned round. -/
theorem reached_ev {next : List Nat} (hx : small next) (h0 : 0 < next.length) : ∃ w, small w ∧ w.length = next.length ∧ (∀ i, i < next.length → ∀ j, Nat.testBit (w.getD i 0) j = (decide (j < next.length) && Nat.testBit (next.getD j 0) i)) ∧
    Ev (fun k => comfittop_reached.f k (cI next)) ((rN w w.length 1 : Nat) : Int) := by
  obtain ⟨w, hw, he⟩ := l0_ev hx h0 next.length 0 _ (by omega) (Inv.start next)
  have h6 := hx.1
  refine ⟨w, ⟨by rw [hw.len]; exact hx.1, fun i => by rw [hw.len]; exact hw.lt i⟩, hw.len, fun i hi j => ?_, ?_⟩
  · rw [hw.bit i hi j]
    congr 1
    exact decide_eq_decide.mpr (by omega)
  · unfold comfittop_reached.f
    rw [List.length_map]
    refine Ev.ifPos (by omega) (Ev.ifPos (by omega) ?_)
    rw [Int.toNat_natCast]
    rw [show cI (List.replicate next.length 0) = List.replicate next.length 0 by simp] at he
    exact he
/-- The orders behind an order, as a set. -/
def nxt (x : S45) : Nat := if x.f0 > 0 then (if x.f0 = 2 then 2 ^ x.f2.toNat ||| 2 ^ x.f3.toNat else 2 ^ x.f2.toNat) else 0
theorem nxt_bit {n : Nat} {x : S45} (h : okO n x) (j : Nat) : Nat.testBit (nxt x) j = decide ((x.f0 ≠ 0 ∧ x.f2.toNat = j) ∨ (x.f0 = 2 ∧ x.f3.toNat = j)) := by
  obtain ⟨_, _, _, _, _, h5⟩ := h
  unfold nxt
  by_cases c : x.f0 > 0
  · rw [if_pos c]
    by_cases e : x.f0 = 2
    · rw [if_pos e, Nat.testBit_or, Nat.testBit_two_pow, Nat.testBit_two_pow, ← Bool.decide_or]
      exact decide_eq_decide.mpr (by omega)
    · rw [if_neg e, Nat.testBit_two_pow]
      exact decide_eq_decide.mpr (by omega)
  · rw [if_neg c, Nat.zero_testBit, decide_eq_false (by omega)]
theorem nxt_lt {n : Nat} {x : S45} (h : okO n x) : nxt x < 2 ^ n := by
  obtain ⟨_, h1, h2, h3, h4, h5⟩ := h
  have e2 : (2 : Nat) ^ x.f2.toNat < 2 ^ n := Nat.pow_lt_pow_right (by omega) (by omega)
  have e3 : (2 : Nat) ^ x.f3.toNat < 2 ^ n := Nat.pow_lt_pow_right (by omega) (by omega)
  unfold nxt
  split
  · split
    · exact Nat.or_lt_two_pow e2 e3
    · exact e2
  · exact Nat.two_pow_pos _
theorem nx_getD (l : List S45) (i : Nat) (h : i < l.length) : (l.map nxt).getD i 0 = nxt (l.getD i z45) := by simp [h]
theorem small_nxt {l : List S45} (hg : Good l) (h6 : l.length ≤ 6) : small (l.map nxt) := by
  refine ⟨by rw [List.length_map]; exact h6, fun i => ?_⟩
  rw [List.length_map]
  by_cases c : i < l.length
  · rw [nx_getD l i c]
    exact nxt_lt (good_at hg c)
  · simp [c]; exact Nat.two_pow_pos _
/-- The set that is reached is the set of the marks. -/
theorem set_marks {l : List S45} (hg : Good l) (h6 : l.length ≤ 6) {w : List Nat} (hw : small w) (hl : w.length = l.length) (hb : ∀ i, i < l.length → ∀ j, Nat.testBit (w.getD i 0) j = (decide (j < l.length) && Nat.testBit ((l.map nxt).getD j 0) i)) (j : Nat) :
    Nat.testBit (rN w w.length 1) j = hasB (marks l) j := by
  have hne := hg.ne
  have hcl := good_cl hg
  have hin := good_inR hg
  rw [Bool.eq_iff_iff]
  constructor
  · refine rN_in (w := w) (P := fun j => hasB (marks l) j = true) ?_ _ 1 ?_ j
    · intro i s hi hbit hs
      rw [hb i (by omega) s] at hbit
      obtain ⟨b1, b2⟩ := Bool.and_eq_true _ _ ▸ hbit
      have b1 := of_decide_eq_true b1
      rw [nx_getD l s b1, nxt_bit (good_at hg b1)] at b2
      rcases of_decide_eq_true b2 with ⟨c1, c2⟩ | ⟨c1, c2⟩
      · have := (hcl s hs).1 c1
        rw [c2] at this; exact this
      · have := (hcl s hs).2 c1
        rw [c2] at this; exact this
    · intro i hi
      rw [show (1 : Nat) = 2 ^ 0 from rfl, Nat.testBit_two_pow] at hi
      rw [← of_decide_eq_true hi]
      exact marks_zero (by omega)
  · intro hj
    have hst := rN_closed hw (by omega)
    have h0 : Nat.testBit (rN w w.length 1) 0 = true := rN_more 0 _ 1 (by decide)
    generalize hS : rN w w.length 1 = S at hst h0
    have hC : ∀ i, hasB ((List.range l.length).map (fun i => Nat.testBit S i)) i = (decide (i < l.length) && Nat.testBit S i) := by
      intro i
      unfold hasB
      by_cases c : i < l.length <;> simp [c]
    have step : ∀ s, s < l.length → Nat.testBit S s = true → ∀ i, i < l.length → Nat.testBit ((l.map nxt).getD s 0) i = true → Nat.testBit S i = true := by
      intro s hs hb1 i hi hb2
      have h := rnd_bit (w := w) S i
      rw [hst] at h
      rw [h]
      have : ldN w S i = true := by
        unfold ldN
        refine List.any_eq_true.mpr ⟨s, by simp; omega, ?_⟩
        rw [hb i hi s, decide_eq_true hs, hb2, hb1]; rfl
      rw [this, decide_eq_true (by omega : i < w.length)]; simp
    have hsub : subB (marks l) ((List.range l.length).map (fun i => Nat.testBit S i)) := by
      refine dfs_least (l := l) ?_ _ _ _ ?_ ?_
      · intro s hs
        rw [hC] at hs
        obtain ⟨b1, b2⟩ := Bool.and_eq_true _ _ ▸ hs
        have b1 := of_decide_eq_true b1
        obtain ⟨r1, r2, r3, r4, _⟩ := hin s b1
        refine ⟨fun c => ?_, fun c => ?_⟩
        · rw [hC, decide_eq_true (by omega : (l.getD s z45).f2.toNat < l.length), Bool.true_and]
          refine step s b1 b2 _ (by omega) ?_
          rw [nx_getD l s b1, nxt_bit (good_at hg b1)]
          exact decide_eq_true (.inl ⟨c, rfl⟩)
        · rw [hC, decide_eq_true (by omega : (l.getD s z45).f3.toNat < l.length), Bool.true_and]
          refine step s b1 b2 _ (by omega) ?_
          rw [nx_getD l s b1, nxt_bit (good_at hg b1)]
          exact decide_eq_true (.inr ⟨c, rfl⟩)
      · intro i hi
        unfold hasB at hi
        by_cases c : i < l.length <;> simp [c] at hi
      · rw [hC, h0, decide_eq_true (by omega : 0 < l.length)]; rfl
    have := hsub j hj
    rw [hC] at this
    exact (Bool.and_eq_true _ _ ▸ this).2
/-- The order at which a run is has been marked. -/
def mk (l : List S45) (p : S87) : Prop := hasB (marks l) p.f0.toNat = true
theorem nx_mk {l : List S45} (hg : Good l) {B : Int} {p : S87} (hA : At l B p) (h : mk l p) (hs : stop l p = false) : mk l (nx l p) := by
  have hc := good_cl hg _ h
  have ho := hA.ok hg
  have h0 : od l p = l.getD p.f0.toNat z45 := rfl
  unfold closedAt at hc
  rw [← h0] at hc
  have hs' : ¬ (od l p).f0 = 0 := by unfold stop at hs; simpa using hs
  have e2 := hc.1 hs'
  unfold mk nx
  split
  · split <;> exact e2
  · have e3 := hc.2 (by have := ho.2.2.2.2.2; omega)
    split
    · split
      · exact e3
      · exact e2
    · split
      · exact e3
      · exact e2
theorem tr_mk {l : List S45} (hg : Good l) : ∀ (n : Nat) (p : S87) (B : Int), At l B p → mk l p → ∀ q ∈ tr l n p, mk l q := by
  intro n
  induction n with
  | zero => intro p B _ h q hq; simp [tr] at hq; subst hq; exact h
  | succ n ih =>
    intro p B hA h q hq
    rw [tr] at hq
    split at hq
    · simp at hq; subst hq; exact h
    · rename_i hs
      rcases List.mem_cons.mp hq with rfl | hq
      · exact h
      · exact ih _ _ (hA.next hg) (nx_mk hg hA h (by simpa using hs)) q hq
theorem last_mk {l : List S45} (hg : Good l) {a b : Int} (hj : jarsOk a b = true) (n : Nat) : mk l (lastP (tr l n (p0 a b))) :=
  tr_mk hg n _ 100 (At.start hg hj) (marks_zero (by have := hg.ne; omega)) _ (lastP_mem (tr_ne _ _ _))
theorem tr_again (l : List S45) : ∀ (n : Nat) (p : S87), stop l (lastP (tr l n p)) = true → tr l ((tr l n p).length - 1) p = tr l n p := by
  intro n
  induction n with
  | zero => intro p _; simp [tr]
  | succ n ih =>
    intro p h
    by_cases c : stop l p = true
    · have e : tr l (n + 1) p = [p] := by rw [tr, if_pos c]
      rw [e]; simp [tr]
    · have e : tr l (n + 1) p = p :: tr l n (nx l p) := by rw [tr, if_neg c]
      rw [e] at h
      rw [tr_last_cons] at h
      have := ih (nx l p) h
      have hl := (tr_len l n (nx l p)).1
      rw [e, List.length_cons, show (tr l n (nx l p)).length + 1 - 1 = ((tr l n (nx l p)).length - 1) + 1 by omega, tr, if_neg c, this]
theorem cloneO (l : List S45) (h : l.length ≤ 100) : tags_Order.f l = some l := by
  unfold tags_Order.f
  rw [Option.bind_some, if_pos (by simp; omega), List.nil_append]
theorem TO_j3 {l : List S44} (hg : Good (l.map cv)) (a b : Int) {S : Nat} (hS : S < 64) (h6 : l.length ≤ 6) (hm : ∀ j, Nat.testBit S j = hasB (marks (l.map cv)) j) :
    Ev (fun k => comfittop_TopOrders.j3 k l (l.map cv) (S : Int) false a b) true := by
  have hcl := cloneO (l.map cv) (by rw [List.length_map]; omega)
  have hlen : (l.map cv).length = l.length := List.length_map _
  refine Ev.succ (g := fun k => _) ?_ (fun k => by rw [comfittop_TopOrders.j3, if_neg (by decide), hcl, Option.bind_some])
  by_cases hj : jarsOk a b = true
  · refine Ev.bind (Ends_ok hg hj) ?_
    unfold endsOf
    by_cases hst : stop (l.map cv) (lastP (tr (l.map cv) 1000 (p0 a b))) = true
    · rw [if_pos hst]
      have hle := tr_len (l.map cv) 1000 (p0 a b)
      have hG := Go_ok hg hj ((tr (l.map cv) 1000 (p0 a b)).length - 1) (by omega)
      rw [tr_again _ _ _ hst] at hG
      have hA := last_at hg hj 1000
      have hk := last_mk hg hj 1000
      refine Ev.ifPos rfl (Ev.bind hG ?_)
      dsimp only
      generalize lastP (tr (l.map cv) 1000 (p0 a b)) = p at hst hA hk ⊢
      have a0 := hA.o0
      have a1 := hA.o1
      rw [hlen] at a1
      refine Ev.ifPos rfl (Ev.ifPos rfl (Ev.ifPos a0 (Ev.ifPos a1 (Ev.ifPos a0 (Ev.ifPos ?_ (Ev.ifPos ?_ (Ev.const rfl)))))))
      · have e : od (l.map cv) p = cv (rd_T44 l p.f0) := rd_cv _ _
        unfold stop at hst
        rw [e] at hst
        simpa [cv] using hst
      · have h := shr_all S hS p.f0.toNat (by omega)
        rw [Int.toNat_of_nonneg a0] at h
        rw [h, hm]
        exact hk
    · rw [if_neg hst]
      exact Ev.ifNeg (by decide) (Ev.ifPos rfl (Ev.const rfl))
  · refine Ev.bind (Ends_bad (l.map cv) a b (fun h => hj h.2)) (Ev.ifNeg (by decide) (Ev.ifNeg (by decide) (Ev.ifPos rfl (Ev.const rfl))))
theorem TO_end {l : List S44} (hg : Good (l.map cv)) (a b : Int) (h6 : l.length ≤ 6) :
    Ev (fun k => comfittop_TopOrders.l0 k l (l.map cv) (cI ((l.map cv).map nxt)) l (l.length : Int) (l.length : Int) a b) true := by
  have hlen : (l.map cv).length = l.length := List.length_map _
  have hcl := cloneO (l.map cv) (by rw [List.length_map]; omega)
  have hne := hg.ne
  have hsm := small_nxt hg (by omega)
  obtain ⟨w, hw, hwl, hwb, he⟩ := reached_ev hsm (by rw [List.length_map]; omega)
  rw [List.length_map] at hwl hwb
  have hm := set_marks hg (by omega) hw hwl hwb
  have hlt := rN_lt hw w.length 1 (Nat.one_lt_two_pow (by omega))
  have hlt64 := lt64 hw.1 hlt
  have hpos : rN w w.length 1 ≠ 0 := by
    intro h
    have := hm 0
    rw [h, marks_zero (by omega)] at this
    simp at this
  have hF : tags_Fewer.f (l.map cv) = some (outB (Go.Proofs.Ytmlbdkkdejecmaa.X.marks (l.map cv)) (l.map cv) (l.map cv).length, 0) := by
    unfold tags_Fewer.f
    rw [if_pos ((isM_good _).mpr hg)]
  have hcount : (outB (Go.Proofs.Ytmlbdkkdejecmaa.X.marks (l.map cv)) (l.map cv) (l.map cv).length).length = pc (rN w w.length 1) := by
    rw [← pc_n_all w.length hw.1 _ hlt64 hlt, hwl]
    unfold outB
    rw [List.length_map]
    congr 1
    exact List.filter_congr (fun j _ => (hwl ▸ hm j : Nat.testBit (rN w (l.map cv).length 1) j = _).symm)
  refine Ev.succ (g := fun k => _) ?_ (fun k => by rw [comfittop_TopOrders.l0, if_neg (by omega), hcl, Option.bind_some, hF, Option.bind_some])
  refine Ev.bind he (Ev.ifPos rfl (Ev.ifNeg (by omega) (Ev.bind (size_ev hlt64) ?_)))
  dsimp only
  rw [hcount]
  have : (((pc (rN w w.length 1) : Nat) : Int) != ((pc (rN w w.length 1) : Nat) : Int)) = false := by simp
  rw [this]
  exact TO_j3 hg a b hlt64 h6 hm
theorem TO_l0 {l : List S44} (hg : Good (l.map cv)) (a b : Int) (h6 : l.length ≤ 6) : ∀ (d i : Nat), i + d = l.length →
    Ev (fun k => comfittop_TopOrders.l0 k l ((l.take i).map cv) (cI (((l.take i).map cv).map nxt)) l (l.length : Int) (i : Int) a b) true := by
  intro d
  induction d with
  | zero =>
    intro i hi
    obtain rfl : i = l.length := by omega
    rw [List.take_length]
    exact TO_end hg a b h6
  | succ d ih =>
    intro i hi
    have h1 := ih (i + 1) (by omega)
    have hil : i < l.length := by omega
    have hx : rd_T44 l (i : Int) = l[i] := by unfold rd_T44; simp [hil]
    have ho : okO (l.map cv).length (cv l[i]) := hg.ok _ (List.mem_map.mpr ⟨_, List.getElem_mem hil, rfl⟩)
    rw [List.length_map] at ho
    have e1 : (l.take (i + 1)).map cv = (l.take i).map cv ++ [cv l[i]] := by rw [List.take_succ_eq_append_getElem hil, List.map_append]; rfl
    have e2 : cI (((l.take (i + 1)).map cv).map nxt) = cI (((l.take i).map cv).map nxt) ++ [((nxt (cv l[i]) : Nat) : Int)] := by rw [e1]; simp only [cI, List.map_append]; rfl
    have l1 : ((l.take i).map cv).length = i := by rw [List.length_map, List.length_take]; omega
    have l2 : (cI (((l.take i).map cv).map nxt)).length = i := by rw [List.length_map, List.length_map, l1]
    rw [e2, e1] at h1
    obtain ⟨o1, o2, o3, o4, o5, o6⟩ := ho
    have f0 : (cv l[i]).f0 = l[i].f0 := rfl
    have f2 : (cv l[i]).f2 = l[i].f2 := rfl
    have f3 : (cv l[i]).f3 = l[i].f3 := rfl
    rw [f2] at o2 o3
    rw [f3] at o4 o5
    have t2 : (2 : Nat) ^ l[i].f2.toNat < 64 := lt64 (n := l.length) h6 (Nat.pow_lt_pow_right (by omega) (by omega))
    have t3 : (2 : Nat) ^ l[i].f3.toNat < 64 := lt64 (n := l.length) h6 (Nat.pow_lt_pow_right (by omega) (by omega))
    have s2 : shl .i64 1 l[i].f2 = ((2 ^ l[i].f2.toNat : Nat) : Int) := by
      have := shl_all l[i].f2.toNat (by omega)
      rw [Int.toNat_of_nonneg o2] at this; exact this
    have s3 : shl .i64 1 l[i].f3 = ((2 ^ l[i].f3.toNat : Nat) : Int) := by
      have := shl_all l[i].f3.toNat (by omega)
      rw [Int.toNat_of_nonneg o4] at this; exact this
    have hj : ∀ (A : Nat), A < 64 → nxt (cv l[i]) = (if l[i].f0 = 2 then A ||| 2 ^ l[i].f3.toNat else A) → Ev (fun k => comfittop_TopOrders.j2 k l ((l.take i).map cv ++ [cv l[i]]) (cI (((l.take i).map cv).map nxt)) (A : Int) l (l.length : Int) (i : Int) a b l[i].f0 l[i].f1 l[i].f2 l[i].f3) true := by
      intro A hA hn
      refine Ev.succ h1 (fun k => ?_)
      rw [comfittop_TopOrders.j2, l2, w_in (by omega) (by omega), hn]
      by_cases c : l[i].f0 = 2
      · rw [if_pos c, if_pos c, if_pos o4, if_pos (by omega), s3, bor_all A hA _ t3]; rfl
      · rw [if_neg c, if_neg c, if_pos (by omega)]; rfl
    by_cases c : l[i].f0 > 0
    · refine Ev.succ (hj (2 ^ l[i].f2.toNat) t2 (by unfold nxt; rw [f0, f2, f3, if_pos c])) (fun k => ?_)
      rw [comfittop_TopOrders.l0, if_pos (by omega), if_pos (by omega), if_pos (by omega), l1, if_pos (by omega), Option.bind_some, hx, if_pos c, if_pos o2, s2,
        show Go.bits .or .i64 0 ((2 ^ l[i].f2.toNat : Nat) : Int) = ((0 ||| 2 ^ l[i].f2.toNat : Nat) : Int) from bor_all 0 (by omega) _ t2, Nat.zero_or]
      rfl
    · refine Ev.succ (hj 0 (by omega) (by unfold nxt; rw [f0, if_neg c, if_neg (by omega)])) (fun k => ?_)
      rw [comfittop_TopOrders.l0, if_pos (by omega), if_pos (by omega), if_pos (by omega), l1, if_pos (by omega), Option.bind_some, hx, if_neg c]
      rfl
theorem TopOrders (l : List S44) (a b : Int) (hl : l.length ≤ 9223372036854775807) : ∃ k, comfittop_TopOrders.f k l a b = some true := by
  refine Ev.get (g := fun k => comfittop_TopOrders.f k l a b) ?_
  have hj : Ev (fun k => comfittop_TopOrders.j0 k l true a b) true := Ev.succ (g := fun k => some true) (Ev.const rfl) (fun k => by rw [comfittop_TopOrders.j0, if_pos rfl]; rfl)
  refine Ev.bind (ref_Machine l hl) ?_
  by_cases hm : isM (l.map cv) = true
  · refine Ev.ifPos hm ?_
    by_cases c : (l.length : Int) > 6
    · rw [decide_eq_true c]; exact hj
    · rw [decide_eq_false c]
      refine Ev.succ (TO_l0 ((isM_good _).mp hm) a b (by omega) l.length 0 (by omega)) (fun k => ?_)
      rw [comfittop_TopOrders.j0, if_neg (by decide)]
      rfl
  · exact Ev.ifNeg hm hj
end Go.Proofs.Ytmlbdkkdejecmaa.Pure
