/- Plain laws of machines: a run as the values of one function; a run with a circle never ends. -/
import Derived.Test.YtjmbjnobbeflfaaQMCirc
set_option linter.unusedVariables false
set_option linter.unusedSimpArgs false
namespace Go.Proofs.Ytjmbjnobbeflfaa.Pure
open Go.RowKit Go.Proofs.Ytjmbjnobbeflfaa.X Go.Proofs.YtjmbjnobbeflfaaW.PrintWords Go.Proofs.YtjmbjnobbeflfaaW.PrintLast Go.Proofs.YtjmbjnobbeflfaaW.PrintMore
/-- The place after so many steps. -/
def gp (l : List S57) (p : S66) : Nat → S66
  | 0 => p
  | k + 1 => nx l (gp l p k)
theorem gp_nx (l : List S57) (p : S66) : ∀ k, gp l (nx l p) k = gp l p (k + 1) := by
  intro k
  induction k with
  | zero => rfl
  | succ k ih => show nx l (gp l (nx l p) k) = nx l (gp l p (k + 1)); rw [ih]
theorem gp_at {l : List S57} (hg : Good l) {p : S66} {B : Int} (h : At l B p) : ∀ k : Nat, At l (B + k) (gp l p k) := by
  intro k
  induction k with
  | zero => exact ⟨h.o0, h.o1, h.a0, by have := h.a1; show _ ≤ B + ((0 : Nat) : Int); simpa [gp] using this, h.b0, by have := h.b1; show _ ≤ B + ((0 : Nat) : Int); simpa [gp] using this⟩
  | succ k ih =>
    have := ih.next hg
    have e : B + ((k + 1 : Nat) : Int) = B + (k : Int) + 1 := by omega
    rw [e]
    exact this
/-- How far a run goes. -/
def fin (l : List S57) (p : S66) (n : Nat) : Nat := (tr l n p).length - 1
theorem tr_is (l : List S57) : ∀ (n : Nat) (p : S66), fin l p n ≤ n ∧ tr l n p = (List.range (fin l p n + 1)).map (gp l p) ∧ (∀ k, k < fin l p n → stop l (gp l p k) = false) ∧ (fin l p n = n ∨ stop l (gp l p (fin l p n)) = true) := by
  intro n
  induction n with
  | zero =>
    intro p
    refine ⟨by simp [fin, tr], by simp [fin, tr, gp], fun k hk => by simp [fin, tr] at hk, .inl (by simp [fin, tr])⟩
  | succ n ih =>
    intro p
    by_cases h : stop l p = true
    · have e : tr l (n + 1) p = [p] := by rw [tr, if_pos h]
      have f0 : fin l p (n + 1) = 0 := by unfold fin; rw [e]; rfl
      rw [f0, e]
      exact ⟨by omega, rfl, fun k hk => by omega, .inr h⟩
    · have e : tr l (n + 1) p = p :: tr l n (nx l p) := by rw [tr, if_neg h]
      obtain ⟨h1, h2, h3, h4⟩ := ih (nx l p)
      have hl := (tr_len l n (nx l p)).1
      have f1 : fin l p (n + 1) = fin l (nx l p) n + 1 := by
        unfold fin; rw [e]; simp; omega
      rw [f1]
      refine ⟨by omega, ?_, ?_, ?_⟩
      · rw [e, h2, show List.range (fin l (nx l p) n + 1 + 1) = 0 :: (List.range (fin l (nx l p) n + 1)).map Nat.succ from List.range_succ_eq_map, List.map_cons, List.map_map]
        congr 1
        refine List.map_congr_left (fun k _ => ?_)
        exact gp_nx l p k
      · intro k hk
        cases k with
        | zero => exact Bool.eq_false_iff.mpr h
        | succ k => rw [← gp_nx]; exact h3 k (by omega)
      · rcases h4 with h4 | h4
        · exact .inl (by omega)
        · exact .inr (by rw [← gp_nx]; exact h4)
theorem fin_le (l : List S57) (p : S66) (n : Nat) : fin l p n ≤ n := (tr_is l n p).1
theorem fin_go (l : List S57) (p : S66) (n k : Nat) (h : k < fin l p n) : stop l (gp l p k) = false := (tr_is l n p).2.2.1 k h
theorem fin_end (l : List S57) (p : S66) (n : Nat) (h : fin l p n < n) : stop l (gp l p (fin l p n)) = true := by
  rcases (tr_is l n p).2.2.2 with h4 | h4
  · omega
  · exact h4
theorem fin_mono (l : List S57) (p : S66) {n m : Nat} (h : n ≤ m) : fin l p n ≤ fin l p m ∧ (fin l p n < n → fin l p m = fin l p n) := by
  have a1 := fin_le l p n
  have a2 := fin_le l p m
  by_cases c : fin l p m < fin l p n
  · have := fin_go l p n _ c
    rw [fin_end l p m (by omega)] at this
    simp at this
  · refine ⟨by omega, fun hn => ?_⟩
    by_cases c2 : fin l p n < fin l p m
    · have := fin_go l p m _ c2
      rw [fin_end l p n hn] at this
      simp at this
    · omega
theorem tr_length (l : List S57) (p : S66) (n : Nat) : (tr l n p).length = fin l p n + 1 := by
  have := (tr_len l n p).1
  unfold fin
  omega
theorem lastP_gp (l : List S57) (p : S66) (n : Nat) : lastP (tr l n p) = gp l p (fin l p n) := by
  rw [(tr_is l n p).2.1]
  unfold lastP
  rw [List.range_succ, List.map_append]
  simp
theorem at_gp (l : List S57) (p : S66) (n i : Nat) (h : i ≤ fin l p n) : at_ (tr l n p) i = gp l p i := by
  have e := (tr_is l n p).2.1
  unfold at_
  rw [e]
  simp [show i < fin l p n + 1 by omega]
theorem was_gp (l : List S57) (p : S66) (n i j : Nat) (hj : j ≤ fin l p n) (c : Int) : was l c (seg (tr l n p) i j) = true ↔ ∃ r, i ≤ r ∧ r < j ∧ fd l (gp l p r) = c := by
  have e := (tr_is l n p).2.1
  unfold was seg
  rw [List.any_eq_true]
  have hlen := tr_length l p n
  constructor
  · rintro ⟨x, hx, hc⟩
    obtain ⟨k, hk, rfl⟩ := List.mem_iff_getElem.mp hx
    rw [List.length_drop, List.length_take] at hk
    refine ⟨i + k, by omega, by omega, ?_⟩
    rw [beq_iff_eq] at hc
    rw [← hc]
    congr 1
    rw [List.getElem_drop, List.getElem_take]
    have := at_gp l p n (i + k) (by omega)
    rw [← this]
    unfold at_
    simp [show i + k < (tr l n p).length by omega]
  · rintro ⟨r, h1, h2, h3⟩
    refine ⟨gp l p r, ?_, by rw [h3]; simp⟩
    rw [List.mem_iff_getElem]
    refine ⟨r - i, by rw [List.length_drop, List.length_take]; omega, ?_⟩
    rw [List.getElem_drop, List.getElem_take]
    have := at_gp l p n r (by omega)
    rw [← this]
    unfold at_
    have hr : r < (tr l n p).length := by omega
    simp only [show i + (r - i) = r by omega]
    simp [hr]
/-- Two places of the run are a circle. -/
structure Circ (l : List S57) (p : S66) (i j : Nat) : Prop where
  ord : (gp l p i).f0 = (gp l p j).f0
  a : (gp l p i).f1.f0 ≤ (gp l p j).f1.f0
  b : (gp l p i).f1.f1 ≤ (gp l p j).f1.f1
  ea : ∀ r, i ≤ r → r < j → fd l (gp l p r) = 0 → (gp l p j).f1.f0 = (gp l p i).f1.f0
  eb : ∀ r, i ≤ r → r < j → fd l (gp l p r) = 1 → (gp l p j).f1.f1 = (gp l p i).f1.f1
theorem circ_iff (l : List S57) (p : S66) (n i j : Nat) (hij : i < j) (hj : j ≤ fin l p n) : circ l (tr l n p) i j = true ↔ Circ l p i j := by
  unfold circ
  rw [at_gp l p n i (by omega), at_gp l p n j hj]
  have w0 := was_gp l p n i j hj 0
  have w1 := was_gp l p n i j hj 1
  simp only [Bool.and_eq_true, Bool.or_eq_true, Bool.not_eq_true', beq_iff_eq, decide_eq_false_iff_not]
  constructor
  · rintro ⟨h1, h2, h3, h4, h5⟩
    refine ⟨h1, by omega, by omega, fun r hr hr2 hf => ?_, fun r hr hr2 hf => ?_⟩
    · rcases h4 with h4 | h4
      · rw [w0.mpr ⟨r, hr, hr2, hf⟩] at h4; simp at h4
      · exact h4
    · rcases h5 with h5 | h5
      · rw [w1.mpr ⟨r, hr, hr2, hf⟩] at h5; simp at h5
      · exact h5
  · rintro ⟨h1, h2, h3, h4, h5⟩
    refine ⟨h1, by omega, by omega, ?_, ?_⟩
    · by_cases c : was l 0 (seg (tr l n p) i j) = true
      · obtain ⟨r, a, b, d⟩ := w0.mp c
        exact .inr (h4 r a b d)
      · exact .inl (Bool.eq_false_iff.mpr c)
    · by_cases c : was l 1 (seg (tr l n p) i j) = true
      · obtain ⟨r, a, b, d⟩ := w1.mp c
        exact .inr (h5 r a b d)
      · exact .inl (Bool.eq_false_iff.mpr c)

/-! ### A run with a circle never ends -/
def sh2 (x y : Int) (p : S66) : S66 := ⟨p.f0, ⟨p.f1.f0 + x, p.f1.f1 + y⟩⟩
def nxo (q : S57) (a b : Int) : S66 :=
  if q.f0 = 1 then (if q.f1 = 0 then ⟨q.f2, ⟨a + 1, b⟩⟩ else ⟨q.f2, ⟨a, b + 1⟩⟩)
  else if q.f1 = 0 then (if a = 0 then ⟨q.f3, ⟨a, b⟩⟩ else ⟨q.f2, ⟨a - 1, b⟩⟩)
  else (if b = 0 then ⟨q.f3, ⟨a, b⟩⟩ else ⟨q.f2, ⟨a, b - 1⟩⟩)
theorem nx_nxo (l : List S57) (p : S66) : nx l p = nxo (od l p) p.f1.f0 p.f1.f1 := rfl
theorem nx_sh2 (l : List S57) (x y : Int) (hx : 0 ≤ x) (hy : 0 ≤ y) (p : S66) (h0 : 0 ≤ p.f1.f0) (h1 : 0 ≤ p.f1.f1) (ho : okO l.length (od l p)) (hs : stop l p = false) (e0 : fd l p = 0 → x = 0) (e1 : fd l p = 1 → y = 0) :
    nx l (sh2 x y p) = sh2 x y (nx l p) := by
  have hs' : ¬ (od l p).f0 = 0 := by intro h; unfold stop at hs; rw [h] at hs; simp at hs
  obtain ⟨k1, _, _, _, _, k6⟩ := ho
  unfold fd at e0 e1
  rw [nx_nxo, nx_nxo l p]
  show nxo (od l p) (p.f1.f0 + x) (p.f1.f1 + y) = _
  generalize od l p = q at *
  generalize p.f1.f0 = a at *
  generalize p.f1.f1 = b at *
  unfold nxo sh2
  by_cases c1 : q.f0 = 1
  · rw [if_pos c1, if_pos c1]
    by_cases c2 : q.f1 = 0
    · rw [if_pos c2, if_pos c2, show a + x + 1 = a + 1 + x by omega]
    · rw [if_neg c2, if_neg c2, show b + y + 1 = b + 1 + y by omega]
  · have c3 : q.f0 = 2 := by omega
    rw [if_pos c3] at e0 e1
    rw [if_neg c1, if_neg c1]
    by_cases c2 : q.f1 = 0
    · rw [if_pos c2] at e0 e1
      rw [if_pos c2, if_pos c2]
      by_cases c4 : a = 0
      · rw [if_pos c4] at e0
        have := e0 rfl
        rw [if_pos c4, if_pos (by omega)]
      · rw [if_neg c4, if_neg (by omega), show a + x - 1 = a - 1 + x by omega]
    · rw [if_neg c2] at e0 e1
      rw [if_neg c2, if_neg c2]
      by_cases c4 : b = 0
      · rw [if_pos c4] at e1
        have := e1 rfl
        rw [if_pos c4, if_pos (by omega)]
      · rw [if_neg c4, if_neg (by omega), show b + y - 1 = b - 1 + y by omega]
theorem never {l : List S57} (hg : Good l) {p : S66} {B : Int} (hA : At l B p) {i j : Nat} (hij : i < j) (hrun : ∀ k, k < j → stop l (gp l p k) = false) (hc : Circ l p i j) : ∀ k, stop l (gp l p k) = false := by
  have key : ∀ t : Nat, ∃ (r : Nat) (x y : Int), i ≤ r ∧ r < j ∧ 0 ≤ x ∧ 0 ≤ y ∧ gp l p (i + t) = sh2 x y (gp l p r) ∧ (∀ q, i ≤ q → q < j → fd l (gp l p q) = 0 → x = 0) ∧ (∀ q, i ≤ q → q < j → fd l (gp l p q) = 1 → y = 0) := by
    intro t
    induction t with
    | zero => exact ⟨i, 0, 0, by omega, hij, by omega, by omega, by simp [sh2], fun _ _ _ _ => rfl, fun _ _ _ _ => rfl⟩
    | succ t ih =>
      obtain ⟨r, x, y, h1, h2, h3, h4, h5, h6, h7⟩ := ih
      have hr := gp_at hg hA r
      have hn : gp l p (i + (t + 1)) = sh2 x y (gp l p (r + 1)) := by
        show nx l (gp l p (i + t)) = _
        rw [h5, nx_sh2 l x y h3 h4 _ hr.a0 hr.b0 (hr.ok hg) (hrun r h2) (h6 r h1 h2) (h7 r h1 h2)]
        rfl
      by_cases c : r + 1 < j
      · exact ⟨r + 1, x, y, by omega, c, h3, h4, hn, h6, h7⟩
      · obtain rfl : r + 1 = j := by omega
        refine ⟨i, x + ((gp l p (r + 1)).f1.f0 - (gp l p i).f1.f0), y + ((gp l p (r + 1)).f1.f1 - (gp l p i).f1.f1), by omega, hij, by have := hc.a; omega, by have := hc.b; omega, ?_, ?_, ?_⟩
        · rw [hn]
          unfold sh2
          rw [hc.ord]
          congr 2 <;> omega
        · intro q a b d
          have e1 := h6 q a b d
          have e2 := hc.ea q a b d
          omega
        · intro q a b d
          have e1 := h7 q a b d
          have e2 := hc.eb q a b d
          omega
  intro k
  by_cases c : k < i
  · exact hrun k (by omega)
  · obtain ⟨r, x, y, h1, h2, _, _, h5, _, _⟩ := key (k - i)
    rw [show i + (k - i) = k by omega] at h5
    rw [h5]
    have := hrun r h2
    unfold stop at this ⊢
    exact this
/-! ### The first circle -/
theorem fI_some {c : Nat → Nat → Bool} {j : Nat} : ∀ (d i q : Nat), fI c j d i = some q → i ≤ q ∧ q < i + d ∧ c q j = true := by
  intro d
  induction d with
  | zero => intro i q h; simp [fI] at h
  | succ d ih =>
    intro i q h
    rw [fI] at h
    split at h
    · obtain rfl := Option.some.inj h
      exact ⟨by omega, by omega, by assumption⟩
    · have := ih (i + 1) q h
      exact ⟨by omega, by omega, this.2.2⟩
theorem fI_none {c : Nat → Nat → Bool} {j : Nat} : ∀ (d i : Nat), fI c j d i = none → ∀ q, i ≤ q → q < i + d → c q j = false := by
  intro d
  induction d with
  | zero => intro i _ q h1 h2; omega
  | succ d ih =>
    intro i h q h1 h2
    rw [fI] at h
    split at h
    · simp at h
    · rename_i hn
      by_cases e : q = i
      · rw [e]; exact Bool.eq_false_iff.mpr hn
      · exact ih (i + 1) h q (by omega) (by omega)
theorem fJ_some {c : Nat → Nat → Bool} : ∀ (d j i' j' : Nat), fJ c d j = some (i', j') → j ≤ j' ∧ j' < j + d ∧ i' < j' ∧ c i' j' = true ∧ ∀ q r, r < q → j ≤ q → q < j' → c r q = false := by
  intro d
  induction d with
  | zero => intro j i' j' h; simp [fJ] at h
  | succ d ih =>
    intro j i' j' h
    rw [fJ] at h
    split at h
    · rename_i q hq
      obtain ⟨rfl, rfl⟩ := Prod.mk.inj (Option.some.inj h)
      have := fI_some _ _ _ hq
      exact ⟨by omega, by omega, by omega, this.2.2, fun _ _ _ _ _ => by omega⟩
    · rename_i hq
      obtain ⟨h1, h2, h3, h4, h5⟩ := ih (j + 1) i' j' h
      refine ⟨by omega, by omega, h3, h4, fun q r hr a b => ?_⟩
      by_cases e : q = j
      · rw [e]; exact fI_none _ _ hq r (by omega) (by omega)
      · exact h5 q r hr (by omega) b
theorem fJ_none {c : Nat → Nat → Bool} : ∀ (d j : Nat), fJ c d j = none → ∀ q r, r < q → j ≤ q → q < j + d → c r q = false := by
  intro d
  induction d with
  | zero => intro j _ q r _ a b; omega
  | succ d ih =>
    intro j h q r hr a b
    rw [fJ] at h
    split at h
    · simp at h
    · rename_i hq
      by_cases e : q = j
      · rw [e]; exact fI_none _ _ hq r (by omega) (by omega)
      · exact ih (j + 1) h q r hr (by omega) (by omega)
theorem first_some {l : List S57} {a b : Int} {i j : Nat} (h : firstC l a b = some (i, j)) : i < j ∧ j ≤ fin l (p0 a b) 200 ∧ Circ l (p0 a b) i j ∧ ∀ q r, r < q → q < j → ¬ Circ l (p0 a b) r q := by
  unfold firstC at h
  obtain ⟨_, h2, h3, h4, h5⟩ := fJ_some _ _ _ _ h
  rw [tr_length] at h2
  refine ⟨h3, by omega, (circ_iff l _ 200 i j h3 (by omega)).mp h4, fun q r hr hq hc => ?_⟩
  have := h5 q r hr (by omega) hq
  rw [(circ_iff l _ 200 r q hr (by omega)).mpr hc] at this
  simp at this
theorem first_none {l : List S57} {a b : Int} (h : firstC l a b = none) : ∀ q r, r < q → q ≤ fin l (p0 a b) 200 → ¬ Circ l (p0 a b) r q := by
  unfold firstC at h
  intro q r hr hq hc
  have := fJ_none _ _ h q r hr (by omega) (by rw [tr_length]; omega)
  rw [(circ_iff l _ 200 r q hr hq).mpr hc] at this
  simp at this
theorem isC_iff (l : List S57) (a b : Int) (i j : Nat) : isC l a b (i : Int) (j : Int) = true ↔ i < j ∧ j ≤ fin l (p0 a b) 1000 ∧ Circ l (p0 a b) i j := by
  unfold isC
  rw [tr_length, Bool.and_eq_true, decide_eq_true_eq, Int.toNat_natCast, Int.toNat_natCast]
  constructor
  · rintro ⟨⟨h1, h2, h3⟩, h4⟩
    exact ⟨by omega, by omega, (circ_iff l _ 1000 i j (by omega) (by omega)).mp h4⟩
  · rintro ⟨h1, h2, h3⟩
    exact ⟨⟨by omega, by omega, by omega⟩, (circ_iff l _ 1000 i j h1 h2).mpr h3⟩
end Go.Proofs.Ytjmbjnobbeflfaa.Pure
