/- Plain laws of packets: over which numbers the sums of the reference's Mean and Last go (reckoned by the kernel for all sorted weights). -/
import Derived.Test.YtigmhomfadimnaaQMSup
set_option linter.unusedVariables false
set_option linter.unusedSimpArgs false
namespace Go.Proofs.Ytigmhomfadimnaa.Pure
open Go.RowKit Go.Proofs.Ytigmhomfadimnaa.X Go.Proofs.YtigmhomfadimnaaW.PrintWords Go.Proofs.YtigmhomfadimnaaW.PrintLast Go.Proofs.YtigmhomfadimnaaW.PrintMore
/-- A number that all sums of a list divide; and one that all but the whole sum divide. -/
def Dq : List Nat → Nat
  | [] => 1
  | x :: l => Nat.lcm (lcms (Dq l) ((sumsN l).tail.map (· + x))) ((sumsN l).headD 0 + x)
def Dp : List Nat → Nat
  | [] => 1
  | x :: l => lcms (Dq l) ((sumsN l).tail.map (· + x))
def over (Q : Nat) : List Nat → Nat
  | [] => 0
  | x :: l => Q / x + 1 + over Q l
def cof (s f : Nat) : Nat := if f = 0 then 1 else s + 9 * f
def chk3 : Nat → Nat → List Nat → List Nat → Nat → Nat → Nat → Bool
  | 0, lo, ws, S, D, P, s => Nat.blt (s * P) 9223372036854775808 && Nat.blt (over (s * P) ws) 9223372036854775808
  | f + 1, lo, ws, S, D, P, s => Nat.blt (s * P) 9223372036854775808 && Nat.blt (over ((s + 9 * (f + 1)) * (s * P)) ws) 9223372036854775808 &&
      (List.range 10).all fun w => Nat.blt w lo || (fun P2 => chk3 f w (w :: ws) (S.flatMap fun y => [y + w, y]) (Nat.lcm P2 (S.headD 0 + w)) P2 (s + w)) (lcms D (S.tail.map (· + w)))
set_option maxRecDepth 100000 in
theorem chk3_all : chk3 6 1 [] [0] 1 1 0 = true := by decide +kernel
theorem sumsN_head : ∀ l : List Nat, sumsN l = l.sum :: (sumsN l).tail := by
  intro l
  induction l with
  | nil => rfl
  | cons x l ih =>
    rw [sumsN, ih, List.flatMap_cons, List.sum_cons]
    simp [Nat.add_comm]
theorem sumsN_cons (x : Nat) (l : List Nat) : sumsN (x :: l) = (l.sum + x) :: l.sum :: ((sumsN l).tail.flatMap fun y => [y + x, y]) := by
  rw [sumsN]
  conv => lhs; rw [sumsN_head l]
  rfl
theorem headD_sums (l : List Nat) : (sumsN l).headD 0 = l.sum := by rw [sumsN_head]; rfl
theorem D_dvd : ∀ l : List Nat, (∀ y ∈ sumsN l, y = 0 ∨ y ∣ Dq l) ∧ ∀ y ∈ (sumsN l).tail, y = 0 ∨ y ∣ Dp l := by
  intro l
  induction l with
  | nil => exact ⟨fun y hy => by left; simpa [sumsN] using hy, fun y hy => by simp [sumsN] at hy⟩
  | cons x l ih =>
    have h := lcms_dvd ((sumsN l).tail.map (· + x)) (Dq l)
    have hp : ∀ y ∈ (sumsN (x :: l)).tail, y = 0 ∨ y ∣ Dp (x :: l) := by
      intro y hy
      rw [sumsN_cons, List.tail_cons, List.mem_cons, List.mem_flatMap] at hy
      rcases hy with rfl | ⟨z, hz, hy⟩
      · rcases ih.1 _ (by rw [sumsN_head]; exact List.mem_cons_self) with e | e
        · exact .inl e
        · exact .inr (Nat.dvd_trans e h.1)
      · simp only [List.mem_cons, List.not_mem_nil, or_false] at hy
        rcases hy with rfl | rfl
        · exact .inr (h.2 _ (List.mem_map.2 ⟨z, hz, rfl⟩))
        · rcases ih.1 y (by rw [sumsN_head]; exact List.mem_cons_of_mem _ hz) with e | e
          · exact .inl e
          · exact .inr (Nat.dvd_trans e h.1)
    refine ⟨fun y hy => ?_, hp⟩
    rw [sumsN_head, List.mem_cons] at hy
    rcases hy with rfl | hy
    · right
      have : (x :: l).sum = (sumsN l).headD 0 + x := by rw [headD_sums, List.sum_cons, Nat.add_comm]
      rw [this, Dq]
      exact Nat.dvd_lcm_right _ _
    · rcases hp y hy with e | e
      · exact .inl e
      · exact .inr (Nat.dvd_trans e (Nat.dvd_lcm_left _ _))
theorem D_pos : ∀ l : List Nat, (∀ x ∈ l, 0 < x) → 0 < Dq l ∧ 0 < Dp l := by
  intro l
  induction l with
  | nil => intro _; exact ⟨Nat.one_pos, Nat.one_pos⟩
  | cons x l ih =>
    intro h
    have hx := h x (by simp)
    have hp : 0 < Dp (x :: l) := by
      refine lcms_pos _ _ (ih fun y hy => h y (by simp [hy])).1 (fun y hy => ?_)
      obtain ⟨z, _, rfl⟩ := List.mem_map.1 hy
      omega
    exact ⟨Nat.lcm_pos hp (by omega), hp⟩
theorem chk3_at : ∀ ws : List Nat, desc ws → (∀ x ∈ ws, 1 ≤ x ∧ x ≤ 9) → ws.length ≤ 6 → chk3 (6 - ws.length) (headD ws) ws (sumsN ws) (Dq ws) (Dp ws) ws.sum = true := by
  intro ws
  induction ws with
  | nil => intro _ _ _; exact chk3_all
  | cons x ws ih =>
    intro hd hx hl
    simp only [List.length_cons] at hl
    have h := ih (by cases ws with | nil => trivial | cons y l => exact hd.2) (fun y hy => hx y (by simp [hy])) (by omega)
    obtain ⟨f, hf⟩ : ∃ f, 6 - ws.length = f + 1 := ⟨5 - ws.length, by omega⟩
    rw [hf] at h
    unfold chk3 at h
    simp only [Bool.and_eq_true, List.all_eq_true, List.mem_range] at h
    have hx1 := hx x (by simp)
    have h2 := h.2 x (by omega)
    have h3 : Nat.blt x (headD ws) = false := by
      rw [← Bool.not_eq_true, Nat.blt_eq]
      cases ws with
      | nil => simp [headD]; omega
      | cons y l => have := hd.1; simp [headD]; omega
    rw [h3, Bool.false_or] at h2
    have e1 : 6 - (x :: ws).length = f := by simp only [List.length_cons]; omega
    rw [e1]
    show chk3 f x (x :: ws) _ _ _ _ = true
    rw [List.sum_cons, Nat.add_comm x]
    exact h2
theorem chk3_get {f lo : Nat} {ws S : List Nat} {D P s : Nat} (h : chk3 f lo ws S D P s = true) : s * P < 9223372036854775808 ∧ over (cof s f * (s * P)) ws < 9223372036854775808 := by
  cases f with
  | zero =>
    simp only [chk3, Bool.and_eq_true, Nat.blt_eq] at h
    rw [cof, if_pos rfl, Nat.one_mul]
    exact h
  | succ f =>
    simp only [chk3, Bool.and_eq_true, Nat.blt_eq] at h
    rw [cof, if_neg (by omega)]
    exact h.1
theorem over_perm (Q : Nat) {l l' : List Nat} (h : l.Perm l') : over Q l = over Q l' := by
  induction h with
  | nil => rfl
  | cons x _ ih => simp only [over, ih]
  | swap x y l => simp only [over]; omega
  | trans _ _ h1 h2 => exact h1.trans h2
/-- The sum of the upside down weights. -/
def hh : List Nat → Rat
  | [] => 0
  | x :: l => 1 / (x : Rat) + hh l
theorem over_hh (Q : Nat) : ∀ l : List Nat, (∀ x ∈ l, 1 ≤ x) → (Q : Rat) * hh l ≤ (over Q l : Nat) := by
  intro l
  induction l with
  | nil => intro _; rw [hh, over]; simp
  | cons x l ih =>
    intro h
    have h1 := ih (fun y hy => h y (by simp [hy]))
    have hx := h x (by simp)
    have hx0 : (0 : Rat) < (x : Rat) := by exact_mod_cast (show 0 < x by omega)
    have h2 : (Q : Rat) * (1 / (x : Rat)) ≤ ((Q / x + 1 : Nat) : Rat) := by
      have h3 : Q ≤ (Q / x + 1) * x := by
        have := Nat.div_add_mod Q x
        have := Nat.mod_lt Q (show x > 0 by omega)
        rw [Nat.add_mul, Nat.mul_comm]
        omega
      have h4 : (Q : Rat) ≤ ((Q / x + 1 : Nat) : Rat) * (x : Rat) := by exact_mod_cast h3
      have hi : (0 : Rat) ≤ (x : Rat)⁻¹ := Rat.le_of_lt (Rat.inv_pos.2 hx0)
      have h5 := Rat.mul_le_mul_of_nonneg_right h4 hi
      rw [Rat.mul_assoc, Rat.mul_inv_cancel _ (by grind), Rat.mul_one] at h5
      rw [Rat.div_def, Rat.one_mul]
      exact h5
    rw [hh, over]
    push_cast at h2 ⊢
    grind
/-- Every set of weights has a number that the sums of its lesser parts divide, and that isn't too great. -/
theorem good3 (l : List Nat) (h : ∀ x ∈ l, 1 ≤ x ∧ x ≤ 9) (hl : l.length ≤ 6) : ∃ P : Nat, 0 < P ∧ l.sum * P < 9223372036854775808 ∧ (∀ y ∈ l, ∀ z ∈ sumsN (l.erase y), z = 0 ∨ z ∣ P) ∧
    ((cof l.sum (6 - l.length) * (l.sum * P) : Nat) : Rat) * hh l < 9223372036854775808 := by
  obtain ⟨ws, hw, hd⟩ := desc_of l
  have hin : ∀ x ∈ ws, 1 ≤ x ∧ x ≤ 9 := fun x hx => h x (hw.mem_iff.mp hx)
  have hlen := hw.length_eq
  have hs := sum_perm hw
  have hc := chk3_get (chk3_at ws hd hin (by omega))
  refine ⟨Dp ws, (D_pos ws (fun x hx => (hin x hx).1)).2, by rw [← hs]; exact hc.1, fun y hy z hz => ?_, ?_⟩
  · refine (D_dvd ws).2 z ?_
    have hp : ws.Perm (y :: l.erase y) := hw.trans (List.perm_cons_erase hy)
    have h1 := sumsN_perm hp
    rw [sumsN_head ws, sumsN_cons y (l.erase y), sum_perm hp, List.sum_cons, Nat.add_comm y] at h1
    have h2 := (List.perm_cons _).mp h1
    refine h2.mem_iff.mpr ?_
    rw [sumsN_head, List.mem_cons] at hz
    rcases hz with rfl | hz
    · exact List.mem_cons_self
    · exact List.mem_cons_of_mem _ (List.mem_flatMap.2 ⟨z, hz, by simp⟩)
  · rw [← hs, ← hlen]
    have h1 := over_hh (cof ws.sum (6 - ws.length) * (ws.sum * Dp ws)) l (fun x hx => (h x hx).1)
    rw [← over_perm _ hw] at h1
    have h2 : ((over (cof ws.sum (6 - ws.length) * (ws.sum * Dp ws)) ws : Nat) : Rat) < 9223372036854775808 := by exact_mod_cast hc.2
    grind
/-! ### The average by the kind that comes next -/
theorem sgn_term' (A y D : Nat) (hy : y = 0 ∨ y ∣ D) (hD : 0 < D) : (A : Rat) / (y : Rat) = Rat.divInt ((if y = 0 then 0 else A * (D / y) : Nat) : Int) D := by
  by_cases e : y = 0
  · rw [if_pos e, e]
    rw [Rat.divInt_eq_div]
    have : ((0 : Nat) : Rat) = 0 := rfl
    rw [this]
    have : (((0 : Nat) : Int) : Rat) = 0 := rfl
    rw [this]
    grind
  · rw [if_neg e]
    have h := term_eq A y D (by omega) (hy.resolve_left e) hD 1
    rw [Int.one_mul, Int.one_mul] at h
    rw [← h, Rat.divInt_eq_div, Rat.intCast_natCast, Rat.intCast_natCast]
theorem mm_over (D : Nat) (hD : 0 < D) (m : List Nat) (h : ∀ z ∈ sumsN m, z = 0 ∨ z ∣ D) : ∃ N : Int, mm m = Rat.divInt N D := by
  have key : ∀ L : List (Bool × Nat), (∀ c ∈ L, c.2 = 0 ∨ c.2 ∣ D) → ∃ N : Int, rs 1 L = Rat.divInt N D := by
    intro L
    induction L with
    | nil => intro _; exact ⟨0, by rw [rs, Rat.zero_divInt]⟩
    | cons c L ih =>
      obtain ⟨b, y⟩ := c
      intro hd
      obtain ⟨N, hN⟩ := ih (fun c hc => hd c (by simp [hc]))
      have hy := sgn_term' 1 y D (hd (b, y) (by simp)) hD
      cases b with
      | true =>
        refine ⟨-((if y = 0 then 0 else 1 * (D / y) : Nat) : Int) + N, ?_⟩
        rw [rs, if_pos rfl, hN, hy, ← divInt_sum]
        congr 1
        rw [Rat.divInt_eq_div, Rat.divInt_eq_div, Rat.intCast_neg]
        grind
      | false =>
        refine ⟨((if y = 0 then 0 else 1 * (D / y) : Nat) : Int) + N, ?_⟩
        rw [rs, if_neg (by simp), hN, hy, divInt_sum]
  obtain ⟨N, hN⟩ := key (dscS m) (fun c hc => h c.2 (by rw [← dscS_snd]; exact List.mem_map.2 ⟨c, hc, rfl⟩))
  rw [rs_mm] at hN
  exact ⟨N, by rw [← hN]; grind⟩
end Go.Proofs.Ytigmhomfadimnaa.Pure
