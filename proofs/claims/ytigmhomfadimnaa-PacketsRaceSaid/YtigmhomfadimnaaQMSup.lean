/- Plain laws of packets: differences of powers, over all sets; the chance of a kind to be a set's last. -/
import Derived.Test.YtigmhomfadimnaaQMDone
import Derived.Test.YtigmhomfadimnaaQHExact
import Derived.Test.YtigmhomfadimnaaQX0
import Derived.Test.YtigmhomfadimnaaQXR
import Derived.Test.YtigmhomfadimnaaQXS
import Derived.Test.YtigmhomfadimnaaQXP
import Derived.Test.YtigmhomfadimnaaQHDone
import Derived.Test.YtigmhomfadimnaaQHIsSet
import Derived.Test.YtigmhomfadimnaaQMMean
import Derived.Test.YtigmhomfadimnaaQHLast
set_option linter.unusedVariables false
set_option linter.unusedSimpArgs false
namespace Go.Proofs.Ytigmhomfadimnaa.Pure
open Go.RowKit Go.Proofs.Ytigmhomfadimnaa.X Go.Proofs.YtigmhomfadimnaaW.PrintWords Go.Proofs.YtigmhomfadimnaaW.PrintLast Go.Proofs.YtigmhomfadimnaaW.PrintMore

/-! Plain laws of packets: differences of powers: the ways in which just a set's kinds come, over all sets that have another one. -/
/-- Sums and products of numbers from 0 on and of the place itself. -/
inductive AM : (Int → Int) → Prop
  | const (c : Int) : 0 ≤ c → AM (fun _ => c)
  | var : AM (fun y => y)
  | add {f g : Int → Int} : AM f → AM g → AM (fun y => f y + g y)
  | mul {f g : Int → Int} : AM f → AM g → AM (fun y => f y * g y)
/-! ### The program's sums -/
/-! Plain laws of packets: the chance of a kind to be a set's last, as a rational number; these sum to one. -/
/-- The sum of y times what is left without y, with y more, over the y of post. -/
def ll (c : Rat) : List Nat → List Nat → Rat
  | pre, [] => 0
  | pre, y :: post => (y : Rat) * ee (c + (y : Rat)) (pre ++ post) + ll c (pre ++ [y]) post
theorem ll_cons (c : Rat) (x : Nat) : ∀ (post pre : List Nat), ll c (x :: pre) post = ll c pre post - ll (c + (x : Rat)) pre post := by
  intro post
  induction post with
  | nil => intro pre; simp only [ll]; grind
  | cons y post ih =>
    intro pre
    have h := ih (pre ++ [y])
    simp only [ll, List.cons_append, ee]
    rw [h]
    have e : c + (y : Rat) + (x : Rat) = c + (x : Rat) + (y : Rat) := by grind
    rw [e]
    grind
theorem ll_id : ∀ (m : List Nat) (c : Rat), 0 < c → c * ee c m = (if m = [] then 1 else 0) + ll c [] m := by
  intro m
  induction m with
  | nil =>
    intro c hc
    simp only [ee, ll, if_true]
    have : c ≠ 0 := by intro h; rw [h] at hc; exact absurd hc (by decide)
    grind
  | cons x m ih =>
    intro c hc
    have hx : (0 : Rat) ≤ (x : Rat) := by exact_mod_cast Nat.zero_le x
    have h1 := ih c hc
    have h2 := ih (c + (x : Rat)) (by grind)
    rw [ll, List.nil_append, List.nil_append, ll_cons, ee]
    simp only [List.cons_ne_nil, if_false]
    grind
theorem ll_one : ∀ m : List Nat, (∀ x ∈ m, 1 ≤ x) → ll 0 [] m = if m = [] then 0 else 1 := by
  intro m
  induction m with
  | nil => intro _; rfl
  | cons x m ih =>
    intro h
    have hx : (0 : Rat) < (x : Rat) := by have := h x (by simp); exact_mod_cast (show 0 < x by omega)
    have h1 := ih (fun y hy => h y (by simp [hy]))
    have h2 := ll_id m (x : Rat) hx
    rw [ll, List.nil_append, List.nil_append, ll_cons, h1]
    simp only [List.cons_ne_nil, if_false]
    have e : (0 : Rat) + (x : Rat) = (x : Rat) := Rat.zero_add _
    rw [e]
    by_cases hm : m = []
    · simp only [hm, if_true] at h2 ⊢
      grind
    · simp only [hm, if_false] at h2 ⊢
      grind

/-! ### One denominator -/
def csumL (D x : Nat) : List Nat → Nat
  | [] => 0
  | y :: S => x * (D / (y + x)) + csumL D x S
theorem csumL_perm (D x : Nat) {S S' : List Nat} (h : S.Perm S') : csumL D x S = csumL D x S' := by
  induction h with
  | nil => rfl
  | cons y _ ih => simp only [csumL, ih]
  | swap y z _ => simp only [csumL]; omega
  | trans _ _ h1 h2 => exact h1.trans h2
theorem csumL_le (D x A : Nat) (hx : x ≤ A) : ∀ S : List Nat, csumL D x S ≤ csum D A (S.flatMap fun y => [y + x, y]) := by
  intro S
  induction S with
  | nil => exact Nat.le_refl _
  | cons y S ih =>
    rw [List.flatMap_cons]
    simp only [List.cons_append, List.nil_append, csum, csumL]
    have := Nat.mul_le_mul_right (D / (y + x)) hx
    omega
set_option maxRecDepth 100000 in
theorem oddL_all : (odd15.all fun e => e.all fun x => Nat.blt (csumL (Dw e) x (sumsN (e.erase x))) 9223372036854775808) = true := by decide +kernel
theorem good2 (l : List Nat) (h : ∀ x ∈ l, 1 ≤ x ∧ x ≤ 9) (hl : l.length ≤ 6) :
    ∃ D, 0 < D ∧ D < 1152921504606846976 ∧ (∀ y ∈ sumsN l, y = 0 ∨ y ∣ D) ∧ ∀ x m, l.Perm (x :: m) → csumL D x (sumsN m) < 9223372036854775808 := by
  obtain ⟨ws, hp, hd⟩ := desc_of l
  have hws : ∀ x ∈ ws, 1 ≤ x ∧ x ≤ 9 := fun x hx => h x (hp.mem_iff.1 hx)
  have hlen : ws.length = l.length := hp.length_eq
  have hc := chk_at ws hd hws (by omega)
  have hdiv : ∀ y ∈ sumsN l, y = 0 ∨ y ∣ Dw ws := fun y hy => Dw_dvd ws y ((sumsN_perm hp).mem_iff.2 hy)
  have hpos := Dw_pos ws (fun x hx => (hws x hx).1)
  have hcr : csum (Dw ws) (ws.sum + 9 * (6 - ws.length)) (sumsN ws) < 9223372036854775808 → ∀ x m, l.Perm (x :: m) → csumL (Dw ws) x (sumsN m) < 9223372036854775808 := by
    intro hlt x m hxm
    have hwx : ws.Perm (x :: m) := hp.trans hxm
    have hsum : ws.sum = x + m.sum := by rw [sum_perm hwx, List.sum_cons]
    refine Nat.lt_of_le_of_lt (csumL_le (Dw ws) x (ws.sum + 9 * (6 - ws.length)) (by omega) (sumsN m)) ?_
    rw [csum_perm _ _ (sumsN_perm hwx)] at hlt
    exact hlt
  cases hf : 6 - ws.length with
  | succ f =>
    rw [hf] at hc hcr
    unfold chk at hc
    simp only [Bool.and_eq_true, Nat.blt_eq] at hc
    exact ⟨Dw ws, hpos, hc.1.2, hdiv, hcr hc.1.1⟩
  | zero =>
    rw [hf] at hc hcr
    unfold chk at hc
    simp only [Bool.and_eq_true, Bool.or_eq_true, Nat.blt_eq] at hc
    rcases hc.1 with hc1 | hc1
    · exact ⟨Dw ws, hpos, hc.2, hdiv, hcr (by simpa using hc1)⟩
    · have hmem : ws ∈ odd15 := by simpa using hc1
      refine ⟨Dw ws, hpos, hc.2, hdiv, fun x m hxm => ?_⟩
      have hwx : ws.Perm (x :: m) := hp.trans hxm
      have ho := oddL_all
      rw [List.all_eq_true] at ho
      have ho2 := ho ws hmem
      rw [List.all_eq_true] at ho2
      have hx : x ∈ ws := hwx.mem_iff.2 (by simp)
      have h3 := ho2 x hx
      rw [Nat.blt_eq] at h3
      have hme : (ws.erase x).Perm m := by
        have := hwx.erase x
        simpa using this
      rw [← csumL_perm _ _ (sumsN_perm hme)]
      exact h3

/-! ### The run -/
def rl (x : Nat) : List (Bool × Nat) → Rat
  | [] => 0
  | (b, y) :: t => (if b then (x : Rat) / ((x : Rat) + (y : Rat)) else -((x : Rat) / ((x : Rat) + (y : Rat)))) + rl x t
theorem rl_gg (x : Nat) : ∀ L : List (Bool × Nat), rl x L = (x : Rat) * gg (x : Rat) L := by
  intro L
  induction L with
  | nil => simp only [rl, gg]; grind
  | cons a L ih =>
    obtain ⟨b, y⟩ := a
    rw [rl, gg, ih]
    cases b <;> simp <;> grind
theorem without_dec : ∀ s : Fin 64, ∀ i : Fin 6, ((s.val : Int) / 2 ^ i.val) % 2 = 1 → Go.bits .andNot .i64 (s.val : Int) (2 ^ i.val) = s.val - 2 ^ i.val ∧ (2 : Int) ^ i.val ≤ s.val := by decide +kernel
theorem sub_minus : ∀ (l : List Int) (s : Int) (i : Nat), i < l.length → (s / 2 ^ i) % 2 = 1 → (sub l s).Perm ((rd l (i : Int)).toNat :: sub l (s - 2 ^ i)) := by
  intro l
  induction l with
  | nil => intro s i h; simp at h
  | cons x l ih =>
    intro s i hi hb
    cases i with
    | zero =>
      simp only [Int.pow_zero, Int.ediv_one] at hb
      rw [sub, if_pos hb, sub, if_neg (by rw [Int.pow_zero]; omega), show (s - 2 ^ 0) / 2 = s / 2 by rw [Int.pow_zero]; omega]
      exact List.Perm.refl _
    | succ i =>
      rw [Int.pow_succ, Int.mul_comm, ← Int.ediv_ediv_of_nonneg (by omega)] at hb
      have h := ih (s / 2) i (by simpa using hi) hb
      have e1 : (s - 2 ^ (i + 1)) % 2 = s % 2 := by rw [Int.pow_succ]; omega
      have e2 : (s - 2 ^ (i + 1)) / 2 = s / 2 - 2 ^ i := by rw [Int.pow_succ]; omega
      have e3 : rd (x :: l) ((i + 1 : Nat) : Int) = rd l (i : Int) := by simp [rd]
      rw [sub, sub, e1, e2, e3]
      split
      · exact (List.Perm.cons _ h).trans (List.Perm.swap _ _ _)
      · exact h
theorem last_go (l : List Int) (h : okW l = true) (i : Nat) (hi : i < l.length) (D : Nat) (hD : 0 < D) (hD2 : D < 9223372036854775808) : ∀ (L : List Int) (N : Int), N + (csumL D (rd l (i : Int)).toNat ((L.map (sw l)).map Prod.snd) : Nat) < 9223372036854775808 → -9223372036854775808 < N - (csumL D (rd l (i : Int)).toNat ((L.map (sw l)).map Prod.snd) : Nat) →
    (∀ p ∈ L, 0 ≤ p ∧ p < 2 ^ l.length) → (∀ p ∈ L, (wsum l p).toNat + (rd l (i : Int)).toNat ∣ D) →
    Ev (fun k => packets_Last.go k l (i : Int) L (fr (Rat.divInt N D)).1 (fr (Rat.divInt N D)).2) (fr (Rat.divInt N D + rl (rd l (i : Int)).toNat (L.map (sw l)))) := by
  have hk := (okW_iff l).1 h
  have hl := pow_le l.length hk.2.1
  have hx := rd_ok l h i hi
  have hlen : (l.length : Int) ≤ 6 := by have := hk.2.1; omega
  intro L
  induction L with
  | nil =>
    intro N _ _ _ _
    refine Ev.cast (Ev.const (o := some ((fr (Rat.divInt N D)).1, (fr (Rat.divInt N D)).2)) rfl) ?_
    rw [List.map_nil, rl, Rat.add_zero]
  | cons p L ih =>
    intro N h1 h2 hp hd
    have hpp := hp p (by simp)
    have hdp := hd p (by simp)
    have hwb := wsum_bound l hk.2.2 p
    have hW : ((wsum l p).toNat : Int) = wsum l p := by omega
    have hX : ((rd l (i : Int)).toNat : Int) = rd l (i : Int) := by omega
    simp only [List.map_cons, csumL] at h1 h2
    have hsnd : (sw l p).2 = (wsum l p).toNat := rfl
    rw [hsnd] at h1 h2
    generalize hv : (rd l (i : Int)).toNat * (D / ((wsum l p).toNat + (rd l (i : Int)).toNat)) = v at h1 h2
    obtain ⟨N', hN'⟩ : ∃ N' : Int, N' = N + sg p * (v : Int) := ⟨_, rfl⟩
    have hrec := ih N' (by rcases sg_cases p with e | e <;> rw [hN', e] <;> omega) (by rcases sg_cases p with e | e <;> rw [hN', e] <;> omega) (fun q hq => hp q (by simp [hq])) (fun q hq => hd q (by simp [hq]))
    have hterm := term_eq (rd l (i : Int)).toNat ((wsum l p).toNat + (rd l (i : Int)).toNat) D (by omega) hdp hD (sg p)
    have hc : (((wsum l p).toNat + (rd l (i : Int)).toNat : Nat) : Int) = rd l (i : Int) + wsum l p := by push_cast; omega
    rw [hX, hv, hc] at hterm
    unfold packets_Last.go packets_Last.step
    refine Ev.bind (v := fr (Rat.divInt N' D)) ?_ (hrec.cast ?_)
    · refine Ev.bind (packets_sign_ev p hpp.1 (by omega)) (Ev.bind (packets_of_ev l p hpp.1 (by omega) hk.2.1) ?_)
      rw [w_in (n := wsum l p) (by omega) (by omega), w_in (n := rd l (i : Int) + wsum l p) (by omega) (by omega), w_in (n := sg p * rd l (i : Int)) (by rcases sg_cases p with e | e <;> rw [e] <;> omega) (by rcases sg_cases p with e | e <;> rw [e] <;> omega)]
      refine Ev.bind (packets_frac_ev (sg p * rd l (i : Int)) (rd l (i : Int) + wsum l p) (by omega) (by omega) (by rcases sg_cases p with e | e <;> rw [e] <;> omega) (by rcases sg_cases p with e | e <;> rw [e] <;> omega)) ?_
      rw [hterm]
      have := packets_plus_ev N (sg p * (v : Int)) D (by omega) (by omega) (by rcases sg_cases p with e | e <;> rw [e] <;> omega) (by rcases sg_cases p with e | e <;> rw [e] <;> omega)
      rw [← hN'] at this
      exact this
    · have hXr : ((rd l (i : Int) : Int) : Rat) = ((rd l (i : Int)).toNat : Rat) := by rw [← Rat.intCast_natCast, hX]
      have hWr : ((wsum l p : Int) : Rat) = ((wsum l p).toNat : Rat) := by rw [← Rat.intCast_natCast, hW]
      have key : Rat.divInt (sg p * rd l (i : Int)) (rd l (i : Int) + wsum l p) = if (sw l p).1 = true then ((rd l (i : Int)).toNat : Rat) / (((rd l (i : Int)).toNat : Rat) + ((sw l p).2 : Rat)) else -(((rd l (i : Int)).toNat : Rat) / (((rd l (i : Int)).toNat : Rat) + ((sw l p).2 : Rat))) := by
        rw [Rat.divInt_eq_div, Rat.intCast_mul, Rat.intCast_add, hXr, hWr]
        unfold sw
        generalize ((rd l (i : Int)).toNat : Rat) = u
        generalize ((wsum l p).toNat : Rat) = w
        rcases sg_cases p with e | e
        · rw [e]
          simp only [decide_true, if_true]
          show ((1 : Int) : Rat) * u / (u + w) = _
          grind
        · rw [e]
          simp only [show decide ((-1 : Int) = 1) = false from by decide, if_false, Bool.false_eq_true]
          show ((-1 : Int) : Rat) * u / (u + w) = _
          grind
      rw [hN', ← divInt_sum, ← hterm, key]
      show fr (_ + _ + _) = fr (_ + (_ + _))
      rw [Rat.add_assoc]
      rfl
/-- The chance of a kind to be a set's last. -/
def lastR (l : List Int) (s : Int) (i : Nat) : Rat := ((rd l (i : Int)).toNat : Rat) * ee ((rd l (i : Int)).toNat : Rat) (sub l (s - 2 ^ i))
theorem Last_ev (l : List Int) (s : Int) (hs : okS l s = true) (i : Nat) (hi : i < l.length) (hb : (s / 2 ^ i) % 2 = 1) : Ev (fun k => packets_Last.f k l s (i : Int)) ((fr (lastR l s i)).1, (fr (lastR l s i)).2, 0) := by
  obtain ⟨h, h0, h1⟩ := (okS_iff l s).1 hs
  have hk := (okW_iff l).1 h
  have hl := pow_le l.length hk.2.1
  have hr := sub_range l s hk.2.2
  have hx := rd_ok l h i hi
  obtain ⟨hwo, hle⟩ : Go.bits .andNot .i64 s (2 ^ i) = s - 2 ^ i ∧ (2 : Int) ^ i ≤ s := by
    obtain ⟨n, rfl⟩ := Int.eq_ofNat_of_zero_le h0
    exact without_dec ⟨n, by omega⟩ ⟨i, by omega⟩ hb
  have hpi : (0 : Int) < 2 ^ i := Int.pow_pos (by omega)
  have hperm := sub_minus l s i hi hb
  obtain ⟨D, hD, hD2, hdv, hcs⟩ := good2 (sub l s) hr.1 (by omega)
  have hc := hcs _ _ hperm
  have hPR : partsL (s - 2 ^ i) = PR 6 (s - 2 ^ i) := by
    obtain ⟨n, hn⟩ := Int.eq_ofNat_of_zero_le (show 0 ≤ s - 2 ^ i by omega)
    rw [hn]
    exact PR_dec ⟨n, by omega⟩
  have hmap : (partsL (s - 2 ^ i)).map (sw l) = dscS (sub l (s - 2 ^ i)) := by rw [hPR]; exact PR_dscS 6 l _ (by omega) hk.2.1 hk.2.2 (by omega) (by omega)
  have hsnd : ((partsL (s - 2 ^ i)).map (sw l)).map Prod.snd = sumsN (sub l (s - 2 ^ i)) := by rw [hmap, dscS_snd]
  have hgo := last_go l h i hi D hD (by omega) (partsL (s - 2 ^ i)) 0 (by rw [hsnd]; omega) (by rw [hsnd]; omega) (fun p hp => by have := parts_mem _ (by omega) (by omega) p hp; omega) (fun p hp => by
    have hy : (wsum l p).toNat ∈ sumsN (sub l (s - 2 ^ i)) := by
      rw [← hsnd, List.map_map]
      exact List.mem_map.2 ⟨p, hp, rfl⟩
    have hy2 : (wsum l p).toNat + (rd l (i : Int)).toNat ∈ sumsN (sub l s) := by
      refine (sumsN_perm hperm).mem_iff.2 ?_
      rw [sumsN, List.mem_flatMap]
      exact ⟨_, hy, by simp⟩
    rcases hdv _ hy2 with h | h
    · omega
    · exact h)
  have e0 : fr (Rat.divInt 0 (D : Int)) = (0, 1) := by rw [Rat.zero_divInt]; rfl
  rw [e0, hmap, Rat.zero_divInt, Rat.zero_add, rl_gg, gg_ee] at hgo
  unfold packets_Last.f packets_whole.f
  refine Ev.bind (isSet_ev l s) (Ev.ifPos hs (Ev.ifNeg (by omega) (Ev.ifNeg (by omega) (Ev.ifNeg ?_ ?_))))
  · rw [bit_of s h0 (by omega) i (by omega), hb]
    decide
  · rw [shl_ok i (by omega), hwo]
    exact Ev.ifPos (by omega) (Ev.ifPos (by omega) (Ev.bind hgo (Ev.const rfl)))

end Go.Proofs.Ytigmhomfadimnaa.Pure
