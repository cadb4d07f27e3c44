/- Plain laws of Pairs: how long it takes, over whole numbers, by how many of each kind are still wanted; the program and the reference both tell it. -/
import Derived.Test.YtigmhomfadimnaaQMBase
import Derived.Test.YtigmhomfadimnaaQHPairs
import Derived.Test.YtigmhomfadimnaaQX0
import Derived.Test.YtigmhomfadimnaaQXS
set_option linter.unusedVariables false
set_option linter.unusedSimpArgs false
namespace Go.Proofs.Ytigmhomfadimnaa.Pure
open Go.RowKit Go.Proofs.Ytigmhomfadimnaa.X Go.Proofs.YtigmhomfadimnaaW.PrintWords Go.Proofs.YtigmhomfadimnaaW.PrintLast Go.Proofs.YtigmhomfadimnaaW.PrintMore
/-! ### Fractions of whole numbers from 0 on, none where they grow too great -/
def B63 : Nat := 9223372036854775808
def fracN (a b : Nat) : Option (Nat × Nat) := if a < B63 ∧ b < B63 ∧ 0 < b then some (a / Nat.gcd a b, b / Nat.gcd a b) else none
def plusN (a b : Nat × Nat) : Option (Nat × Nat) := fracN (a.1 * (b.2 / Nat.gcd a.2 b.2) + b.1 * (a.2 / Nat.gcd a.2 b.2)) (a.2 / Nat.gcd a.2 b.2 * b.2)
def timesN (a b : Nat × Nat) : Option (Nat × Nat) := (fracN a.1 b.2).bind fun x => (fracN b.1 a.2).bind fun y => if x.1 * y.1 < B63 ∧ x.2 * y.2 < B63 then some (x.1 * y.1, x.2 * y.2) else none
def ci (r : Nat × Nat) : Int × Int := ((r.1 : Int), (r.2 : Int))
theorem wn {n : Nat} (h : n < B63) : wrap64 (n : Int) = (n : Int) := w_in (by omega) (by unfold B63 at h; omega)
theorem tdiv_nat (a g : Nat) : Int.tdiv (a : Int) (g : Int) = ((a / g : Nat) : Int) := by
  rw [Int.tdiv_eq_ediv_of_nonneg (by omega)]; rfl
theorem gcd_nat (a b : Nat) : Int.gcd (a : Int) (b : Int) = Nat.gcd a b := rfl
theorem fracN_val {a b : Nat} {r : Nat × Nat} (h : fracN a b = some r) : a < B63 ∧ b < B63 ∧ 0 < b ∧ fr (Rat.divInt (a : Int) (b : Int)) = ci r := by
  unfold fracN at h
  split at h
  · rename_i hc
    cases h
    refine ⟨hc.1, hc.2.1, hc.2.2, ?_⟩
    rw [fr_divInt _ _ (by omega), gcd_nat, tdiv_nat, tdiv_nat]; rfl
  · cases h
theorem fracN_pk {a b : Nat} {r : Nat × Nat} (h : fracN a b = some r) : Ev (fun k => packets_frac.f k (a : Int) (b : Int)) (ci r) := by
  obtain ⟨h1, h2, h3, h4⟩ := fracN_val h
  unfold B63 at h1 h2
  exact (packets_frac_ev (a : Int) (b : Int) (by omega) (by omega) (by omega) (by omega)).cast h4
structure PlusOk (a b : Nat × Nat) : Prop where
  g : 0 < Nat.gcd a.2 b.2
  n : a.1 * (b.2 / Nat.gcd a.2 b.2) + b.1 * (a.2 / Nat.gcd a.2 b.2) < B63
  d : a.2 / Nat.gcd a.2 b.2 * b.2 < B63
  a2 : a.2 < B63
  b2 : b.2 < B63
  a0 : 0 < a.2
  b0 : 0 < b.2
  qa : a.2 / Nat.gcd a.2 b.2 < B63
  qb : b.2 / Nat.gcd a.2 b.2 < B63
  ea : a.2 / Nat.gcd a.2 b.2 * b.2 / a.2 = b.2 / Nat.gcd a.2 b.2
  eb : a.2 / Nat.gcd a.2 b.2 * b.2 / b.2 = a.2 / Nat.gcd a.2 b.2
theorem plusN_ok {a b : Nat × Nat} {r : Nat × Nat} (h : plusN a b = some r) : PlusOk a b := by
  obtain ⟨h1, h2, h3, -⟩ := fracN_val h
  have hb0 : 0 < b.2 := Nat.pos_of_ne_zero (fun e => by rw [e, Nat.mul_zero] at h3; omega)
  have hq0 : 0 < a.2 / Nat.gcd a.2 b.2 := Nat.pos_of_ne_zero (fun e => by rw [e, Nat.zero_mul] at h3; omega)
  have ha0 : 0 < a.2 := Nat.pos_of_ne_zero (fun e => by rw [e, Nat.zero_div] at hq0; omega)
  have hg := Nat.gcd_pos_of_pos_left b.2 ha0
  have da := Nat.gcd_dvd_left a.2 b.2
  have db := Nat.gcd_dvd_right a.2 b.2
  have e1 : a.2 / Nat.gcd a.2 b.2 * b.2 = a.2 * (b.2 / Nat.gcd a.2 b.2) := by
    rw [Nat.div_mul_right_comm da, Nat.mul_div_assoc _ db]
  have hqb0 : 0 < b.2 / Nat.gcd a.2 b.2 := Nat.div_pos (Nat.le_of_dvd hb0 db) hg
  have ha2 : a.2 ≤ a.2 / Nat.gcd a.2 b.2 * b.2 := by rw [e1]; exact Nat.le_mul_of_pos_right _ hqb0
  have hb2 : b.2 ≤ a.2 / Nat.gcd a.2 b.2 * b.2 := Nat.le_mul_of_pos_left _ hq0
  have hqa := Nat.div_le_self a.2 (Nat.gcd a.2 b.2)
  have hqb := Nat.div_le_self b.2 (Nat.gcd a.2 b.2)
  exact ⟨hg, h1, h2, by omega, by omega, ha0, hb0, by omega, by omega, by rw [e1, Nat.mul_div_cancel_left _ ha0], Nat.mul_div_cancel _ hb0⟩
theorem plusN_pk {a b : Nat × Nat} {r : Nat × Nat} (h : plusN a b = some r) : Ev (fun k => packets_plus.f k (a.1 : Int) (a.2 : Int) (b.1 : Int) (b.2 : Int)) (ci r) := by
  have o := plusN_ok h
  have hf := fracN_pk h
  have ha2 := o.a2
  have hb2 := o.b2
  unfold B63 at ha2 hb2
  unfold packets_plus.f packets_gcd.f
  refine Ev.bind (packets_gcd_ev b.2 (a.2 : Int) (b.2 : Int) (by omega) (by omega) (by omega)) (Ev.ifNeg (by rw [gcd_nat]; have := o.g; omega) ?_)
  rw [gcd_nat, tdiv_nat, tdiv_nat, wn o.qa, wn o.qb, ← Int.natCast_mul, ← Int.natCast_mul, ← Int.natCast_mul, wn (Nat.lt_of_le_of_lt (Nat.le_add_right _ _) o.n), wn (Nat.lt_of_le_of_lt (Nat.le_add_left _ _) o.n), wn o.d, ← Int.natCast_add, wn o.n]
  exact Ev.bind hf (Ev.const rfl)
theorem timesN_pk {a b : Nat × Nat} {r : Nat × Nat} (h : timesN a b = some r) : Ev (fun k => packets_times.f k (a.1 : Int) (a.2 : Int) (b.1 : Int) (b.2 : Int)) (ci r) := by
  unfold timesN at h
  obtain ⟨x, hx, h⟩ := Option.bind_eq_some_iff.mp h
  obtain ⟨y, hy, h⟩ := Option.bind_eq_some_iff.mp h
  split at h
  · rename_i hc
    cases h
    unfold packets_times.f
    refine Ev.bind (fracN_pk hx) (Ev.bind (fracN_pk hy) (Ev.const ?_))
    simp only [ci]
    rw [← Int.natCast_mul, ← Int.natCast_mul, wn hc.1, wn hc.2]
  · cases h
/-! ### The table -/
def nd (n i : Nat) : Nat := n / 3 ^ i % 3
def openN : List Nat → Nat → Nat
  | [], _ => 0
  | x :: r, n => (if n % 3 = 0 then 0 else x) + openN r (n / 3)
/-- What is added from kind i on. -/
def foldN (T : List (Nat × Nat)) (n op : Nat) : Nat → List Nat → Nat × Nat → Option (Nat × Nat)
  | _, [], s => some s
  | i, x :: r, s => if nd n i = 0 then foldN T n op (i + 1) r s else (fracN x op).bind fun f => (timesN f (T.getD (n - 3 ^ i) (0, 0))).bind fun u => (plusN s u).bind fun v => foldN T n op (i + 1) r v
def stepN (l : List Nat) (T : List (Nat × Nat)) (n : Nat) : Option (Nat × Nat) :=
  if openN l n = 0 then some (0, 1) else (fracN l.sum (openN l n)).bind fun s => foldN T n (openN l n) 0 l s
def tabN (l : List Nat) : Nat → Option (List (Nat × Nat))
  | 0 => some []
  | d + 1 => (tabN l d).bind fun T => (stepN l T d).bind fun v => some (T ++ [v])
theorem foldN_more (T : List (Nat × Nat)) (v : Nat × Nat) (n op : Nat) (hn : n ≤ T.length) (h0 : 0 < n) : ∀ (r : List Nat) (i : Nat) (s : Nat × Nat), foldN (T ++ [v]) n op i r s = foldN T n op i r s := by
  intro r
  induction r with
  | nil => intro i s; rfl
  | cons x r ih =>
    intro i s
    unfold foldN
    have e : (T ++ [v]).getD (n - 3 ^ i) (0, 0) = T.getD (n - 3 ^ i) (0, 0) := by
      have h3 : 0 < 3 ^ i := Nat.pow_pos (by omega)
      simp [List.getElem?_append_left (show n - 3 ^ i < T.length by omega)]
    rw [e, ih]
    simp only [ih]
theorem openN_zero (l : List Nat) : openN l 0 = 0 := by
  induction l with
  | nil => rfl
  | cons x r ih => simp [openN, ih]
theorem stepN_more (l : List Nat) (T : List (Nat × Nat)) (v : Nat × Nat) (n : Nat) (hn : n ≤ T.length) : stepN l (T ++ [v]) n = stepN l T n := by
  unfold stepN
  split
  · rfl
  · rename_i h
    have h0 : 0 < n := Nat.pos_of_ne_zero (fun e => h (by rw [e, openN_zero]))
    simp only [foldN_more T v n _ hn h0]
theorem tabN_is (l : List Nat) : ∀ (d : Nat) (T : List (Nat × Nat)), tabN l d = some T → T.length = d ∧ ∀ n, n < d → stepN l T n = some (T.getD n (0, 0)) := by
  intro d
  induction d with
  | zero => intro T h; cases h; exact ⟨rfl, fun n h => by omega⟩
  | succ d ih =>
    intro T h
    obtain ⟨T0, h0, h⟩ := Option.bind_eq_some_iff.mp h
    obtain ⟨v, hv, h⟩ := Option.bind_eq_some_iff.mp h
    cases h
    obtain ⟨hl, hs⟩ := ih T0 h0
    refine ⟨by simp [hl], fun n hn => ?_⟩
    by_cases e : n = d
    · rw [e, stepN_more l T0 v d (by omega), hv]
      simp [← hl]
    · rw [stepN_more l T0 v n (by omega), hs n (by omega)]
      simp [List.getElem?_append_left (show n < T0.length by omega)]
/-! ### The program -/
def need (o a : Nat) : Nat := (o % 2 + a % 2) + 3 * (o / 2 % 2 + a / 2 % 2) + 9 * (o / 4 % 2 + a / 4 % 2)
def factN (o a : Nat) : Bool :=
  let m := Go.bits .or .i64 (o : Int) (a : Int)
  decide (0 ≤ m) && decide (m < 8) && ((m == 0) == (need o a == 0)) && decide (need o a < 27) &&
  (List.range 3).all fun (i : Nat) => ((Go.bits .and .i64 (shr .i64 m (i : Int)) 1 == 0) == (nd (need o a) i == 0)) && ((m / 2 ^ i % 2) == (if nd (need o a) i = 0 then 0 else 1)) &&
    ((nd (need o a) i == 0) || (let o' := leftP (o : Int) (i : Int); let a' := moreP (o : Int) (a : Int) (i : Int); decide (0 ≤ o') && decide (o' < 8) && decide (0 ≤ a') && decide (a' < 8) && decide (need o'.toNat a'.toNat + 3 ^ i = need o a)))
theorem factN_all : (List.range 8).all (fun o => (List.range 8).all fun a => factN o a) = true := by decide +kernel
structure FactN (o a : Nat) : Prop where
  m0 : 0 ≤ Go.bits .or .i64 (o : Int) (a : Int)
  m8 : Go.bits .or .i64 (o : Int) (a : Int) < 8
  zero : Go.bits .or .i64 (o : Int) (a : Int) = 0 ↔ need o a = 0
  bit : ∀ i : Nat, i < 3 → (Go.bits .and .i64 (shr .i64 (Go.bits .or .i64 (o : Int) (a : Int)) (i : Int)) 1 = 0 ↔ nd (need o a) i = 0)
  div : ∀ i : Nat, i < 3 → Go.bits .or .i64 (o : Int) (a : Int) / 2 ^ i % 2 = if nd (need o a) i = 0 then 0 else 1
  next : ∀ i : Nat, i < 3 → nd (need o a) i ≠ 0 → ∃ o' a' : Nat, leftP (o : Int) (i : Int) = (o' : Int) ∧ moreP (o : Int) (a : Int) (i : Int) = (a' : Int) ∧ o' < 8 ∧ a' < 8 ∧ need o' a' + 3 ^ i = need o a
theorem FactN.of {o a : Nat} (ho : o < 8) (ha : a < 8) : FactN o a := by
  have h := List.all_eq_true.mp (List.all_eq_true.mp factN_all o (by simpa using ho)) a (by simpa using ha)
  unfold factN at h
  simp only [Bool.and_eq_true, decide_eq_true_eq, beq_iff_eq, List.all_eq_true, List.mem_range, Bool.or_eq_true] at h
  obtain ⟨⟨⟨⟨h1, h2⟩, h3⟩, h4⟩, h5⟩ := h
  refine ⟨h1, h2, ?_, fun i hi => ?_, fun i hi => (h5 i hi).1.2, fun i hi hn => ?_⟩
  · have : ((Go.bits .or .i64 (o : Int) (a : Int)) == 0) = (need o a == 0) := h3
    constructor
    · intro e; rw [e] at this; simpa using this.symm
    · intro e; rw [e] at this; simpa using this
  · have := (h5 i hi).1.1
    constructor
    · intro e; rw [e] at this; simpa using this.symm
    · intro e; rw [e] at this; simpa using this
  · rcases (h5 i hi).2 with e | ⟨⟨⟨⟨g1, g2⟩, g3⟩, g4⟩, g5⟩
    · exact absurd e hn
    · exact ⟨_, _, (Int.toNat_of_nonneg g1).symm, (Int.toNat_of_nonneg g3).symm, by omega, by omega, g5⟩
def cl (l : List Nat) : List Int := l.map fun (x : Nat) => (x : Int)
theorem cl_len (l : List Nat) : (cl l).length = l.length := by simp [cl]
theorem rd_cl {l r : List Nat} {x i : Nat} (h : l.drop i = x :: r) : rd (cl l) (i : Int) = (x : Int) ∧ i < l.length ∧ l.drop (i + 1) = r := by
  have hi : i < l.length := by
    by_cases hi : i < l.length
    · exact hi
    · rw [List.drop_eq_nil_of_le (by omega)] at h; cases h
  rw [List.drop_eq_getElem_cons hi] at h
  injection h with h1 h2
  refine ⟨?_, hi, h2⟩
  have : rd (cl l) (i : Int) = (cl l).getD i 0 := by simp [rd]
  rw [this]
  simp [cl, hi, h1]
theorem loop_pk {l : List Nat} (hl : l.length ≤ 3) (T : List (Nat × Nat)) {o a : Nat} (ho : o < 8) (ha : a < 8) (op : Nat) (hop : Ev (fun k => packets_weights_of.f k (cl l) (Go.bits .or .i64 (o : Int) (a : Int))) (op : Int))
    (ih : ∀ i : Nat, i < l.length → nd (need o a) i ≠ 0 → Ev (fun k => packets_Pairs1.f k (cl l) (leftP (o : Int) (i : Int)) (moreP (o : Int) (a : Int) (i : Int))) (ci (T.getD (need o a - 3 ^ i) (0, 0)))) :
    ∀ (r : List Nat) (i : Nat), l.drop i = r → ∀ (s v : Nat × Nat), foldN T (need o a) op i r s = some v → Ev (fun k => packets_Pairs1.l0 k (cl l) (o : Int) (a : Int) (i : Int) (s.1 : Int) (s.2 : Int)) (ci v) := by
  have F := FactN.of ho ha
  intro r
  induction r with
  | nil =>
    intro i hi s v hv
    cases hv
    have hi2 : l.length ≤ i := by simpa using hi
    exact Ev.succ (g := fun _ => some (ci s)) (Ev.const rfl) (fun k => by rw [packets_Pairs1.l0, if_neg (by rw [cl_len]; omega)]; rfl)
  | cons x r ihr =>
    intro i hi s v hv
    obtain ⟨hx, hil, hd⟩ := rd_cl hi
    unfold foldN at hv
    by_cases h0 : nd (need o a) i = 0
    · rw [if_pos h0] at hv
      have h2 := ihr (i + 1) hd s v hv
      exact Ev.succ (g := fun k => _) h2 (fun k => by
        rw [packets_Pairs1.l0, if_pos (by rw [cl_len]; omega), if_pos ((F.bit i (by omega)).mpr h0)]
        rfl)
    · rw [if_neg h0] at hv
      obtain ⟨f, hf, hv⟩ := Option.bind_eq_some_iff.mp hv
      obtain ⟨u, hu, hv⟩ := Option.bind_eq_some_iff.mp hv
      obtain ⟨p, hp, hv⟩ := Option.bind_eq_some_iff.mp hv
      have h2 := ihr (i + 1) hd p v hv
      have hb := Ev.bind hop (f := fun k x => (packets_frac.f k (rd (cl l) (i : Int)) x).bind fun y => (packets_Pairs1.f k (cl l) (leftP (o : Int) (i : Int)) (moreP (o : Int) (a : Int) (i : Int))).bind fun z => (packets_times.f k y.1 y.2 z.1 z.2).bind fun u => (packets_plus.f k (s.1 : Int) (s.2 : Int) u.1 u.2).bind fun v => packets_Pairs1.l0 k (cl l) (o : Int) (a : Int) ((i : Int) + 1) v.1 v.2) (u := ci v)
        (by rw [hx]; exact Ev.bind (fracN_pk hf) (Ev.bind (ih i hil h0) (Ev.bind (timesN_pk hu) (Ev.bind (plusN_pk hp) h2))))
      exact Ev.succ (g := fun k => _) hb (fun k => by
        rw [packets_Pairs1.l0, if_pos (by rw [cl_len]; omega), if_neg (fun e => h0 ((F.bit i (by omega)).mp e))])
theorem openN_wsum (l : List Nat) (hl : l.length ≤ 3) {o a : Nat} (ho : o < 8) (ha : a < 8) : wsum (cl l) (Go.bits .or .i64 (o : Int) (a : Int)) = (openN l (need o a) : Int) := by
  have F := FactN.of ho ha
  have f0 := F.div 0 (by omega)
  have f1 := F.div 1 (by omega)
  have f2 := F.div 2 (by omega)
  generalize Go.bits .or .i64 (o : Int) (a : Int) = m at f0 f1 f2 ⊢
  generalize need o a = n at f0 f1 f2 ⊢
  unfold nd at f0 f1 f2
  have e0 : m % 2 = if n % 3 = 0 then 0 else 1 := by simpa using f0
  have e1 : m / 2 % 2 = if n / 3 % 3 = 0 then 0 else 1 := by simpa using f1
  have e2 : m / 2 / 2 % 2 = if n / 3 / 3 % 3 = 0 then 0 else 1 := by
    rw [Int.ediv_ediv_of_nonneg (by omega), Nat.div_div_eq_div_mul]
    exact f2
  clear f0 f1 f2 F
  match l, hl with
  | [], _ => rfl
  | [x], _ =>
    simp only [cl, List.map, wsum, openN, e0]
    split <;> simp
  | [x, y], _ =>
    simp only [cl, List.map, wsum, openN, e0, e1]
    split <;> split <;> simp
  | [x, y, z], _ =>
    simp only [cl, List.map, wsum, openN, e0, e1, e2]
    split <;> split <;> split <;> simp
theorem sum_tot (l : List Nat) (hl : l.length ≤ 3) : wsum (cl l) (2 ^ l.length - 1) = (l.sum : Int) := by
  match l, hl with
  | [], _ => rfl
  | [x], _ => simp [cl, wsum]
  | [x, y], _ => simp [cl, wsum]
  | [x, y, z], _ => simp [cl, wsum]
theorem openN_pos : ∀ (l : List Nat) (n : Nat), (∀ x ∈ l, 1 ≤ x) → n < 3 ^ l.length → openN l n = 0 → n = 0 := by
  intro l
  induction l with
  | nil => intro n _ h _; simpa using h
  | cons x r ih =>
    intro n hx hn h
    unfold openN at h
    have h1 := hx x (by simp)
    have h3 : n % 3 = 0 := by
      by_cases e : n % 3 = 0
      · exact e
      · rw [if_neg e] at h; omega
    have h4 := ih (n / 3) (fun y hy => hx y (by simp [hy])) (by rw [List.length_cons, Nat.pow_succ] at hn; omega) (by omega)
    omega
structure Small (l : List Nat) : Prop where
  len0 : 1 ≤ l.length
  len : l.length ≤ 3
  one : ∀ x ∈ l, 1 ≤ x
  nine : ∀ x ∈ l, x ≤ 9
theorem openN_le (l : List Nat) : ∀ n, openN l n ≤ l.sum := by
  induction l with
  | nil => intro n; exact Nat.le_refl _
  | cons x r ih => intro n; have := ih (n / 3); rw [openN, List.sum_cons]; split <;> omega
theorem Small.sum {l : List Nat} (h : Small l) : l.sum ≤ 27 := by
  have h1 := h.len
  have h2 := h.nine
  match l, h1 with
  | [], _ => simp
  | [x], _ => simp at h2 ⊢; omega
  | [x, y], _ => simp at h2 ⊢; omega
  | [x, y, z], _ => simp at h2 ⊢; omega
theorem prog_ev {l : List Nat} (h : Small l) {T : List (Nat × Nat)} (hT : ∀ n, n < 3 ^ l.length → stepN l T n = some (T.getD n (0, 0))) : ∀ (n : Nat) (o a : Nat), o < 8 → a < 8 → need o a = n → n < 3 ^ l.length → Ev (fun k => packets_Pairs1.f k (cl l) (o : Int) (a : Int)) (ci (T.getD n (0, 0))) := by
  intro n
  induction n using Nat.strongRecOn with
  | ind n ih =>
  intro o a ho ha hn hlt
  have F := FactN.of ho ha
  have hs := hT n hlt
  unfold stepN at hs
  by_cases h0 : openN l n = 0
  · have hn0 := openN_pos l n h.one hlt h0
    rw [if_pos h0] at hs
    rw [← Option.some.inj hs]
    exact Ev.succ (g := fun _ => some (0, 1)) (Ev.const rfl) (fun k => by rw [packets_Pairs1.f, if_pos (F.zero.mpr (hn.trans hn0))])
  · rw [if_neg h0] at hs
    obtain ⟨s, hs1, hs2⟩ := Option.bind_eq_some_iff.mp hs
    have hl := h.len
    have hsum := h.sum
    have hop := openN_le l n
    have hn0 : n ≠ 0 := fun e => h0 (by rw [e, openN_zero])
    have hof : Ev (fun k => packets_weights_of.f k (cl l) (Go.bits .or .i64 (o : Int) (a : Int))) (openN l n : Int) :=
      (packets_of_ev (cl l) _ F.m0 (by have := F.m8; omega) (by rw [cl_len]; omega)).cast (by rw [openN_wsum l hl ho ha, hn]; exact wn (by unfold B63; omega))
    have hall : packets_weights_all.f (cl l) = some (2 ^ l.length - 1) := by rw [all_ok (cl l) (by rw [cl_len]; omega), cl_len]
    have hp := pow_le l.length (by omega)
    have hofa : Ev (fun k => packets_weights_of.f k (cl l) (2 ^ l.length - 1)) (l.sum : Int) :=
      (packets_of_ev (cl l) _ (by omega) (by omega) (by rw [cl_len]; omega)).cast (by rw [sum_tot l hl]; exact wn (by unfold B63; omega))
    have hloop := loop_pk hl T ho ha (openN l n) hof (fun i hi hnd => by
      obtain ⟨o', a', e1, e2, ho', ha', e3⟩ := F.next i (by omega) hnd
      rw [e1, e2, show need o a - 3 ^ i = need o' a' by omega]
      have h3 : 0 < 3 ^ i := Nat.pow_pos (by omega)
      exact ih (need o' a') (by omega) o' a' ho' ha' rfl (by omega)) l 0 rfl s _ (by rw [hn]; exact hs2)
    refine Ev.succ (g := fun k => (packets_weights_all.f (cl l)).bind fun q => ((packets_weights_of.f k (cl l) q).bind fun x => ((packets_weights_of.f k (cl l) (Go.bits .or .i64 (o : Int) (a : Int))).bind fun y => ((packets_frac.f k x y).bind fun s => (packets_Pairs1.l0 k (cl l) (o : Int) (a : Int) 0 s.1 s.2))))) ?_ (fun k => by rw [packets_Pairs1.f, if_neg (fun e => hn0 (hn ▸ F.zero.mp e))])
    rw [hall]
    exact Ev.bind (g := fun _ => some _) (Ev.const rfl) (Ev.bind hofa (Ev.bind hof (Ev.bind (fracN_pk hs1) hloop)))
end Go.Proofs.Ytigmhomfadimnaa.Pure
