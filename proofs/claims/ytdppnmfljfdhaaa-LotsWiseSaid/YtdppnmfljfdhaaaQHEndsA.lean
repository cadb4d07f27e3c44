/- The contract of (Plan).ends: by how many orders of the items a test ends where: a table of ways, item by item, held in a map. -/
import Derived.Test.YtdppnmfljfdhaaaQHBoxes
import Derived.Test.YtdppnmfljfdhaaaQXP
import Derived.Maps.RangeWalk
set_option linter.unusedVariables false
set_option linter.unusedSimpArgs false
namespace Go.Proofs.Ytdppnmfljfdhaaa.X
open Go.RowKit Go.Maps Go.Proofs.YtdppnmfljfdhaaaW.PrintWords Go.Proofs.YtdppnmfljfdhaaaW.PrintLast Go.Proofs.YtdppnmfljfdhaaaW.PrintMore

/-! ### in plain words -/
/-- What a plan does after k items, b of them bad. -/
def aft (l0 l1 : List Int) (k b : Int) : Int := if b ≤ rd l0 (k - 1) then 1 else if b ≥ rd l1 (k - 1) then 2 else 0
/-- One more item. -/
def nx (W : Int → Int) (z : Int) : Int := wrap64 (W z + W (z - 1))
/-- By how many orders a test goes on after k items, z of them bad. -/
def wy (l0 l1 : List Int) : Nat → Int → Int
  | 0 => fun z => if z = 0 then 1 else 0
  | k + 1 => fun z => if (0 ≤ z ∧ z < (k : Int) + 2) ∧ aft l0 l1 (k + 1) z ≠ 0 ∧ 0 < nx (wy l0 l1 k) z then 0 else nx (wy l0 l1 k) z
/-- The ends after k + 1 items with fewer than m bad ones. -/
def enK (l0 l1 : List Int) (k : Nat) : Nat → List S81
  | 0 => []
  | m + 1 => if aft l0 l1 (k + 1) m ≠ 0 ∧ 0 < nx (wy l0 l1 k) m then enK l0 l1 k m ++ [⟨(k : Int) + 1, m, aft l0 l1 (k + 1) m, nx (wy l0 l1 k) m⟩] else enK l0 l1 k m
/-- The ends after at most k items. -/
def ends (l0 l1 : List Int) : Nat → List S81
  | 0 => []
  | k + 1 => ends l0 l1 k ++ enK l0 l1 k (k + 2)
def lots_Plan_ends.f (l0 l1 : List Int) : Option (List S81) := if l1.length = l0.length ∧ l0.length ≤ 12 then some (ends l0 l1 l0.length) else none

theorem lots_Plan_ends.of {l0 l1 : List Int} {r : List S81} (h : lots_Plan_ends.f l0 l1 = some r) : (l1.length = l0.length ∧ l0.length ≤ 12) ∧ ends l0 l1 l0.length = r := by
  unfold lots_Plan_ends.f at h
  by_cases hv : l1.length = l0.length ∧ l0.length ≤ 12
  · rw [if_pos hv] at h
    exact ⟨hv, Option.some.inj h⟩
  · rw [if_neg hv] at h; cases h
theorem enK_len (l0 l1 : List Int) (k : Nat) : ∀ m, (enK l0 l1 k m).length ≤ m
  | 0 => by simp [enK]
  | m + 1 => by
    have := enK_len l0 l1 k m
    unfold enK
    split
    · simp; omega
    · omega
theorem ends_len (l0 l1 : List Int) : ∀ k, (ends l0 l1 k).length ≤ k * (k + 2)
  | 0 => by simp [ends]
  | k + 1 => by
    have h1 := ends_len l0 l1 k
    have h2 := enK_len l0 l1 k (k + 2)
    have e : (ends l0 l1 (k + 1)).length = (ends l0 l1 k).length + (enK l0 l1 k (k + 2)).length := by simp [ends]
    rw [e]
    have : (k + 1) * (k + 1 + 2) = k * (k + 2) + 2 * k + 3 := by simp only [Nat.add_mul, Nat.mul_add]; omega
    omega
theorem wy_out (l0 l1 : List Int) : ∀ (k : Nat) (z : Int), ¬ (0 ≤ z ∧ z ≤ (k : Int)) → wy l0 l1 k z = 0
  | 0, z, h => by unfold wy; rw [if_neg]; omega
  | k + 1, z, h => by
    have h1 := wy_out l0 l1 k z (by omega)
    have h2 := wy_out l0 l1 k (z - 1) (by omega)
    have h3 : nx (wy l0 l1 k) z = 0 := by unfold nx; rw [h1, h2]; unfold wrap64; omega
    unfold wy
    rw [if_neg (by omega), h3]
theorem aft_of (l0 l1 : List Int) (k b : Int) (h1 : 1 ≤ k) (h2 : k ≤ l0.length) (h3 : l1.length = l0.length) (h4 : l0.length ≤ 12) : lots_Plan_after.f l0 l1 k b = some (aft l0 l1 k b) := by
  have e : wrap64 (k - 1) = k - 1 := by unfold wrap64; omega
  unfold lots_Plan_after.f aft
  rw [e, if_pos (by omega), if_pos (by omega)]
  split
  · rfl
  · rw [if_pos (by omega)]
    split <;> rfl

/-! ### what stands in memory -/
/-- The block is no row of cells. -/
def NoCells (W : World) (b : Nat) : Prop := ∃ o : Obj, W.heap[b]? = some o ∧ ∀ cs t m, o ≠ .cells cs t m
section
variable {α : Type} {w W W1 : World} {g b base e n : Nat} {cs : Array Value} {v : Value} {d : Kd α} {xs : List α} {D : DataW Unit}
theorem own_noCells (h : W.ownsMap Try.prog 3 (plainElem Try.prog 3) b n D) : NoCells W b := by
  obtain ⟨es, clock, hb, _⟩ := h
  exact ⟨_, hb, fun _ _ _ e => by cases e⟩
theorem rng_noCells {r : Nat} {left : Lit → Bool} {cnt : Nat} (h : W.ranges Try.prog 3 (plainElem Try.prog 3) b r n D left cnt) : NoCells W r := by
  obtain ⟨es, clock, since, seen, c0, hb, F, hs, hD, hr, rest⟩ := h
  exact ⟨_, hr, fun _ _ _ e => by cases e⟩
theorem own_below (h : W.ownsMap Try.prog 3 (plainElem Try.prog 3) b n D) (hb : Below W.heap.size W W1) : W1.ownsMap Try.prog 3 (plainElem Try.prog 3) b n D := by
  have hlt := h.lt
  obtain ⟨es, clock, hh, F, hs, hD⟩ := h
  exact ⟨es, clock, (hb.block b hlt).trans hh, F, hs, hD⟩
theorem R_obj (h : Kd.R d e W base (fun _ => True) v xs) (hE : d.E = []) (hg : W.grownBy W1 (some b)) (hb : NoCells W b) : Kd.R d e W1 base (fun _ => True) v xs := by
  refine Kd.R_grown1 h hE hg (fun he => ?_)
  obtain ⟨cells, hc⟩ := Kd.R_typed h b he.symm
  obtain ⟨o, ho, hn⟩ := hb
  rw [hc] at ho
  injection ho with ho
  exact hn _ _ _ ho.symm
theorem own_row (h : W.ownsMap Try.prog 3 (plainElem Try.prog 3) b n D) (hr : Kd.R d e W base (fun _ => True) v xs) (hg : W.grownBy W1 v.ownBlock) : W1.ownsMap Try.prog 3 (plainElem Try.prog 3) b n D := by
  refine h.kept hg (fun he => ?_)
  obtain ⟨cells, hc⟩ := Kd.R_typed hr b he.symm
  obtain ⟨es, clock, hb, _⟩ := h
  rw [hc] at hb
  cases hb

/-- What lay before, the plan's box, and the ends so far. -/
def St (w : World) (g : Nat) (cs : Array Value) (v : Value) (xs : List S81) (W : World) : Prop :=
  Below w.heap.size w W ∧ Box w g cs 32 W ∧ Kd.R k81 81 W w.heap.size (fun _ => True) v xs
theorem St.below {xs : List S81} (h : St w g cs v xs W) (hb : Below W.heap.size W W1) : St w g cs v xs W1 := ⟨below_step h.1 hb, h.2.1.below hb, Kd.R_below h.2.2 hb⟩
theorem St.alloc {xs : List S81} (h : St w g cs v xs W) (o : Obj) : St w g cs v xs (W.alloc o) := h.below (below_alloc (Below.refl _ _) o)
theorem St.obj {xs : List S81} (h : St w g cs v xs W) (hg : W.grownBy W1 (some b)) (hb : NoCells W b) (hw : w.heap.size ≤ b) : St w g cs v xs W1 :=
  ⟨h.1.grown hg h.1.size (fun k e => by cases e; exact hw), h.2.1.grown hg (fun r e => by cases e; exact hb), R_obj h.2.2 rfl hg hb⟩
theorem St.new {xs : List S81} (h : St w g cs v xs W) (hg : W.grownBy W1 none) : St w g cs v xs W1 :=
  ⟨h.1.grown hg h.1.size (fun k e => by cases e), h.2.1.grown hg (fun r e => by cases e), Kd.R_grown h.2.2 hg (fun _ _ => by simp)⟩
end
theorem St.append {w W W1 : World} {g : Nat} {cs : Array Value} {v v1 : Value} {xs ys : List S81} (h : St w g cs v xs W) (hb : Below w.heap.size w W1) (hg : W.grownBy W1 v.ownBlock) (ho : Kd.R k81 81 W1 w.heap.size (fun _ => True) v1 ys) : St w g cs v1 ys W1 :=
  ⟨hb, ⟨h.2.1.1, (hg.block _ h.2.1.lt (Kd.R_ne h.2.2 h.2.1.2 (by decide))).trans h.2.1.2⟩, ho⟩
theorem lawK : Keyed Try.prog 3 := int_keyed Try.underlying3
theorem zeroE (w : World) : (zeroValue 3).run Try.prog w = .ok (.int .i64 0) w := by kernel_rfl
theorem info81 : (Try.prog.info? 81).map (fun i => (i.zero, i.size, i.bytes)) = some (some (.agg #[.int .i64 0, .int .i64 0, .int .i64 0, .int .i64 0]), 4, 32) := by kernel_rfl

/-! ### what a map holds, key by key -/
/-- The map holds N. -/
def Holds (D : DataW Unit) (N : Int → Int) : Prop := ∀ z : Int, (Lit.int .i64 z).wf = true → D.atKey (.int .i64 z) (.lit (.int .i64 0)) = .lit (.int .i64 (N z))
theorem wf_iff (z : Int) : (Lit.int .i64 z).wf = true ↔ -9223372036854775808 ≤ z ∧ z ≤ 9223372036854775807 := by
  rw [show (Lit.int .i64 z).wf = (decide (-9223372036854775808 ≤ z) && decide (z ≤ 9223372036854775807)) from rfl]
  simp
theorem wfw64 (z : Int) : (Lit.int .i64 (wrap64 z)).wf = true := (wf_iff _).2 (by unfold wrap64; omega)
theorem wfw (z : Int) : (Lit.int .i64 (IntKind.i64.wrap z)).wf = true := by rw [i64_w]; exact wfw64 z
theorem atKey_put (D : DataW Unit) (hD : IsMap D) (x z y : Int) (zd : DataW Unit) : (D.put (.int .i64 x) (.lit (.int .i64 y))).atKey (.int .i64 z) zd = if z = x then .lit (.int .i64 y) else D.atKey (.int .i64 z) zd := by
  by_cases h : z = x
  · subst h
    rw [if_pos rfl, atKey_put_same hD (show WideAt.IsKeyLit (.int .i64 z) from trivial)]
  · rw [if_neg h, atKey_put_other (by simpa using h)]
theorem atKey_del (D : DataW Unit) (x z : Int) (zd : DataW Unit) : (D.del (.int .i64 x)).atKey (.int .i64 z) zd = if z = x then zd else D.atKey (.int .i64 z) zd := by
  by_cases h : z = x
  · subst h
    rw [if_pos rfl, atKey_del_same]
  · rw [if_neg h, atKey_del_other (by simpa using h)]
theorem Holds.put {D : DataW Unit} {N : Int → Int} (h : Holds D N) (hD : IsMap D) (x y : Int) : Holds (D.put (.int .i64 x) (.lit (.int .i64 y))) (fun z => if z = x then y else N z) := by
  intro z hz
  rw [atKey_put D hD]
  show _ = DataW.lit (Lit.int .i64 (if z = x then y else N z))
  by_cases e : z = x
  · rw [if_pos e, if_pos e]
  · rw [if_neg e, if_neg e, h z hz]
theorem Holds.del {D : DataW Unit} {N : Int → Int} (h : Holds D N) (x : Int) : Holds (D.del (.int .i64 x)) (fun z => if z = x then 0 else N z) := by
  intro z hz
  rw [atKey_del]
  show _ = DataW.lit (Lit.int .i64 (if z = x then 0 else N z))
  by_cases e : z = x
  · rw [if_pos e, if_pos e]
  · rw [if_neg e, if_neg e, h z hz]
theorem Holds.congr {D : DataW Unit} {N N' : Int → Int} (h : Holds D N) (e : ∀ z, (Lit.int .i64 z).wf = true → N z = N' z) : Holds D N' := fun z hz => by rw [h z hz, e z hz]
theorem Holds.at {D : DataW Unit} {N : Int → Int} (h : Holds D N) {x c : Int} (hx : (Lit.int .i64 x).wf = true) (e : D.atKey (.int .i64 x) (.lit (.int .i64 0)) = .lit (.int .i64 c)) : c = N x := by
  rw [h x hx] at e
  simpa using e.symm
theorem size_le {W : World} {b n : Nat} {D : DataW Unit} (h : W.ownsMap Try.prog 3 (plainElem Try.prog 3) b n D) : Maps.size D ≤ n := by
  obtain ⟨es, clock, _, _, hs, rfl⟩ := h
  simpa [Maps.size, length_sorted] using hs

/-- What has come of W, where 'left' tells what is still to come. -/
def come (W : Int → Int) (left : Lit → Bool) (z : Int) : Int := if left (.int .i64 z) = true then 0 else W z
theorem come_start {D : DataW Unit} {W : Int → Int} (h : Holds D W) (k : Nat) (hk : k ≤ 12) (ho : ∀ z, ¬ (0 ≤ z ∧ z ≤ (k : Int)) → W z = 0) (z : Int) : come W (Maps.has D) z = 0 := by
  unfold come
  by_cases hr : 0 ≤ z ∧ z ≤ (k : Int)
  · cases hh : Maps.has D (.int .i64 z)
    · have h1 := h z ((wf_iff z).2 (by omega))
      rw [atKey_of_not_has hh] at h1
      simp at h1
      simp [← h1]
    · simp
  · rw [ho z hr]; simp
theorem come_end {W : Int → Int} {left : Lit → Bool} (h : ∀ kl, left kl = false) (z : Int) : come W left z = W z := by unfold come; rw [h]; simp
theorem come_step (W : Int → Int) (left : Lit → Bool) (x z : Int) : come W (fun u => left u && !u.sameKey (.int .i64 x)) z = if z = x then W x else come W left z := by
  show (if (left (.int .i64 z) && !(Lit.int .i64 z).sameKey (.int .i64 x)) = true then 0 else W z) = _
  unfold come
  by_cases h : z = x
  · subst h
    rw [WideAt.sameKey_self (show WideAt.IsKeyLit (.int .i64 z) from trivial)]
    simp
  · rw [Maps.sameKey_ne (a := .int .i64 z) (b := .int .i64 x) (by simpa using h), if_neg h]
    simp
/-- A round of the first loop: what comes, laid at x and at x + 1. -/
theorem round_eq (W g : Int → Int) (k : Nat) (hk : k ≤ 12) (ho : ∀ z, ¬ (0 ≤ z ∧ z ≤ (k : Int)) → W z = 0) (x : Int) (hx : -9223372036854775808 ≤ x ∧ x ≤ 9223372036854775807) (g0 : g x = 0) (z : Int) :
    (if z = wrap64 (x + 1) then wrap64 ((if wrap64 (x + 1) = x then wrap64 (nx g x + W x) else nx g (wrap64 (x + 1))) + W x) else if z = x then wrap64 (nx g x + W x) else nx g z) = nx (fun u => if u = x then W x else g u) z := by
  show _ = wrap64 ((if z = x then W x else g z) + (if z - 1 = x then W x else g (z - 1)))
  unfold nx
  by_cases hr : 0 ≤ x ∧ x ≤ (k : Int)
  · have e1 : wrap64 (x + 1) = x + 1 := by unfold wrap64; omega
    rw [e1, if_neg (by omega : ¬ x + 1 = x)]
    by_cases h1 : z = x + 1
    · subst h1
      rw [if_pos rfl, if_neg (by omega), show x + 1 - 1 = x by omega, if_pos rfl, g0]
      unfold wrap64; omega
    · rw [if_neg h1]
      by_cases h2 : z = x
      · subst h2
        rw [if_pos rfl, if_pos rfl, if_neg (by omega), g0]
        unfold wrap64; omega
      · rw [if_neg h2, if_neg h2, if_neg (by omega)]
  · have e0 := ho x hr
    rw [e0]
    have ww : ∀ u : Int, wrap64 (wrap64 u + 0) = wrap64 u := fun u => by unfold wrap64; omega
    have hne : ¬ wrap64 (x + 1) = x := by unfold wrap64; omega
    have e2 : ∀ u, (if u = x then (0 : Int) else g u) = g u := fun u => by
      by_cases h : u = x
      · rw [if_pos h, h, g0]
      · rw [if_neg h]
    rw [e2, e2, if_neg hne, ww, ww]
    by_cases h1 : z = wrap64 (x + 1)
    · rw [if_pos h1, ← h1]
    · rw [if_neg h1]
      by_cases h2 : z = x
      · rw [if_pos h2, ← h2]
      · rw [if_neg h2]
/-- The table behind the second loop's first m rounds. -/
def cut (l0 l1 : List Int) (k m : Nat) (z : Int) : Int := if (0 ≤ z ∧ z < (m : Int)) ∧ aft l0 l1 (k + 1) z ≠ 0 ∧ 0 < nx (wy l0 l1 k) z then 0 else nx (wy l0 l1 k) z
theorem cut_zero (l0 l1 : List Int) (k : Nat) (z : Int) : cut l0 l1 k 0 z = nx (wy l0 l1 k) z := by unfold cut; rw [if_neg (by omega)]
theorem cut_at (l0 l1 : List Int) (k m : Nat) : cut l0 l1 k m m = nx (wy l0 l1 k) m := by unfold cut; rw [if_neg (by omega)]
theorem cut_end (l0 l1 : List Int) (k : Nat) (z : Int) : cut l0 l1 k (k + 2) z = wy l0 l1 (k + 1) z := by
  show _ = (if (0 ≤ z ∧ z < (k : Int) + 2) ∧ aft l0 l1 (k + 1) z ≠ 0 ∧ 0 < nx (wy l0 l1 k) z then 0 else nx (wy l0 l1 k) z)
  unfold cut
  rw [show ((k + 2 : Nat) : Int) = (k : Int) + 2 by omega]
theorem cut_keep (l0 l1 : List Int) (k m : Nat) (h : ¬ (aft l0 l1 (k + 1) m ≠ 0 ∧ 0 < nx (wy l0 l1 k) m)) (z : Int) : cut l0 l1 k (m + 1) z = cut l0 l1 k m z := by
  unfold cut
  by_cases e : z = m
  · subst e
    rw [if_neg (fun hh => h hh.2), if_neg (fun hh => h hh.2)]
  · have : (0 ≤ z ∧ z < ((m + 1 : Nat) : Int)) ↔ (0 ≤ z ∧ z < (m : Int)) := by omega
    simp only [this]
theorem cut_strike (l0 l1 : List Int) (k m : Nat) (h : aft l0 l1 (k + 1) m ≠ 0 ∧ 0 < nx (wy l0 l1 k) m) (z : Int) : cut l0 l1 k (m + 1) z = if z = m then 0 else cut l0 l1 k m z := by
  unfold cut
  by_cases e : z = m
  · subst e
    rw [if_pos ⟨by omega, h⟩, if_pos rfl]
  · rw [if_neg e]
    have : (0 ≤ z ∧ z < ((m + 1 : Nat) : Int)) ↔ (0 ≤ z ∧ z < (m : Int)) := by omega
    simp only [this]
end Go.Proofs.Ytdppnmfljfdhaaa.X
