/- The closure that packets.Pairs calls, told as a function on numbers; and what is known of the memory amid its calls. -/
import Derived.Test.YtigmhomfadimnaaQXPT
import Derived.Test.YtigmhomfadimnaaQHBoxes
import Derived.Maps.OwnSet
import Derived.Maps.OwnOps
import Derived.Maps.Views
import Derived.Carry
import Derived.DeepKeys4
import Derived.WideKeyPair
set_option linter.unusedVariables false
set_option linter.unusedSimpArgs false
namespace Go.Proofs.Ytigmhomfadimnaa.X
open Go.RowKit Go.Proofs.YtigmhomfadimnaaW.PrintWords Go.Proofs.YtigmhomfadimnaaW.PrintLast Go.Proofs.YtigmhomfadimnaaW.PrintMore
open Go.Maps
/-- What is wanted once less, and twice less, when kind i has come. -/
def leftP (o i : Int) : Int := Go.bits .andNot .i64 o (shl .i64 1 i)
def moreP (o a i : Int) : Int := if Go.bits .and .i64 (shr .i64 o i) 1 = 0 then Go.bits .andNot .i64 a (shl .i64 1 i) else a
mutual
def packets_Pairs1.l0 : Nat → List Int → Int → Int → Int → Int → Int → Option (Int × Int)
 | 0, _, _, _, _, _, _ => none
 | k + 1, l, o, a, i, s1, s2 => if i < (l.length : Int) then (if Go.bits .and .i64 (shr .i64 (Go.bits .or .i64 o a) i) 1 = 0 then (packets_Pairs1.l0 k l o a (i + 1) s1 s2) else ((packets_weights_of.f k l (Go.bits .or .i64 o a)).bind fun x => ((packets_frac.f k (rd l i) x).bind fun y => ((packets_Pairs1.f k l (leftP o i) (moreP o a i)).bind fun z => ((packets_times.f k y.1 y.2 z.1 z.2).bind fun u => ((packets_plus.f k s1 s2 u.1 u.2).bind fun v => (packets_Pairs1.l0 k l o a (i + 1) v.1 v.2))))))) else (some (s1, s2))
def packets_Pairs1.f : Nat → List Int → Int → Int → Option (Int × Int)
 | 0, _, _, _ => none
 | k + 1, l, o, a => if Go.bits .or .i64 o a = 0 then (some (0, 1)) else ((packets_weights_all.f l).bind fun q => ((packets_weights_of.f k l q).bind fun x => ((packets_weights_of.f k l (Go.bits .or .i64 o a)).bind fun y => ((packets_frac.f k x y).bind fun s => (packets_Pairs1.l0 k l o a 0 s.1 s.2)))))
end
theorem packets_Pairs1.mono_l : ∀ k, (∀ y0 y1 y2 y3 y4 y5, LeO (packets_Pairs1.l0 k y0 y1 y2 y3 y4 y5) (packets_Pairs1.l0 (k + 1) y0 y1 y2 y3 y4 y5)) ∧ (∀ y0 y1 y2, LeO (packets_Pairs1.f k y0 y1 y2) (packets_Pairs1.f (k + 1) y0 y1 y2))
 | 0 => ⟨fun _ _ _ _ _ _ r h => by simp [packets_Pairs1.l0] at h, fun _ _ _ r h => by simp [packets_Pairs1.f] at h⟩
 | k + 1 => by
  obtain ⟨ih0, ih1⟩ := packets_Pairs1.mono_l k
  refine ⟨?_, ?_⟩
  ·intro y0 y1 y2 y3 y4 y5
   unfold packets_Pairs1.l0
   repeat' first
   | (with_reducible exact ih0 _ _ _ _ _ _)
   | (with_reducible exact ih1 _ _ _)
   | (with_reducible exact packets_weights_of.mono _ _ _)
   | (with_reducible exact packets_frac.mono _ _ _)
   | (with_reducible exact packets_times.mono _ _ _ _ _)
   | (with_reducible exact packets_plus.mono _ _ _ _ _)
   | (with_reducible exact LeO.refl _)
   | (with_reducible exact LeO.none _)
   | (with_reducible refine LeO.ite ?_ ?_)
   | (with_reducible refine LeO.bind ?_ (fun _ => ?_))
  ·intro y0 y1 y2
   unfold packets_Pairs1.f
   repeat' first
   | (with_reducible exact ih0 _ _ _ _ _ _)
   | (with_reducible exact ih1 _ _ _)
   | (with_reducible exact packets_weights_of.mono _ _ _)
   | (with_reducible exact packets_frac.mono _ _ _)
   | (with_reducible exact LeO.refl _)
   | (with_reducible exact LeO.none _)
   | (with_reducible refine LeO.ite ?_ ?_)
   | (with_reducible refine LeO.bind ?_ (fun _ => ?_))
theorem packets_Pairs1.mono : ∀ a0 a1 a2 k, LeO (packets_Pairs1.f k a0 a1 a2) (packets_Pairs1.f (k + 1) a0 a1 a2) := fun a0 a1 a2 k => (packets_Pairs1.mono_l k).2 a0 a1 a2
theorem Pairs1_le {l : List Int} {o a : Int} {k m : Nat} (h : k ≤ m) {r : Int × Int} (hr : packets_Pairs1.f k l o a = some r) : packets_Pairs1.f m l o a = some r := by
  obtain ⟨d, rfl⟩ : ∃ d, m = k + d := ⟨m - k, by omega⟩
  clear h
  induction d with
  | zero => exact hr
  | succ d ih => exact packets_Pairs1.mono _ _ _ _ _ ih
theorem Pairs1_det {l : List Int} {o a : Int} {k m : Nat} {r s : Int × Int} (hr : packets_Pairs1.f k l o a = some r) (hs : packets_Pairs1.f m l o a = some s) : r = s := by
  have h1 := Pairs1_le (Nat.le_max_left k m) hr
  have h2 := Pairs1_le (Nat.le_max_right k m) hs
  exact Option.some.inj (h1.symm.trans h2)
/-- How many kinds a set below 8 has. -/
def pc3 (o : Nat) : Nat := o % 2 + o / 2 % 2 + o / 4 % 2
def factB (o a i : Nat) : Bool :=
  (Go.bits .and .i64 (shr .i64 (Go.bits .or .i64 (o : Int) (a : Int)) (i : Int)) 1 == 0) ||
  (let o' := leftP (o : Int) (i : Int); let a' := moreP (o : Int) (a : Int) (i : Int); decide (0 ≤ o') && decide (o' < 8) && decide (0 ≤ a') && decide (a' < 8) && decide (pc3 o'.toNat + pc3 a'.toNat + 1 = pc3 o + pc3 a))
theorem facts_all : (List.range 8).all (fun o => (List.range 8).all fun a => (List.range 3).all fun i => factB o a i) = true := by decide +kernel
theorem facts_at {o a i : Nat} (ho : o < 8) (ha : a < 8) (hi : i < 3) (hb : ¬ Go.bits .and .i64 (shr .i64 (Go.bits .or .i64 (o : Int) (a : Int)) (i : Int)) 1 = 0) :
    ∃ o' a' : Nat, leftP (o : Int) (i : Int) = (o' : Int) ∧ moreP (o : Int) (a : Int) (i : Int) = (a' : Int) ∧ o' < 8 ∧ a' < 8 ∧ pc3 o' + pc3 a' + 1 = pc3 o + pc3 a := by
  have h := List.all_eq_true.mp (List.all_eq_true.mp (List.all_eq_true.mp facts_all o (by simpa using ho)) a (by simpa using ha)) i (by simpa using hi)
  unfold factB at h
  rw [beq_eq_false_iff_ne.mpr hb, Bool.false_or] at h
  simp only [Bool.and_eq_true, decide_eq_true_eq] at h
  obtain ⟨⟨⟨⟨h1, h2⟩, h3⟩, h4⟩, h5⟩ := h
  exact ⟨(leftP (o : Int) (i : Int)).toNat, (moreP (o : Int) (a : Int) (i : Int)).toNat, (Int.toNat_of_nonneg h1).symm, (Int.toNat_of_nonneg h3).symm, by omega, by omega, h5⟩

/-! ### The map of what is known -/
def keyP (o a : Nat) : Lit := .string (keyBytes [.int .i64 (o : Int), .int .i64 (a : Int)])
def keyV (o a : Nat) : Value := .agg #[.int .i64 (o : Int), .int .i64 (a : Int)]
def frD (n d : Int) : DataW Unit := .agg [.lit (.int .i64 n), .lit (.int .i64 d)]
def fracElem : Value → Option (DataW Unit × List MemPlace)
  | .agg ⟨[.int .i64 n, .int .i64 d]⟩ => some (frD n d, [])
  | _ => none
theorem fracElem_mk (n d : Int) : fracElem (.agg #[.int .i64 n, .int .i64 d]) = some (frD n d, []) := rfl
theorem fracElem_inv {v : Value} {z : DataW Unit × List MemPlace} (h : fracElem v = some z) : ∃ n d, v = .agg #[.int .i64 n, .int .i64 d] ∧ z = (frD n d, []) := by
  unfold fracElem at h
  split at h
  · cases h; exact ⟨_, _, rfl, rfl⟩
  · cases h
theorem frD_inj {n d n' d' : Int} (h : frD n d = frD n' d') : n = n' ∧ d = d' := by
  unfold frD at h
  injection h with h
  injection h with h1 h2
  injection h1 with h1
  injection h1 with _ h1
  injection h2 with h2 _
  injection h2 with h2
  injection h2 with _ h2
  exact ⟨h1, h2⟩
theorem laidOutP : laidOutB Try.prog = true := by kernel_rfl
theorem lawP : Keyed Try.prog 66 := Keyed.of_law (deep_law_laid laidOutP (m := 2) (by omega) (of_decide_eq_true (by kernel_rfl)) (by kernel_rfl) (by rw [Try.underlying66]))
theorem zero25 (w : World) : (zeroValue 25).run Try.prog w = .ok (.agg #[.int .i64 0, .int .i64 0]) w := by kernel_rfl
theorem arrP : WideMaps.ArrKey Try.prog 66 3 2 := ⟨Try.underlying66, by kernel_rfl, by kernel_rfl, by kernel_rfl⟩
theorem keyOfP (o a : Nat) (ho : o < 8) (ha : a < 8) : keyOf Try.prog 66 (keyV o a) = some (keyP o a) := by
  have w1 : (Lit.int .i64 (o : Int)).wf = true := WalkArith.wf_i64 (by omega)
  have w2 : (Lit.int .i64 (a : Int)).wf = true := WalkArith.wf_i64 (by omega)
  exact WideMaps.keyOf_pair arrP Try.underlying3 ⟨Try.prog.types.size - 1, by kernel_rfl⟩ w1 w2
theorem keyP_all : (List.range 8).all (fun o => (List.range 8).all fun a => (List.range 8).all fun o' => (List.range 8).all fun a' => !(keyBytes [.int .i64 (o : Int), .int .i64 (a : Int)] == keyBytes [.int .i64 (o' : Int), .int .i64 (a' : Int)]) || (o == o' && a == a')) = true := by decide +kernel
theorem keyP_inj {o a o' a' : Nat} (ho : o < 8) (ha : a < 8) (ho' : o' < 8) (ha' : a' < 8) (h : keyP o a = keyP o' a') : o = o' ∧ a = a' := by
  have hh := List.all_eq_true.mp (List.all_eq_true.mp (List.all_eq_true.mp (List.all_eq_true.mp keyP_all o (by simpa using ho)) a (by simpa using ha)) o' (by simpa using ho')) a' (by simpa using ha')
  unfold keyP at h
  injection h with h
  rw [h] at hh
  simpa using hh
structure Memo (l : List Int) (D : DataW Unit) : Prop where
  isMap : IsMap D
  at_ : ∀ o a : Nat, o < 8 → a < 8 → has D (keyP o a) = true → ∃ k n d, packets_Pairs1.f k l (o : Int) (a : Int) = some (n, d) ∧ D.atKey (keyP o a) (frD 0 0) = frD n d
theorem Memo.start (l : List Int) : Memo l (.map []) := ⟨⟨[], rfl⟩, fun o a _ _ h => by cases h⟩
theorem Memo.put {l : List Int} {D : DataW Unit} (h : Memo l D) {k : Nat} {o a : Nat} (ho : o < 8) (ha : a < 8) {n d : Int} (hf : packets_Pairs1.f k l (o : Int) (a : Int) = some (n, d)) : Memo l (D.put (keyP o a) (frD n d)) := by
  refine ⟨?_, fun o' a' ho' ha' hh => ?_⟩
  · obtain ⟨es, rfl⟩ := h.isMap
    exact ⟨_, rfl⟩
  · by_cases e : o' = o ∧ a' = a
    · obtain ⟨rfl, rfl⟩ := e
      exact ⟨k, n, d, hf, by rw [atKey_put_same h.isMap (by trivial)]⟩
    · have hne : keyP o' a' ≠ keyP o a := fun e2 => e (keyP_inj ho' ha' ho ha e2)
      rw [has_put_other hne] at hh
      rw [atKey_put_other hne]
      exact h.at_ o' a' ho' ha' hh
theorem wpList_lookup_frac {w : World} {ops : Array Oper} {rest : List Oper} {o : Oper} {a : Act} {Q : Exit → Act → World → Prop}
    (hg : o.guard = none) (m x : Operand) (t : TypeId) (hop : o.op = Op.lookup t m x true)
    (k : TypeId) (K : Keyed Try.prog k) (ht : Try.prog.underlying t = some (.map k 25)) (b n : Nat) (D : DataW Unit)
    (hm : a.eval m = .map (some b)) (hown : w.ownsMap Try.prog k fracElem b n D) (key : Value) (kl : Lit) (hx : a.eval x = key) (hkey : keyOf Try.prog k key = some kl)
    (hK : ∀ c d : Int, D.atKey kl (frD 0 0) = frD c d → wpList Try.prog ops Q rest (a.put o.dst (.tuple #[.agg #[.int .i64 c, .int .i64 d], .bool (Maps.has D kl)])) w) :
    wpList Try.prog ops Q (o :: rest) a w :=
  wpList_lookup_own_ok w hg m x t hop k 25 K ht fracElem (zero25 w) (frD 0 0) [] (fracElem_mk 0 0) b n D hm hown key kl hx hkey (fun v ps hv => by
    obtain ⟨c, d, rfl, hc⟩ := fracElem_inv hv
    exact hK c d (congrArg Prod.fst hc))
/-- All blocks but one stay. -/
def Elder (mb : Nat) (W W1 : World) : Prop := W.heap.size ≤ W1.heap.size ∧ ∀ x ob, x ≠ mb → W.heap[x]? = some ob → W1.heap[x]? = some ob
theorem Elder.refl (mb : Nat) (W : World) : Elder mb W W := ⟨Nat.le_refl _, fun _ _ _ h => h⟩
theorem Elder.trans {mb : Nat} {W W1 W2 : World} (h : Elder mb W W1) (h2 : Elder mb W1 W2) : Elder mb W W2 := ⟨Nat.le_trans h.1 h2.1, fun x ob hx ho => h2.2 x ob hx (h.2 x ob hx ho)⟩
theorem Elder.below {mb : Nat} {W W1 W2 : World} (h : Elder mb W W1) (hb : Below W1.heap.size W1 W2) : Elder mb W W2 := h.trans ⟨hb.size, fun x ob _ ho => blk_below ho hb⟩
theorem Elder.set {mb : Nat} {W W1 : World} (h : Elder mb W W1) {b i : Nat} (hb : W.heap.size ≤ b) (v : Value) : Elder mb W (W1.setCell ⟨b, i, none⟩ v) := by
  refine ⟨by simp only [World.setCell]; simpa using h.1, fun x ob hx ho => ?_⟩
  exact (Below.heap_setCell W1 ⟨b, i, none⟩ v x (by have := blk_lt ho; show x ≠ b; omega)).trans (h.2 x ob hx ho)
theorem Elder.grown {mb : Nat} {W W1 W2 : World} (h : Elder mb W W1) (hg : W1.grownBy W2 (some mb)) : Elder mb W W2 :=
  h.trans ⟨hg.size, fun x ob hx ho => blk_grown ho hg (fun e => hx (Option.some.inj e))⟩
end Go.Proofs.Ytigmhomfadimnaa.X
