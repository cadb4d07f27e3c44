/- The map of the forest: its keys; what it holds. -/
import Derived.Test.YtmlbdkkdejecmaaDoorQHTreesF
import Derived.Test.YtmlbdkkdejecmaaDoorQXT
import Derived.WideKeyPair
import Derived.Maps.OwnOps
import Derived.Maps.OwnSet
set_option linter.unusedVariables false
set_option linter.unusedSimpArgs false
namespace Go.Proofs.YtmlbdkkdejecmaaDoor.X
open Go.RowKit Go.Proofs.YtmlbdkkdejecmaaDoorW.PrintWords Go.Proofs.YtmlbdkkdejecmaaDoorW.PrintLast Go.Proofs.YtmlbdkkdejecmaaDoorW.PrintMore
open Go.Maps Go.WideMaps
theorem arrK : ArrKey Tryd.prog 61 3 3 := ⟨Tryd.underlying61, by kernel_rfl, by kernel_rfl, by kernel_rfl⟩
theorem lawK : Keyed Tryd.prog 61 := Keyed.of_law arrK.law
theorem zero3 (w : World) : (zeroValue 3).run Tryd.prog w = .ok (.int .i64 0) w := by kernel_rfl
/-- The key's value, and how it reads. -/
def kv (p i j : Int) : Value := .agg #[.int .i64 p, .int .i64 i, .int .i64 j]
def kl (p i j : Int) : Lit := .string (keyBytes [.int .i64 p, .int .i64 i, .int .i64 j])
def sm (x : Int) : Prop := 0 ≤ x ∧ x ≤ 1000
theorem wf_sm {x : Int} (h : sm x) : (Lit.int .i64 x).wf = true := WalkArith.wf_i64 (by have := h.1; have := h.2; omega)
theorem key_of {p i j : Int} (hp : sm p) (hi : sm i) (hj : sm j) : keyOf Tryd.prog 61 (kv p i j) = some (kl p i j) := by
  have he := Tryd.underlying3
  have hpos : 0 < Tryd.prog.types.size := of_decide_eq_true (by kernel_rfl)
  obtain ⟨m, hm⟩ : ∃ m, Tryd.prog.types.size = m + 1 := ⟨Tryd.prog.types.size - 1, by omega⟩
  have hkt := arrK.keyType ⟨m, hm⟩
  unfold keyOf kv
  simp only [arrK.hu]
  rw [if_pos (by simp [hkt, Value.formed, arrK.hu, arrK.size]), hm]
  unfold Program.keyLits
  simp only [arrK.hu, Value.cells]
  rw [if_pos (by rw [arrK.size]; rfl), show List.range 3 = [0, 1, 2] from rfl, List.mapM_cons, List.mapM_cons, List.mapM_cons, List.mapM_nil]
  simp [arrK.one, Program.keyLits, he, wf_sm hp, wf_sm hi, wf_sm hj, kl]
theorem kl_inj {p i j p' i' j' : Int} (hp : sm p) (hi : sm i) (hj : sm j) (hp' : sm p') (hi' : sm i') (hj' : sm j') (h : kl p i j = kl p' i' j') : p = p' ∧ i = i' ∧ j = j' := by
  have h1 := key_of hp hi hj
  have h2 := key_of hp' hi' hj'
  rw [← h] at h2
  have h3 := lawK.inj h1 h2
  unfold kv at h3
  simp at h3
  exact h3
theorem smN {i : Nat} (h : i ≤ 1000) : sm (i : Int) := ⟨by omega, by omega⟩
theorem sm65 : sm 65 := ⟨by omega, by omega⟩
/-- What a map of the forest holds: S the pieces that it has, F how many. -/
structure Rep (D : DataW Unit) (S : Nat → Nat → Prop) (F : Nat → Nat → Int) : Prop where
  look : ∀ i j : Nat, i ≤ 1000 → j ≤ 1000 → D.atKey (kl 65 i j) (.lit (.int .i64 0)) = .lit (.int .i64 (F i j))
  keys : ∀ l, has D l = true → ∃ i j : Nat, i ≤ 1000 ∧ j ≤ 1000 ∧ S i j ∧ l = kl 65 i j
  pres : ∀ i j : Nat, S i j → has D (kl 65 i j) = true
  bnd : ∀ i j : Nat, S i j → i ≤ 1000 ∧ j ≤ 1000
theorem Rep.start : Rep (.map []) (fun _ _ => False) (fun _ _ => 0) := ⟨fun i j _ _ => rfl, fun l h => by simp [has] at h, fun i j h => h.elim, fun i j h => h.elim⟩
theorem Rep.congr {D : DataW Unit} {S S' : Nat → Nat → Prop} {F F' : Nat → Nat → Int} (h : Rep D S F) (hS : ∀ i j, S i j ↔ S' i j) (hF : ∀ i j, F i j = F' i j) : Rep D S' F' :=
  ⟨fun i j hi hj => by rw [← hF]; exact h.look i j hi hj, fun l hl => by obtain ⟨i, j, h1, h2, h3, h4⟩ := h.keys l hl; exact ⟨i, j, h1, h2, (hS i j).mp h3, h4⟩, fun i j hs => h.pres i j ((hS i j).mpr hs), fun i j hs => h.bnd i j ((hS i j).mpr hs)⟩
theorem Rep.put {D : DataW Unit} {S : Nat → Nat → Prop} {F : Nat → Nat → Int} (h : Rep D S F) (hD : IsMap D) {a b : Nat} (ha : a ≤ 1000) (hb : b ≤ 1000) (x : Int) :
    Rep (D.put (kl 65 a b) (.lit (.int .i64 x))) (fun i j => S i j ∨ (i = a ∧ j = b)) (fun i j => if i = a ∧ j = b then x else F i j) := by
  have hk : WideAt.IsKeyLit (kl 65 a b) := lawK.key (key_of sm65 (smN ha) (smN hb))
  refine ⟨fun i j hi hj => ?_, fun l hl => ?_, fun i j hs => ?_, fun i j hs => by rcases hs with hs | ⟨rfl, rfl⟩; exact h.bnd i j hs; exact ⟨ha, hb⟩⟩
  · by_cases e : i = a ∧ j = b
    · obtain ⟨rfl, rfl⟩ := e
      rw [if_pos ⟨rfl, rfl⟩, atKey_put_same hD hk]
    · rw [if_neg e, atKey_put_other (fun e2 => e (by
        obtain ⟨_, h2, h3⟩ := kl_inj sm65 (smN hi) (smN hj) sm65 (smN ha) (smN hb) e2
        omega))]
      exact h.look i j hi hj
  · by_cases e : l = kl 65 a b
    · exact ⟨a, b, ha, hb, .inr ⟨rfl, rfl⟩, e⟩
    · rw [has_put_other e] at hl
      obtain ⟨i, j, h1, h2, h3, h4⟩ := h.keys l hl
      exact ⟨i, j, h1, h2, .inl h3, h4⟩
  · by_cases e : kl 65 (i : Int) (j : Int) = kl 65 a b
    · rw [e]; exact has_put_same hD hk _
    · rw [has_put_other e]
      rcases hs with hs | ⟨rfl, rfl⟩
      · exact h.pres i j hs
      · exact absurd rfl e
/-- The forest, in memory: its rules, the string, the greatest number, and what is known. -/
structure FSt (W : World) (gf bm nn : Nat) (A : Option Addr) (c : Nat) (s : ByteArray) (D : DataW Unit) : Prop where
  box : W.heap[gf]? = some (.cells #[.slice A 2 c, .string s, .int .i64 100, .map (some bm)] 60 (0, 0))
  own : W.ownsMap Tryd.prog 61 (plainElem Tryd.prog 3) bm nn D
theorem owns_lt {W : World} {b n : Nat} {D : DataW Unit} (h : W.ownsMap Tryd.prog 61 (plainElem Tryd.prog 3) b n D) : b < W.heap.size := by
  obtain ⟨es, clock, h1, _⟩ := h
  exact blk_lt h1
theorem owns_at {W W1 : World} {b n : Nat} {D : DataW Unit} (h : W.ownsMap Tryd.prog 61 (plainElem Tryd.prog 3) b n D) (hb : W1.heap[b]? = W.heap[b]?) : W1.ownsMap Tryd.prog 61 (plainElem Tryd.prog 3) b n D := by
  obtain ⟨es, clock, h1, h2⟩ := h
  exact ⟨es, clock, hb.trans h1, h2⟩
theorem owns_below {W W1 : World} {b n : Nat} {D : DataW Unit} (h : W.ownsMap Tryd.prog 61 (plainElem Tryd.prog 3) b n D) (hb : Below W.heap.size W W1) : W1.ownsMap Tryd.prog 61 (plainElem Tryd.prog 3) b n D := owns_at h (hb.block b (owns_lt h))
theorem FSt.below {W W1 : World} {gf bm nn : Nat} {A : Option Addr} {c : Nat} {s : ByteArray} {D : DataW Unit} (h : FSt W gf bm nn A c s D) (hb : Below W.heap.size W W1) : FSt W1 gf bm nn A c s D :=
  ⟨(hb.block gf (blk_lt h.box)).trans h.box, owns_below h.own hb⟩
theorem FSt.drew {W : World} {gf bm nn : Nat} {A : Option Addr} {c : Nat} {s : ByteArray} {D : DataW Unit} (h : FSt W gf bm nn A c s D) : FSt W.drew gf bm nn A c s D := h.below (below_drew1 (Below.refl _ _))
end Go.Proofs.YtmlbdkkdejecmaaDoor.X
