/- The contract of packets' parts: an iterator over the parts of a set, from the whole set down to the empty one; and the list of these. -/
import Derived.Test.YtigmhomfadimnaaQHRound
set_option linter.unusedVariables false
set_option linter.unusedSimpArgs false
namespace Go.Proofs.Ytigmhomfadimnaa.X
open Go.RowKit Go.Proofs.YtigmhomfadimnaaW.PrintWords Go.Proofs.YtigmhomfadimnaaW.PrintLast Go.Proofs.YtigmhomfadimnaaW.PrintMore
attribute [local go_sem] Oper.semAt_some

theorem wraps_i64 (n : Int) (h₀ : 0 ≤ n) (h₁ : n < 2 ^ 63) : IntKind.i64.wrap n = n := by rw [IntKind.wrap_i64]; omega
theorem and_nat (a b : Nat) (ha : a < 2 ^ 63) (hb : b < 2 ^ 63) : Go.bits .and .i64 (a : Int) (b : Int) = ((a &&& b : Nat) : Int) := (bits_nat .i64 63 (by decide) wraps_i64 a b ha hb).1

/-- The part behind a part. -/
def nextPart (set p : Int) : Int := Go.bits .and .i64 (p - 1) set
theorem nextPart_le (set p : Int) (h0 : 0 ≤ set) (h1 : set < 2 ^ 63) (hp : 0 < p) (hp1 : p < 2 ^ 63) : 0 ≤ nextPart set p ∧ nextPart set p ≤ p - 1 := by
  obtain ⟨s, rfl⟩ := Int.eq_ofNat_of_zero_le h0
  obtain ⟨q, hq⟩ := Int.eq_ofNat_of_zero_le (show 0 ≤ p - 1 by omega)
  unfold nextPart
  rw [hq, and_nat q s (by omega) (by omega)]
  have := @Nat.and_le_left q s
  omega
/-- The parts from p down. -/
def partsGo : Nat → Int → Int → List Int
  | 0, _, p => [p]
  | n + 1, set, p => p :: (if 0 < p then partsGo n set (nextPart set p) else [])
/-- All parts of a set. -/
def partsL (set : Int) : List Int := partsGo set.toNat set set
theorem partsGo_pos (n : Nat) (set p : Int) : 0 < (partsGo n set p).length := by cases n <;> simp [partsGo]
theorem partsGo_zero (n : Nat) (set p : Int) : (partsGo n set p).getD 0 0 = p := by cases n <;> simp [partsGo]
theorem partsGo_step (set : Int) (h0 : 0 ≤ set) (h1 : set < 2 ^ 63) : ∀ (n : Nat) (p : Int), 0 ≤ p → p < 2 ^ 63 → p ≤ n → ∀ k, k < (partsGo n set p).length →
    0 ≤ (partsGo n set p).getD k 0 ∧ (partsGo n set p).getD k 0 < 2 ^ 63 ∧ (0 < (partsGo n set p).getD k 0 → k + 1 < (partsGo n set p).length ∧ (partsGo n set p).getD (k + 1) 0 = nextPart set ((partsGo n set p).getD k 0)) ∧
    (¬ 0 < (partsGo n set p).getD k 0 → k + 1 = (partsGo n set p).length) := by
  intro n
  induction n with
  | zero =>
    intro p hp hp1 hn k hk
    obtain rfl : p = 0 := by omega
    simp [partsGo] at hk
    subst hk
    simp [partsGo]
  | succ n ih =>
    intro p hp hp1 hn k hk
    by_cases hpos : 0 < p
    · have hle := nextPart_le set p h0 h1 hpos hp1
      have e : partsGo (n + 1) set p = p :: partsGo n set (nextPart set p) := by simp [partsGo, hpos]
      rw [e] at hk ⊢
      cases k with
      | zero =>
        refine ⟨by simpa using hp, by simpa using hp1, fun _ => ⟨?_, ?_⟩, fun h => absurd hpos (by simpa using h)⟩
        · have := partsGo_pos n set (nextPart set p); simp; omega
        · have := partsGo_zero n set (nextPart set p); simpa using this
      | succ k =>
        have := ih (nextPart set p) hle.1 (by omega) (by omega) k (by simpa using hk)
        simpa using this
    · have e : partsGo (n + 1) set p = [p] := by simp [partsGo, hpos]
      rw [e] at hk ⊢
      obtain rfl : k = 0 := by simpa using hk
      refine ⟨by simpa using hp, by simpa using hp1, fun h => absurd (by simpa using h) hpos, fun _ => rfl⟩
theorem partsL_step (set : Int) (h0 : 0 ≤ set) (h1 : set < 2 ^ 63) (k : Nat) (hk : k < (partsL set).length) :
    0 ≤ (partsL set).getD k 0 ∧ (partsL set).getD k 0 < 2 ^ 63 ∧ (0 < (partsL set).getD k 0 → k + 1 < (partsL set).length ∧ (partsL set).getD (k + 1) 0 = nextPart set ((partsL set).getD k 0)) ∧
    (¬ 0 < (partsL set).getD k 0 → k + 1 = (partsL set).length) := partsGo_step set h0 h1 set.toNat set h0 h1 (by omega) k hk

/-- The cell of the captured set stays. -/
def keepsCell (B : Nat) (W W' : World) : Prop := W'.cell? ⟨B, 0, none⟩ = W.cell? ⟨B, 0, none⟩

set_option maxRecDepth 100000 in
set_option maxHeartbeats 2000000 in
theorem parts_calls (set : Int) (w : World) :
    Calls Try.prog 50 #[.int .i64 set] w fun e w' => e = .returned (.func (.func 76) #[] #[.pointer (some ⟨w.heap.size, 0, none⟩)]) ∧ w' = w.alloc (.cells #[.int .i64 set] 3) := by
  go_enter Try.func50, Try.ntmps50
  go_wp2
  go_ret
  exact ⟨rfl, rfl⟩

set_option maxRecDepth 100000 in
set_option maxHeartbeats 4000000 in
theorem parts_seq (B : Nat) (set : Int) (h0 : 0 ≤ set) (h1 : set < 2 ^ 63) (w : World) (hB : B < w.heap.size) (hc : w.cell? ⟨B, 0, none⟩ = some (.int .i64 set)) :
    SeqL Try.prog 76 #[.pointer (some ⟨B, 0, none⟩)] (partsL set) (keepsCell B) w := by
  intro l J W hW hY hJ0
  have hc' : W.cell? ⟨B, 0, none⟩ = some (.int .i64 set) := (hW.cell (p := ⟨B, 0, none⟩) hB).trans hc
  have HST := Aside0.mk (partsL_step set h0 h1)
  have HL0 : Aside0 ((partsL set).getD 0 0 = set) := ⟨partsGo_zero _ _ _⟩
  have HP : Aside0 (0 < (partsL set).length) := ⟨partsGo_pos _ _ _⟩
  have HY := Aside0.mk hY
  clear hY hc hW
  refine (callsIn_wide (n := 0)).1 (callsIn_of_wp Try.func76 rfl trivial ?_)
  simp only [Try.ntmps76, List.size_toArray, List.length_cons, List.length_nil, Nat.reduceAdd, Nat.reduceSub, Array.replicate_succ, Array.replicate_zero, List.push_toArray, List.append_toArray, List.nil_append, List.cons_append]
  gi_wp2
  gi_loopw [3] (fun v3 wr => ∃ k : Nat, k < (partsL set).length ∧ v3 = .int .i64 ((partsL set).getD k 0) ∧ Aside0 (J k wr) ∧ Aside0 (wr.cell? ⟨B, 0, none⟩ = some (.int .i64 set)))
    (fun v3 _ => (intOf v3).toNat)
  case atStart => exact ⟨0, HP.out, by rw [HL0.out], ⟨hJ0⟩, ⟨hc'⟩⟩
  case round =>
    obtain ⟨k, hk, rfl, HJ, HC⟩ := hrel
    obtain ⟨g0, g1, g2, g3⟩ := HST.out k hk
    obtain ⟨fn, tmps, assign, body, hy, hR⟩ := HY.out k wr hk HJ.out
    have HG := Aside0.mk g2
    have HG3 := Aside0.mk g3
    clear g2 g3 hJ0 hc'
    generalize hp : (partsL set).getD k 0 = p at *
    by_cases hpos : 0 < p
    · have hgt : decide (0 < p) = true := decide_eq_true hpos
      gi_wp2
      refine ⟨rfl, hR.mono ?_⟩
      rintro e W3 ⟨rfl, hJ3, hk3⟩
      have hc3 : W3.cell? ⟨B, 0, none⟩ = some (.int .i64 set) := Eq.trans hk3 HC.out
      clear hk3
      gi_wp2
      have hn := nextPart_le set p h0 h1 hpos g1
      go_roundw
      case rel => exact ⟨k + 1, (HG.out hpos).1, by rw [(HG.out hpos).2, ← hp]; rfl, ⟨hJ3⟩, ⟨hc3⟩⟩
      case measure => 
        have hn' : 0 ≤ bits BinOp.and IntKind.i64 (p - 1) set ∧ bits BinOp.and IntKind.i64 (p - 1) set ≤ p - 1 := hn
        simp [intOf]; omega
    · have hgt : decide (0 < p) = false := decide_eq_false hpos
      gi_wp2
      refine ⟨rfl, hR.mono ?_⟩
      rintro e W3 ⟨rfl, hJ3, hk3⟩
      gi_wp2
      go_end0
      exact ⟨⟨_, rfl⟩, by rw [← HG3.out hpos]; exact hJ3⟩
end Go.Proofs.Ytigmhomfadimnaa.X
