/- Plain laws: what Find tells, the program's and the reference's. -/
import Derived.Test.YtdppnmfljfdhaaaQMChance
import Derived.Test.YtdppnmfljfdhaaaQMSingle
import Derived.Test.YtdppnmfljfdhaaaQHRFind
set_option linter.unusedVariables false
set_option linter.unusedSimpArgs false
namespace Go.Proofs.Ytdppnmfljfdhaaa.Pure
open Go.RowKit Go.Proofs.Ytdppnmfljfdhaaa.X Go.Proofs.YtdppnmfljfdhaaaW.PrintWords Go.Proofs.YtdppnmfljfdhaaaW.PrintLast Go.Proofs.YtdppnmfljfdhaaaW.PrintMore

/-- The chance that the plan of n and c takes a lot, in lowest terms. -/
def tkA (y o : Int) (n c : Nat) : Int × Int := fr (Rat.divInt (sTaken (singleT n c) (singleL n c) y o) (o ^ (singleT n c).length))
theorem isS_nat {n c : Nat} (h1 : 1 ≤ n) (h2 : n ≤ 12) (h3 : c < n) : isS (n : Int) (c : Int) = true := (isS_iff _ _).2 ⟨by omega, by omega, by omega, by omega⟩
theorem common {P : Nat → Nat → Prop} : ∀ N : Nat, (∀ i, i < N → ∃ k0, ∀ k, k0 ≤ k → P i k) → ∃ k0, ∀ k, k0 ≤ k → ∀ i, i < N → P i k
  | 0, _ => ⟨0, fun _ _ _ h => absurd h (by omega)⟩
  | N + 1, h => by
    obtain ⟨a, ha⟩ := common N (fun i hi => h i (by omega))
    obtain ⟨b, hb⟩ := h N (by omega)
    refine ⟨max a b, fun k hk i hi => ?_⟩
    by_cases he : i = N
    · subst he; exact hb k (by omega)
    · exact ha k (by omega) i (by omega)
theorem common2 {P : Nat → Nat → Nat → Prop} (h : ∀ n c : Nat, 1 ≤ n → n ≤ 12 → c < n → ∃ k0, ∀ k, k0 ≤ k → P n c k) : ∃ k0, ∀ k, k0 ≤ k → ∀ n c : Nat, 1 ≤ n → n ≤ 12 → c < n → P n c k := by
  obtain ⟨k0, h0⟩ := common (P := fun n k => 1 ≤ n → ∀ c, c < n → P n c k) 13 (fun n hn => by
    by_cases h1 : 1 ≤ n
    · obtain ⟨k0, hk⟩ := common (P := fun c k => P n c k) n (fun c hc => h n c h1 (by omega) hc)
      exact ⟨k0, fun k hk' _ => hk k hk'⟩
    · exact ⟨0, fun k _ h2 => absurd h2 h1⟩)
  exact ⟨k0, fun k hk n c h1 h2 h3 => h0 k hk n (by omega) h1 c h3⟩
section
variable {gy go by_ bo ry ro ay ao : Int}
def fRes (C : Nat → Nat → Bool) : Int × Int × Int := match fN C 12 1 with
  | some (a, b) => ((a : Int), (b : Int), 0)
  | none => (0, 0, 4)
theorem fRes_is (C : Nat → Nat → Bool) : (∃ a b : Nat, fN C 12 1 = some (a, b) ∧ (fRes C).1 = a ∧ (fRes C).2.1 = b ∧ (fRes C).2.2 = 0) ∨ (fN C 12 1 = none ∧ (fRes C).1 = 0 ∧ (fRes C).2.1 = 0 ∧ (fRes C).2.2 = 4) := by
  unfold fRes
  cases h : fN C 12 1 with
  | none => exact Or.inr ⟨rfl, rfl, rfl, rfl⟩
  | some p => exact Or.inl ⟨p.1, p.2, rfl, rfl, rfl, rfl⟩
/-- The plans that are good enough. -/
def okF (gy go by_ bo ry ro ay ao : Int) (n c : Nat) : Bool := fOk (tkA gy go n c) (tkA by_ bo n c) ry ro ay ao
theorem chances4 : lots_chances.f [⟨gy, go⟩, ⟨by_, bo⟩, ⟨ry, ro⟩, ⟨ay, ao⟩] = some (decide (okC gy go) && decide (okC by_ bo) && decide (okC ry ro) && decide (okC ay ao)) := by
  have e : ∀ y o : Int, okCb y o = decide (okC y o) := fun y o => rfl
  unfold lots_chances.f
  simp only [List.all_cons, List.all_nil, Bool.and_true, e, Bool.and_assoc]
theorem find_yes (hg : okC gy go) (hb : okC by_ bo) (hr : okC ry ro) (ha : okC ay ao) : ∃ k0, ∀ k, k0 ≤ k → FindIs k gy go by_ bo ry ro ay ao (fRes (okF gy go by_ bo ry ro ay ao)).1 (fRes (okF gy go by_ bo ry ro ay ao)).2.1 (fRes (okF gy go by_ bo ry ro ay ao)).2.2 := by
  obtain ⟨k0, h0⟩ := common2 (P := fun n c k => lots_single.f n c = some (singleT n c, singleL n c) ∧ lots_Taken.f k (singleT n c) (singleL n c) gy go = some ((tkA gy go n c).1, (tkA gy go n c).2, 0) ∧ lots_Taken.f k (singleT n c) (singleL n c) by_ bo = some ((tkA by_ bo n c).1, (tkA by_ bo n c).2, 0)) (fun n c h1 h2 h3 => by
    have hs := isS_nat h1 h2 h3
    have ok := (okP_iff _ _).1 (plans hs).2.2.1
    obtain ⟨k1, t1⟩ := Taken_ev ok hg
    obtain ⟨k2, t2⟩ := Taken_ev ok hb
    refine ⟨max k1 k2, fun k hk => ⟨?_, t1 k (by omega), t2 k (by omega)⟩⟩
    unfold lots_single.f
    rw [if_pos ((isS_iff _ _).1 hs)])
  refine ⟨k0, fun k hk => Or.inr ⟨?_, tkA gy go, tkA by_ bo, h0 k hk, fRes_is _⟩⟩
  rw [chances4, decide_eq_true hg, decide_eq_true hb, decide_eq_true hr, decide_eq_true ha]
  rfl
theorem find_no (k : Nat) (h : ¬ (okC gy go ∧ okC by_ bo ∧ okC ry ro ∧ okC ay ao)) : FindIs k gy go by_ bo ry ro ay ao 0 0 2 := by
  refine Or.inl ⟨?_, rfl, rfl, rfl⟩
  rw [chances4]
  congr 1
  by_cases h1 : okC gy go <;> by_cases h2 : okC by_ bo <;> by_cases h3 : okC ry ro <;> by_cases h4 : okC ay ao <;> simp [h1, h2, h3, h4]
  exact h ⟨h1, h2, h3, h4⟩
end
end Go.Proofs.Ytdppnmfljfdhaaa.Pure
