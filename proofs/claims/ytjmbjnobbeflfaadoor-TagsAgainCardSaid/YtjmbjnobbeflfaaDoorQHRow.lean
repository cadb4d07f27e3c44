/- Arguments of the laws laid open: four strings in an array. -/
import Derived.Test.YtjmbjnobbeflfaaDoorQX0
import Derived.WalkKit
import Derived.ProofKit
import Derived.OpenShut
import Derived.ShutString
import Derived.ChangeOld
import Derived.Below
import Derived.SizedLaws
import Derived.Lib.SmallJoins
import Derived.Deep.Slices
import Derived.Deep.Fields
import Derived.ChangeSame
set_option linter.unusedVariables false
set_option linter.unusedSimpArgs false
namespace Go.Proofs.YtjmbjnobbeflfaaDoor.X
open Go.RowKit Go.ChangeShapes Go.WideShapes Go.ChangeAt
section
variable {H : Type} {enc : TypeId × Value → H} {W : World} {base : Nat} {v : Value} {d : DataW H} {p : List MemPlace}
theorem okWide_array {P : Program} {w : World} {r : Reach} {b0 : Nat} {t e : TypeId} {n : Nat} {v : Value} (ht : P.underlying t = some (.array n e)) (h : Value.okWide P w r b0 t v) : ∃ cs, v = .agg cs ∧ cs.size = P.cellsOf t := by
  simp only [Value.okWide, ht] at h
  obtain ⟨cs, h1, h2, _⟩ := h
  exact ⟨cs, h1, h2⟩
theorem cells22 : Tryd.prog.cellsOf 22 = 4 := by kernel_rfl
theorem cells9 : Tryd.prog.cellsOf 9 = 1 := by kernel_rfl
set_option maxRecDepth 100000 in
theorem open_str4 (hv : Value.okWide Tryd.prog W .any base 22 v) (h : DataW.Trod enc Tryd.prog W 0 (fun _ => true) true 22 v d p) :
    ∃ a b c e : ByteArray, v = .agg #[.string a, .string b, .string c, .string e] ∧ a.size ≤ maxLen ∧ b.size ≤ maxLen ∧ c.size ≤ maxLen ∧ e.size ≤ maxLen := by
  obtain ⟨cs, rfl, hs⟩ := okWide_array Tryd.underlying22 hv
  rw [cells22] at hs
  obtain ⟨l⟩ := cs
  match l, hs with
  | [c0, c1, c2, c3], _ =>
    obtain ⟨fuel, hf⟩ := h
    obtain ⟨xs, n, _, _, _, hlen, hg⟩ := DataW.trod_array Tryd.underlying22 hf
    rw [cells9] at hg
    match xs, hlen with
    | [y0, y1, y2, y3], _ =>
      have h0 := hg 0 (by decide)
      have h1 := hg 1 (by decide)
      have h2 := hg 2 (by decide)
      have h3 := hg 3 (by decide)
      obtain ⟨a, e0, _, wa⟩ := DataW.trod_string (x := y0) Tryd.underlying9 (by simpa [Value.cells] using h0)
      obtain ⟨b, e1, _, wb⟩ := DataW.trod_string (x := y1) Tryd.underlying9 (by simpa [Value.cells] using h1)
      obtain ⟨c, e2, _, wc⟩ := DataW.trod_string (x := y2) Tryd.underlying9 (by simpa [Value.cells] using h2)
      obtain ⟨e, e3, _, we⟩ := DataW.trod_string (x := y3) Tryd.underlying9 (by simpa [Value.cells] using h3)
      simp at e0 e1 e2 e3
      subst e0 e1 e2 e3
      exact ⟨a, b, c, e, rfl, wa, wb, wc, we⟩
end
end Go.Proofs.YtjmbjnobbeflfaaDoor.X
