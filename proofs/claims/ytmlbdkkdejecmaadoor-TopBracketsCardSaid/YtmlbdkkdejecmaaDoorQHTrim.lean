/- The contract of strings.Trim at letters below 128. -/
import Derived.Test.YtmlbdkkdejecmaaDoorQX0
import Derived.Ground.NamesProg
import Derived.Shelf.Lay
import Derived.Shelf.Strings.SlTrimAscii
namespace Go.Proofs
open Go.Shelf
shelf_lay Lays.n160 Nm 160 at Tryd as Tryd.lays160
end Go.Proofs
set_option linter.unusedVariables false
set_option linter.unusedSimpArgs false
namespace Go.Proofs.YtmlbdkkdejecmaaDoor.X
open Go.RowKit Go.Shelf
def strings_Trim.f (s cs : ByteArray) : Option ByteArray := if s.size ≤ 9223372036854775807 ∧ cs.size < 4294967281 ∧ (∀ b ∈ cs.data.toList, b.toNat < 128) then some ⟨(Lib.trimS s.data.toList cs.data.toList).toArray⟩ else none
theorem strings_Trim.calls (s cs : ByteArray) (r : ByteArray) (w : World) (h : strings_Trim.f s cs = some r) :
    Calls Tryd.prog 23 #[.string s, .string cs] w fun e w' => e = .returned (.string r) ∧ Below w.heap.size w w' := by
  unfold strings_Trim.f at h
  split at h
  · rename_i hc
    obtain rfl := Option.some.inj h
    exact Any.strings_Trim_laid Tryd.lays160 (by kernel_rfl) s cs w hc.1 hc.2.1 (fun j b hb => hc.2.2 b (List.mem_of_getElem? hb))
  · cases h
end Go.Proofs.YtmlbdkkdejecmaaDoor.X
