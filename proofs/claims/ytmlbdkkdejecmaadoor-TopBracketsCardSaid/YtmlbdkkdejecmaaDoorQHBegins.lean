/- The contract of tables.sets.begins at the letters "b": a word. -/
import Derived.Test.YtmlbdkkdejecmaaDoorQHBoxes
import Derived.Test.YtmlbdkkdejecmaaDoorQXT
set_option linter.unusedVariables false
set_option linter.unusedSimpArgs false
namespace Go.Proofs.YtmlbdkkdejecmaaDoor.X
open Go.RowKit Go.Proofs.YtmlbdkkdejecmaaDoorW.PrintWords Go.Proofs.YtmlbdkkdejecmaaDoorW.PrintLast Go.Proofs.YtmlbdkkdejecmaaDoorW.PrintMore
attribute [local go_sem] Oper.semAt_some
def tables_sets_begins.f (a b c d e : Int) (right : ByteArray) (empty : Int) : Option (Int × Bool) := if (right.data.toList == [98] && empty == 0) = true then some (2, false) else none
set_option maxRecDepth 100000 in
set_option maxHeartbeats 8000000 in
theorem begins98.calls (a b c d e : Int) (w : World) :
    Calls Tryd.prog 30 #[.agg #[.int .i64 a, .int .i64 b, .int .i64 c, .int .i64 d, .int .i64 e], .string ⟨#[98]⟩, .int .i64 0] w fun e w' => e = .returned (.tuple #[.int .i64 2, .bool false]) ∧ Below w.heap.size w w' := by
  have hu52 := Tryd.underlying52
  have kb := fun W => print_bytes (P := Tryd.prog) 9 85 5 Tryd.underlying9 Tryd.underlying85 Tryd.underlying5 ⟨#[98]⟩ W
  have HB := Aside0.mk (below_alloc (Below.refl w.heap.size w) (.cells #[.int .i64 a, .int .i64 b, .int .i64 c, .int .i64 d, .int .i64 e] 52))
  have hs1 : (⟨#[98]⟩ : ByteArray).size = 1 := rfl
  rw [hs1] at kb
  go_enter Tryd.func30, Tryd.ntmps30
  go_wp2_with fail
  generalize grownCap _ 1 0 5 = cap
  have HB2 := Aside0.mk (bytes_below HB.out (by rw [World.size_alloc]; omega) 5 ⟨#[98]⟩)
  have hc : (Lib.bytesWorld (w.alloc (.cells #[.int .i64 a, .int .i64 b, .int .i64 c, .int .i64 d, .int .i64 e] 52)) 5 ⟨#[98]⟩).cell? ⟨w.heap.size + 1, 0, none⟩ = some (.int .u8 98) := by
    have h1 := (bytes_reads (w.alloc (.cells #[.int .i64 a, .int .i64 b, .int .i64 c, .int .i64 d, .int .i64 e] 52)) 5 ⟨#[98]⟩ (by rw [hs1]; omega)).2.2 (by rw [hs1]; omega)
    obtain ⟨ad, e1, h2⟩ := h1
    obtain rfl := Option.some.inj e1
    have h3 := h2 0 (by rw [hs1]; omega)
    rw [World.size_alloc] at h3
    exact h3
  generalize Lib.bytesWorld (w.alloc (.cells #[.int .i64 a, .int .i64 b, .int .i64 c, .int .i64 d, .int .i64 e] 52)) 5 ⟨#[98]⟩ = w1 at hc HB2 ⊢
  clear kb HB
  go_loopw [6, 7, 13] (fun v6 v7 v13 W => v6 = .int .i64 0 ∧ v7 = .bool false ∧ v13 = .int .i64 0 ∧ W = w1) (fun _ _ _ _ => 0)
  case atStart => exact ⟨rfl, rfl, rfl, rfl⟩
  case round =>
    obtain ⟨rfl, rfl, rfl, hW⟩ := hrel
    subst hW
    go_wp2_with fail
    refine (tables_isPart.calls 98 false _ (by decide)).mono ?_
    rintro e w2 ⟨rfl, ⟨nd, rfl⟩⟩
    have h97 : ¬ (1 : Int) < 0 := by omega
    go_wp2_with fail
    go_ret2
    exact ⟨by first | rfl | simp, by repeat (first | exact HB2.out | apply pw_below_drewN | apply below_drew1)⟩
theorem tables_sets_begins.calls (a b c d e : Int) (right : ByteArray) (empty : Int) (r1 : Int) (r2 : Bool) (w : World) (h : tables_sets_begins.f a b c d e right empty = some (r1, r2)) :
    Calls Tryd.prog 30 #[.agg #[.int .i64 a, .int .i64 b, .int .i64 c, .int .i64 d, .int .i64 e], .string right, .int .i64 empty] w fun e w' => e = .returned (.tuple #[.int .i64 r1, .bool r2]) ∧ Below w.heap.size w w' := by
  unfold tables_sets_begins.f at h
  split at h
  · rename_i hc
    obtain ⟨⟨l⟩⟩ := right
    simp at hc
    obtain ⟨rfl, rfl⟩ := hc
    have h2 := Option.some.inj h
    obtain ⟨rfl, rfl⟩ := Prod.mk.inj h2
    exact begins98.calls a b c d e w
  · cases h
end Go.Proofs.YtmlbdkkdejecmaaDoor.X
