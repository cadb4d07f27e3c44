/- The contract of tables.grammar.empty at the grammar A -> b: no part is empty. -/
import Derived.Test.YtmlbdkkdejecmaaDoorQHBoxes
import Derived.Test.YtmlbdkkdejecmaaDoorQXT
import Derived.Laws.RangeString
set_option linter.unusedVariables false
set_option linter.unusedSimpArgs false
namespace Go.Proofs.YtmlbdkkdejecmaaDoor.X
open Go.RowKit Go.Proofs.YtmlbdkkdejecmaaDoorW.PrintWords Go.Proofs.YtmlbdkkdejecmaaDoorW.PrintLast Go.Proofs.YtmlbdkkdejecmaaDoorW.PrintMore
attribute [local go_sem] Oper.semAt_some
set_option maxRecDepth 100000 in
set_option maxHeartbeats 8000000 in
theorem has98.calls (x : Int) (w : World) : Calls Tryd.prog 45 #[.int .i64 x, .int .u8 98] w fun e w' => e = .returned (.bool false) ∧ Below w.heap.size w w' := by
  go_enter Tryd.func45, Tryd.ntmps45
  go_wp2_with fail
  refine (tables_isPart.calls 98 false _ (by decide)).mono ?_
  rintro e w1 ⟨rfl, ⟨nd, rfl⟩⟩
  go_wp2_with fail
  go_ret
  exact ⟨by first | rfl | simp, by repeat (first | exact Below.refl _ _ | apply pw_below_drewN | apply below_drew1)⟩
set_option maxRecDepth 100000 in
set_option maxHeartbeats 8000000 in
theorem not98.calls (p : Addr) (x : Int) (w : World) (hp : w.cell? p = some (.int .i64 x)) : Calls Tryd.prog 44 #[.int .i32 98, .pointer (some p)] w fun e w' => e = .returned (.bool true) ∧ Below w.heap.size w w' := by
  go_enter Tryd.func44, Tryd.ntmps44
  go_wp2_with fail
  refine (has98.calls x _).mono ?_
  rintro e w1 ⟨rfl, hb⟩
  go_wp2_with fail
  go_ret
  exact ⟨by first | rfl | simp, hb⟩
set_option maxRecDepth 100000 in
set_option maxHeartbeats 8000000 in
theorem index98.calls (p : Addr) (x : Int) (w : World) (hp : w.cell? p = some (.int .i64 x)) : Calls Tryd.prog 50 #[.string ⟨#[98]⟩, .func (.func 44) #[] #[.pointer (some p)], .bool true] w fun e w' => e = .returned (.int .i64 0) ∧ Below w.heap.size w w' := by
  have hu9 := Tryd.underlying9
  have hn : ∀ ty, (Instr.next (.pointer (some ⟨w.heap.size, 0, none⟩)) true ty).run Tryd.prog (w.iter ⟨#[98]⟩ 0) = .ok (.tuple #[.bool true, .int .i64 0, .int .i32 98]) (w.iter ⟨#[98]⟩ 1) := fun ty => run_next_ascii (P := Tryd.prog) w ⟨#[98]⟩ 0 ty (by decide) (by decide)
  have hb : Below w.heap.size w (w.iter ⟨#[98]⟩ 1) := below_alloc (Below.refl _ _) _
  have hp2 : (w.iter ⟨#[98]⟩ 1).cell? p = some (.int .i64 x) := (hb.cell (World.block_lt_of_cell? w _ hp)).trans hp
  have HB := Aside0.mk hb
  have HP := Aside0.mk hp2
  clear hb hp2
  go_enter Tryd.func50, Tryd.ntmps50
  go_wp2_with fail
  go_loopw [7, 8] (fun v7 v8 W => W = w.iter ⟨#[98]⟩ 0) (fun _ _ _ => 0)
  case atStart => rfl
  case round =>
    subst hrel
    go_wp2_with fail
    refine (not98.calls p x _ HP.out).mono ?_
    rintro e w2 ⟨rfl, hb⟩
    go_wp2_with fail
    go_ret
    exact ⟨by first | rfl | simp, below_step HB.out hb⟩
set_option maxRecDepth 100000 in
set_option maxHeartbeats 8000000 in
theorem indexFunc98.calls (p : Addr) (x : Int) (w : World) (hp : w.cell? p = some (.int .i64 x)) : Calls Tryd.prog 43 #[.string ⟨#[98]⟩, .func (.func 44) #[] #[.pointer (some p)]] w fun e w' => e = .returned (.int .i64 0) ∧ Below w.heap.size w w' := by
  go_enter Tryd.func43, Tryd.ntmps43
  go_wp2_with fail
  refine (index98.calls p x _ hp).mono ?_
  rintro e w1 ⟨rfl, hb⟩
  go_wp2_with fail
  go_ret
  exact ⟨by first | rfl | simp, hb⟩
set_option maxRecDepth 100000 in
set_option maxHeartbeats 8000000 in
theorem is98.calls (x : Int) (w : World) : Calls Tryd.prog 42 #[.string ⟨#[98]⟩, .int .i64 x] w fun e w' => e = .returned (.bool false) ∧ Below w.heap.size w w' := by
  have B3 := Aside0.mk (Box.new (Below.refl w.heap.size w) #[.int .i64 x] 3)
  have HB := Aside0.mk (below_alloc (Below.refl w.heap.size w) (.cells #[.int .i64 x] 3))
  go_enter Tryd.func42, Tryd.ntmps42
  go_wp2_with fail
  refine (indexFunc98.calls _ x _ (B3.out.cell 0 rfl)).mono ?_
  rintro e w1 ⟨rfl, hb⟩
  go_wp2_with fail
  go_ret
  exact ⟨by first | rfl | simp, below_step HB.out hb⟩
def agM : Value → Nat
  | .bool true => 1
  | _ => 0
def ruleB : List S32 := [⟨65, ⟨#[98]⟩⟩]
theorem meas_e (n j : Nat) (x : Int) (hx : x = ((j + 1 : Nat) : Int)) (h : j < n) : n - (intOf (.int .i64 x)).toNat < n - (intOf (.int .i64 (j : Int))).toNat := by
  subst hx
  simp only [intOf, Int.toNat_natCast]
  omega
set_option maxRecDepth 100000 in
set_option maxHeartbeats 8000000 in
theorem grownB.calls (A0 : Option Addr) (c0 : Nat) (w : World) (hr : Kd.C k32 w A0 1 ruleB) :
    Calls Tryd.prog 41 #[.slice A0 1 c0, .func (.func 42) #[] #[]] w fun e w' => e = .returned (.int .i64 0) ∧ Below w.heap.size w w' := by
  have hu32 := Tryd.underlying32
  have HR := Aside0.mk hr
  clear hr
  go_enter Tryd.func41, Tryd.ntmps41
  go_wp2_with fail
  go_loopw [5, 6] (fun v5 v6 W => ∃ ag : Bool, v5 = .int .i64 0 ∧ v6 = .bool ag ∧ Aside0 (Below w.heap.size w W)) (fun _ v6 _ => agM v6)
  case atStart => exact ⟨true, rfl, rfl, ⟨Below.refl _ _⟩⟩
  case round =>
    obtain ⟨ag, rfl, rfl, HB⟩ := hrel
    cases ag with
    | false =>
      go_wp2_with fail
      go_ret
      exact ⟨by first | rfl | simp, HB.out⟩
    | true =>
      go_wp2_with fail
      go_loopw [5, 6, 13] (fun v5 v6 v13 W => ∃ i : Nat, v13 = .int .i64 (i : Int) ∧ i ≤ 1 ∧ v5 = .int .i64 0 ∧ v6 = .bool false ∧ Aside0 (Below w.heap.size w W)) (fun _ _ v13 _ => 1 - (intOf v13).toNat)
      case atStart => exact ⟨0, rfl, by omega, rfl, rfl, HB⟩
      case round =>
        clear HB
        obtain ⟨i, rfl, hi, rfl, rfl, HB⟩ := hrel
        by_cases hil : i < 1
        · have hib : decide ((i : Int) < 1) = true := decide_eq_true (by omega)
          have hip : ((i : Int) < 1) = True := eq_true (by omega)
          have hi0 : (0 ≤ (i : Int)) = True := eq_true (by omega)
          obtain ⟨ad, e0, h0, h1⟩ := at_T32 HR.out (i : Int) (by omega) (by omega)
          cases e0
          have hv : rd_T32 ruleB (i : Int) = ⟨65, ⟨#[98]⟩⟩ := by
            obtain rfl : i = 0 := by omega
            rfl
          rw [hv] at h0 h1
          rw [Int.toNat_natCast] at h0 h1
          replace h0 := (HB.out.cell (World.block_lt_of_cell? w _ h0)).trans h0
          replace h1 := (HB.out.cell (World.block_lt_of_cell? w _ h1)).trans h1
          have h97 : ¬ (0 : Int) < 0 := by omega
          go_wp2_with fail
          refine (is98.calls 0 _).mono ?_
          rintro e w2 ⟨rfl, hb⟩
          have HB2 := Aside0.mk (below_step (below_alloc HB.out (.cells #[.int .u8 65, .string ⟨#[98]⟩] 32)) hb)
          clear hb
          go_wp2_with fail
          exact ⟨⟨i + 1, by first | rfl | (congr 1 <;> omega), hil, rfl, rfl, HB2⟩, meas_e 1 i _ (by first | omega | (unfold wrap64; omega)) hil⟩
        · have hib : decide ((i : Int) < 1) = false := decide_eq_false (by omega)
          have hip : ((i : Int) < 1) = False := eq_false (by omega)
          go_wp2_with fail
          exact ⟨⟨false, rfl, rfl, HB⟩, by simp [agM]⟩
def isB (l : List S32) : Bool := match l with
  | [x] => x.f0 == 65 && x.f1.data.toList == [98]
  | _ => false
theorem isB_eq {l : List S32} (h : isB l = true) : l = ruleB := by
  unfold isB at h
  split at h
  · rename_i x
    obtain ⟨f0, ⟨⟨l1⟩⟩⟩ := x
    simp at h
    obtain ⟨rfl, rfl⟩ := h
    rfl
  · cases h
def tables_grammar_empty.f (l : List S32) : Option Int := if isB l = true then some 0 else none
set_option maxRecDepth 100000 in
set_option maxHeartbeats 8000000 in
theorem tables_grammar_empty.calls (A0 : Option Addr) (c0 : Nat) (l0 : List S32) (r : Int) (w : World) (hr0 : Kd.C k32 w A0 l0.length l0) (hc0 : l0.length ≤ c0) (h : tables_grammar_empty.f l0 = some r) :
    Calls Tryd.prog 29 #[.slice A0 l0.length c0] w fun e w' => e = .returned (.int .i64 r) ∧ Below w.heap.size w w' := by
  unfold tables_grammar_empty.f at h
  split at h
  · rename_i hl
    obtain rfl := isB_eq hl
    obtain rfl := Option.some.inj h
    have HR := Aside0.mk hr0
    clear hr0 h hc0
    have hlen : ruleB.length = 1 := rfl
    rw [hlen] at HR ⊢
    go_enter Tryd.func29, Tryd.ntmps29
    go_wp2_with fail
    refine (grownB.calls A0 c0 _ HR.out).mono ?_
    rintro e w1 ⟨rfl, hb⟩
    go_wp2_with fail
    go_ret
    exact ⟨by first | rfl | simp, hb⟩
  · cases h
end Go.Proofs.YtmlbdkkdejecmaaDoor.X
