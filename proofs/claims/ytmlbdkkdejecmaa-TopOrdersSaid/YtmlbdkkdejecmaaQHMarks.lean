/- The contract of comfittop.marks: true. It asks fixes.Holds for one works and one formula. -/
import Derived.Test.YtmlbdkkdejecmaaQHReach
set_option linter.unusedVariables false
set_option linter.unusedSimpArgs false
namespace Go.Proofs.Ytmlbdkkdejecmaa.X
open Go.RowKit Go.Proofs.YtmlbdkkdejecmaaW.PrintWords Go.Proofs.YtmlbdkkdejecmaaW.PrintLast Go.Proofs.YtmlbdkkdejecmaaW.PrintMore
attribute [local go_sem] Oper.semAt_some
set_option maxRecDepth 100000 in
set_option maxHeartbeats 8000000 in
theorem isMark.calls (w : World) : Calls Try.prog 86 #[.int .u8 48] w fun e w' => e = .returned (.bool true) ∧ Below w.heap.size w w' := by
  have hB := Below.refl w.heap.size w
  go_enter Try.func86, Try.ntmps86
  go_wp2_with fail
  go_ret
  exact ⟨rfl, hB⟩
set_option maxRecDepth 100000 in
set_option maxHeartbeats 8000000 in
theorem take0.calls (w0 W : World) (g : Nat) (hb : Box w0 g #[.string ⟨#[48]⟩, .string ⟨#[]⟩] 124 W) (hB : Below w0.heap.size w0 W) :
    Calls Try.prog 85 #[.pointer (some ⟨g, 0, none⟩)] W fun e W' => e = .returned (.int .u8 48) ∧ Box w0 g #[.string ⟨#[]⟩, .string ⟨#[]⟩] 124 W' ∧ Below w0.heap.size w0 W' := by
  have HX := Aside0.mk hb
  have HB := Aside0.mk hB
  clear hb hB
  have c0 := HX.out.cell 0 rfl
  have f0 := HX.out.frozen 0
  go_enter Try.func85, Try.ntmps85
  go_wp2_with fail
  go_ret
  exact ⟨rfl, HX.out.put 0 _, below_set' HB.out HX.out.1 _⟩
set_option maxRecDepth 100000 in
set_option maxHeartbeats 8000000 in
theorem read0.calls (w0 W : World) (g : Nat) (hb : Box w0 g #[.string ⟨#[48]⟩, .string ⟨#[]⟩] 124 W) (hB : Below w0.heap.size w0 W) :
    Calls Try.prog 84 #[.pointer (some ⟨g, 0, none⟩)] W fun e W' => ∃ gf, e = .returned (.pointer (some ⟨gf, 0, none⟩)) ∧ Box w0 gf #[.int .u8 48, .int .i64 0, .int .u8 0, .slice none 0 0] 112 W' ∧ Box w0 g #[.string ⟨#[]⟩, .string ⟨#[]⟩] 124 W' ∧ Below w0.heap.size w0 W' := by
  have HX := Aside0.mk hb
  have HB := Aside0.mk hB
  clear hb hB
  go_enter Try.func84, Try.ntmps84
  go_wp2_with fail
  refine (take0.calls w0 _ g HX.out HB.out).mono ?_
  rintro e w1 ⟨rfl, hX, hb⟩
  have HX1 := Aside0.mk hX
  have HB1 := Aside0.mk hb
  clear hX hb HX HB
  go_wp2_with fail
  refine (isMark.calls _).mono ?_
  rintro e w2 ⟨rfl, hb⟩
  have HX2 := Aside0.mk (HX1.out.below hb)
  have HB2 := Aside0.mk (below_step HB1.out hb)
  clear hb HX1 HB1
  have BF := Aside0.mk (Box.new HB2.out #[.int .u8 48, .int .i64 0, .int .u8 0, .slice none 0 0] 112)
  go_wp2_with fail
  go_ret
  exact ⟨_, rfl, BF.out, HX2.out.alloc _, below_alloc HB2.out _⟩
set_option maxRecDepth 100000 in
set_option maxHeartbeats 8000000 in
theorem parse0.calls (w : World) :
    Calls Try.prog 74 #[.string ⟨#[48]⟩, .int .i64 40] w fun e W' => ∃ gf, e = .returned (.pointer (some ⟨gf, 0, none⟩)) ∧ Box w gf #[.int .u8 48, .int .i64 0, .int .u8 0, .slice none 0 0] 112 W' ∧ Below w.heap.size w W' := by
  have HX := Aside0.mk (Box.new (Below.refl w.heap.size w) #[.string ⟨#[48]⟩, .string ⟨#[]⟩] 124)
  have HB := Aside0.mk (below_alloc (Below.refl w.heap.size w) (.cells #[.string ⟨#[48]⟩, .string ⟨#[]⟩] 124))
  go_enter Try.func74, Try.ntmps74
  go_wp2_with fail
  refine (read0.calls w _ _ HX.out HB.out).mono ?_
  rintro e w1 ⟨gf, rfl, hF, hX, hb⟩
  have HF1 := Aside0.mk hF
  have HX1 := Aside0.mk hX
  have HB1 := Aside0.mk hb
  clear hX hb HX HB hF
  have c0 := HX1.out.cell 0 rfl
  go_wp2_with fail
  go_ret
  exact ⟨_, rfl, HF1.out, HB1.out⟩
theorem valid0 : fixes_Works_valid.f 100 [2, 1] [0, 1] = some true := by decide +kernel
set_option maxRecDepth 100000 in
set_option maxHeartbeats 8000000 in
theorem fread0.calls (w : World) (a0 a1 : Addr) (hr0 : Kd.C (Kd.int .i64) w (some a0) 2 [2, 1]) (hr1 : Kd.C (Kd.int .i64) w (some a1) 2 [0, 1]) :
    Calls Try.prog 58 #[.agg #[.slice (some a0) 2 2, .slice (some a1) 2 2], .string ⟨#[48]⟩] w fun e W' => ∃ gf, e = .returned (.tuple #[.pointer (some ⟨gf, 0, none⟩), .int .i64 0]) ∧ Box w gf #[.int .u8 48, .int .i64 0, .int .u8 0, .slice none 0 0] 112 W' ∧ Below w.heap.size w W' := by
  have HR0 := Aside0.mk hr0
  have HR1 := Aside0.mk hr1
  clear hr0 hr1
  have HX := Aside0.mk (Box.new (Below.refl w.heap.size w) #[.slice (some a0) 2 2, .slice (some a1) 2 2] 73)
  have HB := Aside0.mk (below_alloc (Below.refl w.heap.size w) (.cells #[.slice (some a0) 2 2, .slice (some a1) 2 2] 73))
  have c0 := HX.out.cell 0 rfl
  have c1 := HX.out.cell 1 rfl
  go_enter Try.func58, Try.ntmps58
  go_wp2_with fail
  refine (fixes_Works_valid.calls 100 (some a0) 2 [2, 1] (some a1) 2 [0, 1] true _ (Kd.C_below HR0.out HB.out) (by decide) (Kd.C_below HR1.out HB.out) (by decide) valid0).mono ?_
  rintro e w1 ⟨rfl, hb⟩
  have HB1 := Aside0.mk (below_step HB.out hb)
  clear hb HX HB c0 c1
  go_wp2_with fail
  refine (parse0.calls _).mono ?_
  rintro e w2 ⟨gf, rfl, hF, hb⟩
  have HF2 := Aside0.mk hF
  have HB2 := Aside0.mk (below_step HB1.out hb)
  have HG : Aside0 (w.heap.size ≤ gf) := ⟨Nat.le_trans HB1.out.size hF.1⟩
  clear hb hF HB1
  go_wp2_with fail
  go_ret2
  exact ⟨_, rfl, ⟨HG.out, HF2.out.2⟩, HB2.out⟩
set_option maxRecDepth 100000 in
set_option maxHeartbeats 8000000 in
theorem mark1.calls (A1 : Option Addr) (l1 : List Int) (c1 : Nat) (g2 g4 gf : Nat) (i : Nat) (W : World) (hr : Kd.C (Kd.int .i64) W A1 l1.length l1) (hi : i < l1.length) (hl : l1.length ≤ 6) (h2 : W.cell? ⟨g2, 1, none⟩ = some (.slice A1 l1.length c1)) (h4 : W.cell? ⟨g4, 0, none⟩ = some (.pointer (some ⟨gf, 0, none⟩))) (hf : W.cell? ⟨gf, 1, none⟩ = some (.int .i64 0)) :
    Calls Try.prog 75 #[.int .i64 (i : Int), .pointer (some ⟨g2, 0, none⟩), .pointer (some ⟨g4, 0, none⟩)] W fun e W' => e = .returned (.bool (Go.bits .and .i64 (shr .i64 (rd l1 (i : Int)) 0) 1 == 1)) ∧ Below W.heap.size W W' := by
  have hib : decide ((i : Int) < (l1.length : Int)) = true := decide_eq_true (by omega)
  have hip : ((i : Int) < (l1.length : Int)) = True := eq_true (by omega)
  have hi0 : decide (0 ≤ (i : Int)) = true := decide_eq_true (by omega)
  obtain ⟨ad, rfl, e0⟩ := Kd.at_int hr (i : Int) (by omega) (by omega)
  generalize rd l1 (i : Int) = x at e0 ⊢
  simp only [Int.toNat_natCast] at e0
  clear hr
  go_enter Try.func75, Try.ntmps75
  go_wp2_with fail
  go_quiet (fail)
  go_wp2_with fail
  go_ret
  exact ⟨by first | rfl | (simp [shr]; done), by repeat (first | exact Below.refl _ _ | apply pw_below_drewN | apply below_drew1)⟩
theorem whB0 : whB (fun i => Go.bits .and .i64 (shr .i64 (rd [0, 1] (i : Int)) 0) 1 == 1) 2 0 0 = 2 := by decide +kernel
set_option maxRecDepth 100000 in
set_option maxHeartbeats 8000000 in
theorem holds0.calls (w : World) (a0 a1 : Addr) (gf gm : Nat) (hr0 : Kd.C (Kd.int .i64) w (some a0) 2 [2, 1]) (hr1 : Kd.C (Kd.int .i64) w (some a1) 2 [0, 1]) (hF0 : w.cell? ⟨gf, 0, none⟩ = some (.int .u8 48)) (hF1 : w.cell? ⟨gf, 1, none⟩ = some (.int .i64 0)) :
    Calls Try.prog 59 #[.agg #[.slice (some a0) 2 2, .slice (some a1) 2 2], .pointer (some ⟨gf, 0, none⟩), .map (some gm)] w fun e W' => e = .returned (.int .i64 2) ∧ Below w.heap.size w W' := by
  have HR0 := Aside0.mk hr0
  have HR1 := Aside0.mk hr1
  have HF1 := Aside0.mk hF1
  clear hr0 hr1
  have HB1 := Aside0.mk (below_alloc (Below.refl w.heap.size w) (.cells #[.slice (some a0) 2 2, .slice (some a1) 2 2] 73))
  have HX := Aside0.mk ((Box.new (Below.refl w.heap.size w) #[.slice (some a0) 2 2, .slice (some a1) 2 2] 73).alloc (.cells #[.pointer (some ⟨gf, 0, none⟩)] 94))
  have HY := Aside0.mk (Box.new HB1.out #[.pointer (some ⟨gf, 0, none⟩)] 94)
  have HB := Aside0.mk (below_alloc HB1.out (.cells #[.pointer (some ⟨gf, 0, none⟩)] 94))
  simp only [World.size_alloc] at HY
  have c0 := HX.out.cell 0 rfl
  have c1 := HX.out.cell 1 rfl
  have d0 := HY.out.cell 0 rfl
  have f0 := cell_keep3 hF0 HB.out
  clear hF0 hF1
  go_enter Try.func59, Try.ntmps59
  go_wp2_with fail
  refine (where75.calls (some a0) (some a1) [2, 1] [0, 1] 2 2 ⟨w.heap.size, 0, none⟩ ⟨w.heap.size + 1, 0, none⟩ (fun i => Go.bits .and .i64 (shr .i64 (rd [0, 1] (i : Int)) 0) 1 == 1) _ (by decide) (fun W5 h5 j hj => mark1.calls (some a1) [0, 1] 2 _ _ gf j W5 (Kd.C_below HR1.out (below_step HB.out h5)) hj (by decide) ((HX.out.below h5).cell 1 rfl) ((HY.out.below h5).cell 0 rfl) (cell_keep3 HF1.out (below_step HB.out h5))) 2 whB0).mono ?_
  rintro e w1 ⟨rfl, hb⟩
  have HB2 := Aside0.mk (below_step HB.out hb)
  clear hb c0 c1 d0 f0
  go_wp2_with fail
  go_ret
  exact ⟨rfl, HB2.out⟩
set_option maxRecDepth 100000 in
set_option maxHeartbeats 8000000 in
theorem Holds0.calls (w : World) (a0 a1 : Addr) (hr0 : Kd.C (Kd.int .i64) w (some a0) 2 [2, 1]) (hr1 : Kd.C (Kd.int .i64) w (some a1) 2 [0, 1]) :
    Calls Try.prog 39 #[.agg #[.slice (some a0) 2 2, .slice (some a1) 2 2], .string ⟨#[48]⟩] w fun e W' => e = .returned (.tuple #[.int .i64 2, .int .i64 0]) ∧ Below w.heap.size w W' := by
  have HR0 := Aside0.mk hr0
  have HR1 := Aside0.mk hr1
  clear hr0 hr1
  have hmm := @run_makeMap Try.prog
  have HX := Aside0.mk (Box.new (Below.refl w.heap.size w) #[.slice (some a0) 2 2, .slice (some a1) 2 2] 73)
  have HB := Aside0.mk (below_alloc (Below.refl w.heap.size w) (.cells #[.slice (some a0) 2 2, .slice (some a1) 2 2] 73))
  have c0 := HX.out.cell 0 rfl
  have c1 := HX.out.cell 1 rfl
  go_enter Try.func39, Try.ntmps39
  go_wp2_with fail
  refine (fread0.calls _ a0 a1 (Kd.C_below HR0.out HB.out) (Kd.C_below HR1.out HB.out)).mono ?_
  rintro e w1 ⟨gf, rfl, hF, hb⟩
  have HF1 := Aside0.mk hF
  have HX1 := Aside0.mk (HX.out.below hb)
  have HB1 := Aside0.mk (below_step HB.out hb)
  clear hb hF HX HB c0 c1
  have c0 := HX1.out.cell 0 rfl
  have c1 := HX1.out.cell 1 rfl
  go_wp2_with fail
  have HBm : Aside0 (Below w1.heap.size w1 (w1.alloc (.map #[] 0))) := ⟨below_alloc (Below.refl _ _) _⟩
  refine (holds0.calls _ a0 a1 gf _ (Kd.C_below (Kd.C_below HR0.out HB1.out) HBm.out) (Kd.C_below (Kd.C_below HR1.out HB1.out) HBm.out) ((HF1.out.below HBm.out).cell 0 rfl) ((HF1.out.below HBm.out).cell 1 rfl)).mono ?_
  rintro e w2 ⟨rfl, hb⟩
  have HB2 := Aside0.mk (below_step (below_step HB1.out HBm.out) hb)
  clear hb c0 c1
  go_wp2_with fail
  go_ret2
  exact ⟨rfl, HB2.out⟩
theorem C_two (g : Nat) (a b : Int) (W : World) (h : W.cell? ⟨g, 0, none⟩ = some (.int .i64 a)) (h2 : W.cell? ⟨g, 1, none⟩ = some (.int .i64 b)) : Kd.C (Kd.int .i64) W (some ⟨g, 0, none⟩) 2 [a, b] :=
  Kd.C_of_reads (d := 0) ⟨rfl, by simp, fun _ => ⟨_, rfl, fun j hj => by
    have : j = 0 ∨ j = 1 := by omega
    rcases this with rfl | rfl
    · exact h
    · exact h2⟩⟩
def comfittop_marks.f : Option Bool := some true
set_option maxRecDepth 100000 in
set_option maxHeartbeats 8000000 in
theorem comfittop_marks.calls (r : Bool) (w : World) (h : comfittop_marks.f = some r) :
    Calls Try.prog 14 #[] w fun e W' => e = .returned (.bool r) ∧ Below w.heap.size w W' := by
  obtain rfl : true = r := Option.some.inj h
  clear h
  have HB1 := Aside0.mk (below_alloc (Below.refl w.heap.size w) (.cells #[.int .i64 2, .int .i64 1] 3))
  have HX := Aside0.mk ((Box.new (Below.refl w.heap.size w) #[.int .i64 2, .int .i64 1] 3).alloc (.cells #[.int .i64 0, .int .i64 1] 3))
  have HY := Aside0.mk (Box.new HB1.out #[.int .i64 0, .int .i64 1] 3)
  have HB := Aside0.mk (below_alloc HB1.out (.cells #[.int .i64 0, .int .i64 1] 3))
  simp only [World.size_alloc] at HY
  go_enter Try.func14, Try.ntmps14
  go_wp2_with fail
  refine (Holds0.calls _ ⟨w.heap.size, 0, none⟩ ⟨w.heap.size + 1, 0, none⟩ (C_two _ _ _ _ (HX.out.cell 0 rfl) (HX.out.cell 1 rfl)) (C_two _ _ _ _ (HY.out.cell 0 rfl) (HY.out.cell 1 rfl))).mono ?_
  rintro e w1 ⟨rfl, hb⟩
  have HB2 := Aside0.mk (below_step HB.out hb)
  clear hb
  go_wp2_with fail
  go_ret
  exact ⟨rfl, HB2.out⟩
end Go.Proofs.Ytmlbdkkdejecmaa.X
