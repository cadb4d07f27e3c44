/- The walk through the law LotsFinds: told by the results that its calls are known to have. -/
import Derived.Test.YtdppnmfljfdhaaaQHFind
import Derived.Test.YtdppnmfljfdhaaaQHRFind
import Derived.Test.YtdppnmfljfdhaaaQXL
import Derived.Test.YtdppnmfljfdhaaaQXR
import Derived.Test.YtdppnmfljfdhaaaQXcomfitlaw02awake
import Derived.ChangeKeysEq
set_option linter.unusedVariables false
set_option linter.unusedSimpArgs false
namespace Go.Proofs.Ytdppnmfljfdhaaa.X
open Go.RowKit Go.Proofs.YtdppnmfljfdhaaaW.PrintWords Go.Proofs.YtdppnmfljfdhaaaW.PrintLast Go.Proofs.YtdppnmfljfdhaaaW.PrintMore
attribute [local go_sem] max2_int min2_int max_two min_two max_three min_three max_four min_four
attribute [local go_sem] Oper.semAt_some

theorem eqA67' (d : Nat) (w : World) (a b c e : Int) : (Op.equalIn (d + 2) 67 (.agg #[.int .i64 a, .int .i64 b]) (.agg #[.int .i64 c, .int .i64 e])).run Try.prog w = .ok (a == c && (b == e)) w := by
  obtain ⟨i, hi⟩ : ∃ i, Try.prog.info? 3 = some i := by
    have h := info3
    cases hq : Try.prog.info? 3 with
    | none => rw [hq] at h; simp at h
    | some i => exact ⟨i, rfl⟩
  rw [run_equalIn_array w (d + 1) _ _ Try.underlying67 hi]
  rw [show List.range 2 = [0, 1] from rfl, show Try.prog.cellsOf 3 = 1 by kernel_rfl]
  simp only [Op.eqItems]
  go_simp
  by_cases h1 : a = c <;> by_cases h2 : b = e <;> simp [h1, h2]
theorem eqA67 (w : World) (a b c e : Int) : (Op.equalIn 10000 67 (.agg #[.int .i64 a, .int .i64 b]) (.agg #[.int .i64 c, .int .i64 e])).run Try.prog w = .ok (a == c && (b == e)) w := eqA67' 9998 w a b c e
attribute [local go_sem] eqA67
/-- Four variables of two cells, and what lay before. -/
def CQ (g : Nat) (u0 u1 : Value) (g' : Nat) (u2 u3 : Value) (g2 : Nat) (u4 u5 : Value) (g3 : Nat) (u6 u7 : Value) (w w7 W : World) : Prop := W.cell? ⟨g, 0, none⟩ = some u0 ∧ W.cell? ⟨g, 1, none⟩ = some u1 ∧ W.cell? ⟨g', 0, none⟩ = some u2 ∧ W.cell? ⟨g', 1, none⟩ = some u3 ∧
  W.cell? ⟨g2, 0, none⟩ = some u4 ∧ W.cell? ⟨g2, 1, none⟩ = some u5 ∧ W.cell? ⟨g3, 0, none⟩ = some u6 ∧ W.cell? ⟨g3, 1, none⟩ = some u7 ∧ Below w.heap.size w W ∧ Below w7.heap.size w7 W
section
variable {g g' g2 g3 : Nat} {u0 u1 u2 u3 u4 u5 u6 u7 : Value} {w w7 W W1 : World}
theorem CQ.below (h : CQ g u0 u1 g' u2 u3 g2 u4 u5 g3 u6 u7 w w7 W) (hb : Below W.heap.size W W1) : CQ g u0 u1 g' u2 u3 g2 u4 u5 g3 u6 u7 w w7 W1 := by
  obtain ⟨h0, h1, h2, h3, h4, h5, h6, h7, h8, h9⟩ := h
  exact ⟨cell_keep3 h0 hb, cell_keep3 h1 hb, cell_keep3 h2 hb, cell_keep3 h3 hb, cell_keep3 h4 hb, cell_keep3 h5 hb, cell_keep3 h6 hb, cell_keep3 h7 hb, below_step h8 hb, below_step h9 hb⟩
theorem cq_of {t0 t1 t2 t3 : TypeId} {x0 x1 x2 x3 : World} (h0 : Box x0 g #[u0, u1] t0 W) (h1 : Box x1 g' #[u2, u3] t1 W) (h2 : Box x2 g2 #[u4, u5] t2 W) (h3 : Box x3 g3 #[u6, u7] t3 W) (hb : Below w.heap.size w W) (hw : Below W.heap.size W W1) : CQ g u0 u1 g' u2 u3 g2 u4 u5 g3 u6 u7 w W W1 :=
  ⟨(h0.below hw).cell 0 rfl, (h0.below hw).cell 1 rfl, (h1.below hw).cell 0 rfl, (h1.below hw).cell 1 rfl, (h2.below hw).cell 0 rfl, (h2.below hw).cell 1 rfl, (h3.below hw).cell 0 rfl, (h3.below hw).cell 1 rfl, below_step hb hw, hw⟩
end
def fisT.T1 : Bool × List (List Nat × List Nat) := (true, [([], []), ([0], [0]), ([], []), ([2, 1], [2]), ([], []), ([4, 3], [4]), ([], []), ([6, 5], [6]), ([1, 3, 5, 7, 7], [1, 3, 5, 7]), ([8], [8]), ([9], [9]), ([9], [9]), ([], []), ([12, 10, 8, 0, 1, 2, 3, 4, 5, 6, 7, 8, 9, 10, 12], [10, 12]), ([11, 13, 0, 1, 2, 3, 4, 5, 6, 7, 8, 9, 10, 11, 12, 13], [11])])
def fisT.B1 : List Nat := [0, 1, 0, 7, 0, 31, 0, 127, 255, 511, 1023, 1023, 0, 6143, 16383]
theorem fisT.tab1 : rtab .any (opsOf Try.f15 1) = fisT.T1 := by kernel_rfl
theorem fisT.bits1 : waitsOk fisT.T1.2 fisT.B1 = true := by kernel_rfl
set_option maxRecDepth 100000 in
set_option maxHeartbeats 16000000 in
theorem LotsFinds_calls (k : Nat) (gy go by_ bo ry ro ay ao r1 r2 e0 : Int) (i1 i2 i3 i4 : Bool) (w : World)
    (hfind : FindIs k gy go by_ bo ry ro ay ao r1 r2 e0) (haw : comfitlaw02_awake.f k = some true)
    (h1 : comfitref02_Is.f gy go = some i1) (h2 : comfitref02_Is.f by_ bo = some i2) (h3 : comfitref02_Is.f ry ro = some i3) (h4 : comfitref02_Is.f ay ao = some i4)
    (hno : (i1 && i2 && i3 && i4) = false → r1 = 0 ∧ r2 = 0 ∧ e0 = 2) (hyes : (i1 && i2 && i3 && i4) = true → RFindIs k gy go by_ bo ry ro ay ao r1 r2 e0) :
    Calls Try.prog 15 #[.agg #[.int .i64 gy, .int .i64 go], .agg #[.int .i64 by_, .int .i64 bo], .agg #[.int .i64 ry, .int .i64 ro], .agg #[.int .i64 ay, .int .i64 ao]] w fun e w' => e = .returned (.bool true) ∧ Below w.heap.size w w' := by
  have hu26 := Try.underlying26
  have hu34 := Try.underlying34
  have hu67 := Try.underlying67
  have HFI := Aside0.mk hfind
  have HAW := Aside0.mk haw
  have HI1 := Aside0.mk h1
  have HI2 := Aside0.mk h2
  have HI3 := Aside0.mk h3
  have HI4 := Aside0.mk h4
  have HNO := Aside0.mk hno
  have HYES := Aside0.mk hyes
  have HC1 : Aside0 (comfitlaw02_chance.f gy go = some (gy, go)) := ⟨rfl⟩
  have HC2 : Aside0 (comfitlaw02_chance.f by_ bo = some (by_, bo)) := ⟨rfl⟩
  have HC3 : Aside0 (comfitlaw02_chance.f ry ro = some (ry, ro)) := ⟨rfl⟩
  have HC4 : Aside0 (comfitlaw02_chance.f ay ao = some (ay, ao)) := ⟨rfl⟩
  clear hfind haw h1 h2 h3 h4 hno hyes
  have HB := Aside0.mk (below_alloc (below_alloc (below_alloc (below_alloc (Below.refl w.heap.size w) (.cells #[.int .i64 gy, .int .i64 go] 26)) (.cells #[.int .i64 by_, .int .i64 bo] 26)) (.cells #[.int .i64 ry, .int .i64 ro] 26)) (.cells #[.int .i64 ay, .int .i64 ao] 26))
  have B4 := Aside0.mk ((((Box.new (Below.refl w.heap.size w) #[.int .i64 gy, .int .i64 go] 26).alloc (.cells #[.int .i64 by_, .int .i64 bo] 26)).alloc (.cells #[.int .i64 ry, .int .i64 ro] 26)).alloc (.cells #[.int .i64 ay, .int .i64 ao] 26))
  have B5 := Aside0.mk (((Box.new (below_alloc (Below.refl w.heap.size w) (.cells #[.int .i64 gy, .int .i64 go] 26)) #[.int .i64 by_, .int .i64 bo] 26).alloc (.cells #[.int .i64 ry, .int .i64 ro] 26)).alloc (.cells #[.int .i64 ay, .int .i64 ao] 26))
  have B6 := Aside0.mk ((Box.new (below_alloc (below_alloc (Below.refl w.heap.size w) (.cells #[.int .i64 gy, .int .i64 go] 26)) (.cells #[.int .i64 by_, .int .i64 bo] 26)) #[.int .i64 ry, .int .i64 ro] 26).alloc (.cells #[.int .i64 ay, .int .i64 ao] 26))
  have B7 := Aside0.mk (Box.new (below_alloc (below_alloc (below_alloc (Below.refl w.heap.size w) (.cells #[.int .i64 gy, .int .i64 go] 26)) (.cells #[.int .i64 by_, .int .i64 bo] 26)) (.cells #[.int .i64 ry, .int .i64 ro] 26)) #[.int .i64 ay, .int .i64 ao] 26)
  simp only [World.size_alloc] at B5 B6 B7
  go_enter Try.func15, Try.ntmps15
  go_wp2_with fail
  generalize ((((w.alloc (.cells #[.int .i64 gy, .int .i64 go] 26)).alloc (.cells #[.int .i64 by_, .int .i64 bo] 26)).alloc (.cells #[.int .i64 ry, .int .i64 ro] 26)).alloc (.cells #[.int .i64 ay, .int .i64 ao] 26)) = w1 at B4 B5 B6 B7 HB ⊢
  refine start_ (n := 15) (S := CQ w.heap.size (.int .i64 gy) (.int .i64 go) (w.heap.size + 1) (.int .i64 by_) (.int .i64 bo) (w.heap.size + 1 + 1) (.int .i64 ry) (.int .i64 ro) (w.heap.size + 1 + 1 + 1) (.int .i64 ay) (.int .i64 ao) w w1) (ds := []) #[false, false, false, false, false, false, false, false, false, false, false, false, false, false, false] (by kernel_rfl) rfl rfl (cq_of B4.out B5.out B6.out B7.out HB.out (below_drew (Below.refl _ _))) (fun hHeld => ?_)
  refine with_tabW fisT.tab1 fisT.bits1 (fun HT_ HW_ => ?_)
  generalize (World.drew _) = w2 at hHeld ⊢
  refine take_ (i := 0) (N := some 14) (v := ?_) (a' := ?_) #[true, false, false, false, false, false, false, false, false, false, false, false, false, false, false] rfl rfl (take_ofW HT_.out HW_.out (by kernel_rfl)) (fun _ _ _ h => h) (Or.inl ⟨by rfl, ?_⟩) hHeld ?_ ?_
  rotate_left
  · rintro w' ⟨s0, s1, s2, s3, s4, s5, s6, s7, s8, s9⟩
    go_simp
    with_reducible rfl
  rotate_left
  · simp only [Act.put, List.setIfInBounds_toArray, List.set_cons_zero, List.set_cons_succ, i64_w, i32_w]
    rfl
  refine take_ (i := 2) (N := some 16) (v := ?_) (a' := ?_) #[true, false, true, false, false, false, false, false, false, false, false, false, false, false, false] rfl rfl (take_ofW HT_.out HW_.out (by kernel_rfl)) (fun _ _ _ h => h) (Or.inl ⟨by rfl, ?_⟩) hHeld ?_ ?_
  rotate_left
  · rintro w' ⟨s0, s1, s2, s3, s4, s5, s6, s7, s8, s9⟩
    go_simp
    with_reducible rfl
  rotate_left
  · simp only [Act.put, List.setIfInBounds_toArray, List.set_cons_zero, List.set_cons_succ, i64_w, i32_w]
    rfl
  refine take_ (i := 4) (N := some 18) (v := ?_) (a' := ?_) #[true, false, true, false, true, false, false, false, false, false, false, false, false, false, false] rfl rfl (take_ofW HT_.out HW_.out (by kernel_rfl)) (fun _ _ _ h => h) (Or.inl ⟨by rfl, ?_⟩) hHeld ?_ ?_
  rotate_left
  · rintro w' ⟨s0, s1, s2, s3, s4, s5, s6, s7, s8, s9⟩
    go_simp
    with_reducible rfl
  rotate_left
  · simp only [Act.put, List.setIfInBounds_toArray, List.set_cons_zero, List.set_cons_succ, i64_w, i32_w]
    rfl
  refine take_ (i := 6) (N := some 20) (v := ?_) (a' := ?_) #[true, false, true, false, true, false, true, false, false, false, false, false, false, false, false] rfl rfl (take_ofW HT_.out HW_.out (by kernel_rfl)) (fun _ _ _ h => h) (Or.inl ⟨by rfl, ?_⟩) hHeld ?_ ?_
  rotate_left
  · rintro w' ⟨s0, s1, s2, s3, s4, s5, s6, s7, s8, s9⟩
    go_simp
    with_reducible rfl
  rotate_left
  · simp only [Act.put, List.setIfInBounds_toArray, List.set_cons_zero, List.set_cons_succ, i64_w, i32_w]
    rfl
  refine join_ (σ := Nat) 2 #[true, true, true, true, true, true, true, true, true, true, true, true, true, false, false] (fun s_ => [(15, .agg #[.int .i64 gy, .int .i64 go]), (17, .agg #[.int .i64 by_, .int .i64 bo]), (19, .agg #[.int .i64 ry, .int .i64 ro]), (21, .agg #[.int .i64 ay, .int .i64 ao]), (22, .tuple #[.agg #[.int .i64 r1, .int .i64 r2], .int .i64 e0]), (9, .pointer (some ⟨s_, 0, none⟩)), (13, .tuple #[.agg #[.int .i64 r1, .int .i64 r2], .int .i64 e0]), (23, .agg #[.int .i64 r1, .int .i64 r2]), (24, .int .i64 e0)]) (fun s_ w' => CQ w.heap.size (.int .i64 gy) (.int .i64 go) (w.heap.size + 1) (.int .i64 by_) (.int .i64 bo) (w.heap.size + 1 + 1) (.int .i64 ry) (.int .i64 ro) (w.heap.size + 1 + 1 + 1) (.int .i64 ay) (.int .i64 ao) w w1 w' ∧ Box w1 s_ #[.int .i64 0, .int .i64 0] 67 w') ?_ ?_
  rotate_left
  · intro hCont
    refine two_ (i := 1) (j := 12) (Ni := some 15) (Nj := some 9) #[true, true, true, false, true, false, true, false, false, false, false, false, false, false, false] #[true, false, true, false, true, false, true, false, false, false, false, false, true, false, false] rfl rfl rfl rfl (two_of HT_.out (by kernel_rfl)) (by decide) (by decide) (fun K hK => ?_) (fun K hK => ?_)
    · skip
      refine goes_ Try.func21 (by kernel_rfl) rfl #[.agg #[.int .i64 gy, .int .i64 go]] (by rfl) rfl rfl (by (try simp only [List.map_toArray, List.map_cons, List.map_nil]); first | done | rfl | (simp only [List.length_drop, List.length_take]; rfl)) ?_
      refine (comfitlaw02_chance.calls gy go gy go _ HC1.out).mono ?_
      rintro e wr1 ⟨rfl, hb⟩
      refine ⟨_, rfl, ?_⟩
      refine hK.out _ _ (CQ.below hHeld hb) (fun hHeld => ?_)
      clear hK K hb
      refine norm_ (a' := ?_) ?_ ?_
      rotate_left
      · show Act.put _ (some 15) _ = _
        simp only [Act.put, List.setIfInBounds_toArray, List.set_cons_zero, List.set_cons_succ, i64_w, i32_w]
        rfl
      refine two_ (i := 3) (j := 12) (Ni := some 17) (Nj := some 9) #[true, true, true, true, true, false, true, false, false, false, false, false, false, false, false] #[true, true, true, false, true, false, true, false, false, false, false, false, true, false, false] rfl rfl rfl rfl (two_of HT_.out (by kernel_rfl)) (by decide) (by decide) (fun K hK => ?_) (fun K hK => ?_)
      · skip
        refine goes_ Try.func21 (by kernel_rfl) rfl #[.agg #[.int .i64 by_, .int .i64 bo]] (by rfl) rfl rfl (by (try simp only [List.map_toArray, List.map_cons, List.map_nil]); first | done | rfl | (simp only [List.length_drop, List.length_take]; rfl)) ?_
        refine (comfitlaw02_chance.calls by_ bo by_ bo _ HC2.out).mono ?_
        rintro e wr2 ⟨rfl, hb⟩
        refine ⟨_, rfl, ?_⟩
        refine hK.out _ _ (CQ.below hHeld hb) (fun hHeld => ?_)
        clear hK K hb
        refine norm_ (a' := ?_) ?_ ?_
        rotate_left
        · show Act.put _ (some 17) _ = _
          simp only [Act.put, List.setIfInBounds_toArray, List.set_cons_zero, List.set_cons_succ, i64_w, i32_w]
          rfl
        refine two_ (i := 5) (j := 12) (Ni := some 19) (Nj := some 9) #[true, true, true, true, true, true, true, false, false, false, false, false, false, false, false] #[true, true, true, true, true, false, true, false, false, false, false, false, true, false, false] rfl rfl rfl rfl (two_of HT_.out (by kernel_rfl)) (by decide) (by decide) (fun K hK => ?_) (fun K hK => ?_)
        · skip
          refine goes_ Try.func21 (by kernel_rfl) rfl #[.agg #[.int .i64 ry, .int .i64 ro]] (by rfl) rfl rfl (by (try simp only [List.map_toArray, List.map_cons, List.map_nil]); first | done | rfl | (simp only [List.length_drop, List.length_take]; rfl)) ?_
          refine (comfitlaw02_chance.calls ry ro ry ro _ HC3.out).mono ?_
          rintro e wr3 ⟨rfl, hb⟩
          refine ⟨_, rfl, ?_⟩
          refine hK.out _ _ (CQ.below hHeld hb) (fun hHeld => ?_)
          clear hK K hb
          refine norm_ (a' := ?_) ?_ ?_
          rotate_left
          · show Act.put _ (some 19) _ = _
            simp only [Act.put, List.setIfInBounds_toArray, List.set_cons_zero, List.set_cons_succ, i64_w, i32_w]
            rfl
          refine two_ (i := 7) (j := 12) (Ni := some 21) (Nj := some 9) #[true, true, true, true, true, true, true, true, false, false, false, false, false, false, false] #[true, true, true, true, true, true, true, false, false, false, false, false, true, false, false] rfl rfl rfl rfl (two_of HT_.out (by kernel_rfl)) (by decide) (by decide) (fun K hK => ?_) (fun K hK => ?_)
          · skip
            refine goes_ Try.func21 (by kernel_rfl) rfl #[.agg #[.int .i64 ay, .int .i64 ao]] (by rfl) rfl rfl (by (try simp only [List.map_toArray, List.map_cons, List.map_nil]); first | done | rfl | (simp only [List.length_drop, List.length_take]; rfl)) ?_
            refine (comfitlaw02_chance.calls ay ao ay ao _ HC4.out).mono ?_
            rintro e wr4 ⟨rfl, hb⟩
            refine ⟨_, rfl, ?_⟩
            refine hK.out _ _ (CQ.below hHeld hb) (fun hHeld => ?_)
            clear hK K hb
            refine norm_ (a' := ?_) ?_ ?_
            rotate_left
            · show Act.put _ (some 21) _ = _
              simp only [Act.put, List.setIfInBounds_toArray, List.set_cons_zero, List.set_cons_succ, i64_w, i32_w]
              rfl
            refine two_ (i := 8) (j := 12) (Ni := some 22) (Nj := some 9) #[true, true, true, true, true, true, true, true, true, false, false, false, false, false, false] #[true, true, true, true, true, true, true, true, false, false, false, false, true, false, false] rfl rfl rfl rfl (two_of HT_.out (by kernel_rfl)) (by decide) (by decide) (fun K hK => ?_) (fun K hK => ?_)
            · skip
              refine goes_ Try.func50 (by kernel_rfl) rfl #[.agg #[.int .i64 gy, .int .i64 go], .agg #[.int .i64 by_, .int .i64 bo], .agg #[.int .i64 ry, .int .i64 ro], .agg #[.int .i64 ay, .int .i64 ao]] (by rfl) rfl rfl (by (try simp only [List.map_toArray, List.map_cons, List.map_nil]); first | done | rfl | (simp only [List.length_drop, List.length_take]; rfl)) ?_
              refine (lots_Find.calls k gy go by_ bo ry ro ay ao r1 r2 e0 _ HFI.out).mono ?_
              rintro e wr5 ⟨rfl, hb⟩
              refine ⟨_, rfl, ?_⟩
              refine hK.out _ _ (CQ.below hHeld hb) (fun hHeld => ?_)
              clear hK K hb
              refine norm_ (a' := ?_) ?_ ?_
              rotate_left
              · show Act.put _ (some 22) _ = _
                simp only [Act.put, List.setIfInBounds_toArray, List.set_cons_zero, List.set_cons_succ, i64_w, i32_w]
                rfl
              refine pure_ (i := 9) (N := some 13) (v := ?_) (a' := ?_) #[true, true, true, true, true, true, true, true, true, true, false, false, false, false, false] rfl rfl (any_of HT_.out (by kernel_rfl)) (fun _ _ _ h => h) (Or.inl ⟨by rfl, ?_⟩) ?_ ?_
              rotate_left
              · intro w'
                go_simp
                with_reducible rfl
              rotate_left
              · simp only [Act.put, List.setIfInBounds_toArray, List.set_cons_zero, List.set_cons_succ, i64_w, i32_w]
                rfl
              refine pure_ (i := 10) (N := some 23) (v := ?_) (a' := ?_) #[true, true, true, true, true, true, true, true, true, true, true, false, false, false, false] rfl rfl (any_of HT_.out (by kernel_rfl)) (fun _ _ _ h => h) (Or.inl ⟨by rfl, ?_⟩) ?_ ?_
              rotate_left
              · intro w'
                go_simp
                with_reducible rfl
              rotate_left
              · simp only [Act.put, List.setIfInBounds_toArray, List.set_cons_zero, List.set_cons_succ, i64_w, i32_w]
                rfl
              refine pure_ (i := 11) (N := some 24) (v := ?_) (a' := ?_) #[true, true, true, true, true, true, true, true, true, true, true, true, false, false, false] rfl rfl (any_of HT_.out (by kernel_rfl)) (fun _ _ _ h => h) (Or.inl ⟨by rfl, ?_⟩) ?_ ?_
              rotate_left
              · intro w'
                go_simp
                with_reducible rfl
              rotate_left
              · simp only [Act.put, List.setIfInBounds_toArray, List.set_cons_zero, List.set_cons_succ, i64_w, i32_w]
                rfl
              refine one_ (i := 12) (N := some 9) #[true, true, true, true, true, true, true, true, true, true, true, true, true, false, false] rfl rfl (one_of HT_.out (by kernel_rfl)) (by decide) (fun K hK => ?_)
              refine box_step ?hg (N := 9) ?hd (cs := #[.int .i64 0, .int .i64 0]) (t := 67) ?hr ?_; (case hd => rfl); (case hg => rfl); (case hr => first | (go_simp; done) | (go_simp; rfl))
              intro gx hg wr6 hbox hb
              have HX : Aside0 (Box w1 gx #[.int .i64 0, .int .i64 0] 67 _) := ⟨⟨by rw [hg]; exact hHeld.2.2.2.2.2.2.2.2.2.size, hbox⟩⟩
              clear hg hbox
              refine hK.out _ _ (CQ.below hHeld hb) (fun hHeld => ?_)
              clear hK K hb
              refine norm_ (a' := ?_) ?_ ?_
              rotate_left
              · show Act.put _ (some 9) _ = _
                simp only [Act.put, List.setIfInBounds_toArray, List.set_cons_zero, List.set_cons_succ, i64_w, i32_w]
                rfl
              exact norm_ (by simp only [putAll, Act.put, List.setIfInBounds_toArray, List.set_cons_zero, List.set_cons_succ]) (hCont gx _ ⟨hHeld, HX.out⟩)
            · skip
              refine box_step ?hg (N := 9) ?hd (cs := #[.int .i64 0, .int .i64 0]) (t := 67) ?hr ?_; (case hd => rfl); (case hg => rfl); (case hr => first | (go_simp; done) | (go_simp; rfl))
              intro gx hg wr7 hbox hb
              have HX : Aside0 (Box w1 gx #[.int .i64 0, .int .i64 0] 67 _) := ⟨⟨by rw [hg]; exact hHeld.2.2.2.2.2.2.2.2.2.size, hbox⟩⟩
              clear hg hbox
              refine hK.out _ _ (CQ.below hHeld hb) (fun hHeld => ?_)
              clear hK K hb
              refine norm_ (a' := ?_) ?_ ?_
              rotate_left
              · show Act.put _ (some 9) _ = _
                simp only [Act.put, List.setIfInBounds_toArray, List.set_cons_zero, List.set_cons_succ, i64_w, i32_w]
                rfl
              refine one_ (i := 8) (N := some 22) #[true, true, true, true, true, true, true, true, true, false, false, false, true, false, false] rfl rfl (one_of HT_.out (by kernel_rfl)) (by decide) (fun K hK => ?_)
              refine goes_ Try.func50 (by kernel_rfl) rfl #[.agg #[.int .i64 gy, .int .i64 go], .agg #[.int .i64 by_, .int .i64 bo], .agg #[.int .i64 ry, .int .i64 ro], .agg #[.int .i64 ay, .int .i64 ao]] (by rfl) rfl rfl (by (try simp only [List.map_toArray, List.map_cons, List.map_nil]); first | done | rfl | (simp only [List.length_drop, List.length_take]; rfl)) ?_
              refine (lots_Find.calls k gy go by_ bo ry ro ay ao r1 r2 e0 _ HFI.out).mono ?_
              rintro e wr8 ⟨rfl, hb⟩
              refine ⟨_, rfl, ?_⟩
              replace HX := Aside0.mk (HX.out.below hb)
              refine hK.out _ _ (CQ.below hHeld hb) (fun hHeld => ?_)
              clear hK K hb
              refine norm_ (a' := ?_) ?_ ?_
              rotate_left
              · show Act.put _ (some 22) _ = _
                simp only [Act.put, List.setIfInBounds_toArray, List.set_cons_zero, List.set_cons_succ, i64_w, i32_w]
                rfl
              refine pure_ (i := 9) (N := some 13) (v := ?_) (a' := ?_) #[true, true, true, true, true, true, true, true, true, true, false, false, true, false, false] rfl rfl (any_of HT_.out (by kernel_rfl)) (fun _ _ _ h => h) (Or.inl ⟨by rfl, ?_⟩) ?_ ?_
              rotate_left
              · intro w'
                go_simp
                with_reducible rfl
              rotate_left
              · simp only [Act.put, List.setIfInBounds_toArray, List.set_cons_zero, List.set_cons_succ, i64_w, i32_w]
                rfl
              refine pure_ (i := 10) (N := some 23) (v := ?_) (a' := ?_) #[true, true, true, true, true, true, true, true, true, true, true, false, true, false, false] rfl rfl (any_of HT_.out (by kernel_rfl)) (fun _ _ _ h => h) (Or.inl ⟨by rfl, ?_⟩) ?_ ?_
              rotate_left
              · intro w'
                go_simp
                with_reducible rfl
              rotate_left
              · simp only [Act.put, List.setIfInBounds_toArray, List.set_cons_zero, List.set_cons_succ, i64_w, i32_w]
                rfl
              refine pure_ (i := 11) (N := some 24) (v := ?_) (a' := ?_) #[true, true, true, true, true, true, true, true, true, true, true, true, true, false, false] rfl rfl (any_of HT_.out (by kernel_rfl)) (fun _ _ _ h => h) (Or.inl ⟨by rfl, ?_⟩) ?_ ?_
              rotate_left
              · intro w'
                go_simp
                with_reducible rfl
              rotate_left
              · simp only [Act.put, List.setIfInBounds_toArray, List.set_cons_zero, List.set_cons_succ, i64_w, i32_w]
                rfl
              exact norm_ (by simp only [putAll, Act.put, List.setIfInBounds_toArray, List.set_cons_zero, List.set_cons_succ]) (hCont gx _ ⟨hHeld, HX.out⟩)
          · skip
            refine box_step ?hg (N := 9) ?hd (cs := #[.int .i64 0, .int .i64 0]) (t := 67) ?hr ?_; (case hd => rfl); (case hg => rfl); (case hr => first | (go_simp; done) | (go_simp; rfl))
            intro gx hg wr9 hbox hb
            have HX : Aside0 (Box w1 gx #[.int .i64 0, .int .i64 0] 67 _) := ⟨⟨by rw [hg]; exact hHeld.2.2.2.2.2.2.2.2.2.size, hbox⟩⟩
            clear hg hbox
            refine hK.out _ _ (CQ.below hHeld hb) (fun hHeld => ?_)
            clear hK K hb
            refine norm_ (a' := ?_) ?_ ?_
            rotate_left
            · show Act.put _ (some 9) _ = _
              simp only [Act.put, List.setIfInBounds_toArray, List.set_cons_zero, List.set_cons_succ, i64_w, i32_w]
              rfl
            refine one_ (i := 7) (N := some 21) #[true, true, true, true, true, true, true, true, false, false, false, false, true, false, false] rfl rfl (one_of HT_.out (by kernel_rfl)) (by decide) (fun K hK => ?_)
            refine goes_ Try.func21 (by kernel_rfl) rfl #[.agg #[.int .i64 ay, .int .i64 ao]] (by rfl) rfl rfl (by (try simp only [List.map_toArray, List.map_cons, List.map_nil]); first | done | rfl | (simp only [List.length_drop, List.length_take]; rfl)) ?_
            refine (comfitlaw02_chance.calls ay ao ay ao _ HC4.out).mono ?_
            rintro e wr10 ⟨rfl, hb⟩
            refine ⟨_, rfl, ?_⟩
            replace HX := Aside0.mk (HX.out.below hb)
            refine hK.out _ _ (CQ.below hHeld hb) (fun hHeld => ?_)
            clear hK K hb
            refine norm_ (a' := ?_) ?_ ?_
            rotate_left
            · show Act.put _ (some 21) _ = _
              simp only [Act.put, List.setIfInBounds_toArray, List.set_cons_zero, List.set_cons_succ, i64_w, i32_w]
              rfl
            refine one_ (i := 8) (N := some 22) #[true, true, true, true, true, true, true, true, true, false, false, false, true, false, false] rfl rfl (one_of HT_.out (by kernel_rfl)) (by decide) (fun K hK => ?_)
            refine goes_ Try.func50 (by kernel_rfl) rfl #[.agg #[.int .i64 gy, .int .i64 go], .agg #[.int .i64 by_, .int .i64 bo], .agg #[.int .i64 ry, .int .i64 ro], .agg #[.int .i64 ay, .int .i64 ao]] (by rfl) rfl rfl (by (try simp only [List.map_toArray, List.map_cons, List.map_nil]); first | done | rfl | (simp only [List.length_drop, List.length_take]; rfl)) ?_
            refine (lots_Find.calls k gy go by_ bo ry ro ay ao r1 r2 e0 _ HFI.out).mono ?_
            rintro e wr11 ⟨rfl, hb⟩
            refine ⟨_, rfl, ?_⟩
            replace HX := Aside0.mk (HX.out.below hb)
            refine hK.out _ _ (CQ.below hHeld hb) (fun hHeld => ?_)
            clear hK K hb
            refine norm_ (a' := ?_) ?_ ?_
            rotate_left
            · show Act.put _ (some 22) _ = _
              simp only [Act.put, List.setIfInBounds_toArray, List.set_cons_zero, List.set_cons_succ, i64_w, i32_w]
              rfl
            refine pure_ (i := 9) (N := some 13) (v := ?_) (a' := ?_) #[true, true, true, true, true, true, true, true, true, true, false, false, true, false, false] rfl rfl (any_of HT_.out (by kernel_rfl)) (fun _ _ _ h => h) (Or.inl ⟨by rfl, ?_⟩) ?_ ?_
            rotate_left
            · intro w'
              go_simp
              with_reducible rfl
            rotate_left
            · simp only [Act.put, List.setIfInBounds_toArray, List.set_cons_zero, List.set_cons_succ, i64_w, i32_w]
              rfl
            refine pure_ (i := 10) (N := some 23) (v := ?_) (a' := ?_) #[true, true, true, true, true, true, true, true, true, true, true, false, true, false, false] rfl rfl (any_of HT_.out (by kernel_rfl)) (fun _ _ _ h => h) (Or.inl ⟨by rfl, ?_⟩) ?_ ?_
            rotate_left
            · intro w'
              go_simp
              with_reducible rfl
            rotate_left
            · simp only [Act.put, List.setIfInBounds_toArray, List.set_cons_zero, List.set_cons_succ, i64_w, i32_w]
              rfl
            refine pure_ (i := 11) (N := some 24) (v := ?_) (a' := ?_) #[true, true, true, true, true, true, true, true, true, true, true, true, true, false, false] rfl rfl (any_of HT_.out (by kernel_rfl)) (fun _ _ _ h => h) (Or.inl ⟨by rfl, ?_⟩) ?_ ?_
            rotate_left
            · intro w'
              go_simp
              with_reducible rfl
            rotate_left
            · simp only [Act.put, List.setIfInBounds_toArray, List.set_cons_zero, List.set_cons_succ, i64_w, i32_w]
              rfl
            exact norm_ (by simp only [putAll, Act.put, List.setIfInBounds_toArray, List.set_cons_zero, List.set_cons_succ]) (hCont gx _ ⟨hHeld, HX.out⟩)
        · skip
          refine box_step ?hg (N := 9) ?hd (cs := #[.int .i64 0, .int .i64 0]) (t := 67) ?hr ?_; (case hd => rfl); (case hg => rfl); (case hr => first | (go_simp; done) | (go_simp; rfl))
          intro gx hg wr12 hbox hb
          have HX : Aside0 (Box w1 gx #[.int .i64 0, .int .i64 0] 67 _) := ⟨⟨by rw [hg]; exact hHeld.2.2.2.2.2.2.2.2.2.size, hbox⟩⟩
          clear hg hbox
          refine hK.out _ _ (CQ.below hHeld hb) (fun hHeld => ?_)
          clear hK K hb
          refine norm_ (a' := ?_) ?_ ?_
          rotate_left
          · show Act.put _ (some 9) _ = _
            simp only [Act.put, List.setIfInBounds_toArray, List.set_cons_zero, List.set_cons_succ, i64_w, i32_w]
            rfl
          refine one_ (i := 5) (N := some 19) #[true, true, true, true, true, true, true, false, false, false, false, false, true, false, false] rfl rfl (one_of HT_.out (by kernel_rfl)) (by decide) (fun K hK => ?_)
          refine goes_ Try.func21 (by kernel_rfl) rfl #[.agg #[.int .i64 ry, .int .i64 ro]] (by rfl) rfl rfl (by (try simp only [List.map_toArray, List.map_cons, List.map_nil]); first | done | rfl | (simp only [List.length_drop, List.length_take]; rfl)) ?_
          refine (comfitlaw02_chance.calls ry ro ry ro _ HC3.out).mono ?_
          rintro e wr13 ⟨rfl, hb⟩
          refine ⟨_, rfl, ?_⟩
          replace HX := Aside0.mk (HX.out.below hb)
          refine hK.out _ _ (CQ.below hHeld hb) (fun hHeld => ?_)
          clear hK K hb
          refine norm_ (a' := ?_) ?_ ?_
          rotate_left
          · show Act.put _ (some 19) _ = _
            simp only [Act.put, List.setIfInBounds_toArray, List.set_cons_zero, List.set_cons_succ, i64_w, i32_w]
            rfl
          refine one_ (i := 7) (N := some 21) #[true, true, true, true, true, true, true, true, false, false, false, false, true, false, false] rfl rfl (one_of HT_.out (by kernel_rfl)) (by decide) (fun K hK => ?_)
          refine goes_ Try.func21 (by kernel_rfl) rfl #[.agg #[.int .i64 ay, .int .i64 ao]] (by rfl) rfl rfl (by (try simp only [List.map_toArray, List.map_cons, List.map_nil]); first | done | rfl | (simp only [List.length_drop, List.length_take]; rfl)) ?_
          refine (comfitlaw02_chance.calls ay ao ay ao _ HC4.out).mono ?_
          rintro e wr14 ⟨rfl, hb⟩
          refine ⟨_, rfl, ?_⟩
          replace HX := Aside0.mk (HX.out.below hb)
          refine hK.out _ _ (CQ.below hHeld hb) (fun hHeld => ?_)
          clear hK K hb
          refine norm_ (a' := ?_) ?_ ?_
          rotate_left
          · show Act.put _ (some 21) _ = _
            simp only [Act.put, List.setIfInBounds_toArray, List.set_cons_zero, List.set_cons_succ, i64_w, i32_w]
            rfl
          refine one_ (i := 8) (N := some 22) #[true, true, true, true, true, true, true, true, true, false, false, false, true, false, false] rfl rfl (one_of HT_.out (by kernel_rfl)) (by decide) (fun K hK => ?_)
          refine goes_ Try.func50 (by kernel_rfl) rfl #[.agg #[.int .i64 gy, .int .i64 go], .agg #[.int .i64 by_, .int .i64 bo], .agg #[.int .i64 ry, .int .i64 ro], .agg #[.int .i64 ay, .int .i64 ao]] (by rfl) rfl rfl (by (try simp only [List.map_toArray, List.map_cons, List.map_nil]); first | done | rfl | (simp only [List.length_drop, List.length_take]; rfl)) ?_
          refine (lots_Find.calls k gy go by_ bo ry ro ay ao r1 r2 e0 _ HFI.out).mono ?_
          rintro e wr15 ⟨rfl, hb⟩
          refine ⟨_, rfl, ?_⟩
          replace HX := Aside0.mk (HX.out.below hb)
          refine hK.out _ _ (CQ.below hHeld hb) (fun hHeld => ?_)
          clear hK K hb
          refine norm_ (a' := ?_) ?_ ?_
          rotate_left
          · show Act.put _ (some 22) _ = _
            simp only [Act.put, List.setIfInBounds_toArray, List.set_cons_zero, List.set_cons_succ, i64_w, i32_w]
            rfl
          refine pure_ (i := 9) (N := some 13) (v := ?_) (a' := ?_) #[true, true, true, true, true, true, true, true, true, true, false, false, true, false, false] rfl rfl (any_of HT_.out (by kernel_rfl)) (fun _ _ _ h => h) (Or.inl ⟨by rfl, ?_⟩) ?_ ?_
          rotate_left
          · intro w'
            go_simp
            with_reducible rfl
          rotate_left
          · simp only [Act.put, List.setIfInBounds_toArray, List.set_cons_zero, List.set_cons_succ, i64_w, i32_w]
            rfl
          refine pure_ (i := 10) (N := some 23) (v := ?_) (a' := ?_) #[true, true, true, true, true, true, true, true, true, true, true, false, true, false, false] rfl rfl (any_of HT_.out (by kernel_rfl)) (fun _ _ _ h => h) (Or.inl ⟨by rfl, ?_⟩) ?_ ?_
          rotate_left
          · intro w'
            go_simp
            with_reducible rfl
          rotate_left
          · simp only [Act.put, List.setIfInBounds_toArray, List.set_cons_zero, List.set_cons_succ, i64_w, i32_w]
            rfl
          refine pure_ (i := 11) (N := some 24) (v := ?_) (a' := ?_) #[true, true, true, true, true, true, true, true, true, true, true, true, true, false, false] rfl rfl (any_of HT_.out (by kernel_rfl)) (fun _ _ _ h => h) (Or.inl ⟨by rfl, ?_⟩) ?_ ?_
          rotate_left
          · intro w'
            go_simp
            with_reducible rfl
          rotate_left
          · simp only [Act.put, List.setIfInBounds_toArray, List.set_cons_zero, List.set_cons_succ, i64_w, i32_w]
            rfl
          exact norm_ (by simp only [putAll, Act.put, List.setIfInBounds_toArray, List.set_cons_zero, List.set_cons_succ]) (hCont gx _ ⟨hHeld, HX.out⟩)
      · skip
        refine box_step ?hg (N := 9) ?hd (cs := #[.int .i64 0, .int .i64 0]) (t := 67) ?hr ?_; (case hd => rfl); (case hg => rfl); (case hr => first | (go_simp; done) | (go_simp; rfl))
        intro gx hg wr16 hbox hb
        have HX : Aside0 (Box w1 gx #[.int .i64 0, .int .i64 0] 67 _) := ⟨⟨by rw [hg]; exact hHeld.2.2.2.2.2.2.2.2.2.size, hbox⟩⟩
        clear hg hbox
        refine hK.out _ _ (CQ.below hHeld hb) (fun hHeld => ?_)
        clear hK K hb
        refine norm_ (a' := ?_) ?_ ?_
        rotate_left
        · show Act.put _ (some 9) _ = _
          simp only [Act.put, List.setIfInBounds_toArray, List.set_cons_zero, List.set_cons_succ, i64_w, i32_w]
          rfl
        refine one_ (i := 3) (N := some 17) #[true, true, true, true, true, false, true, false, false, false, false, false, true, false, false] rfl rfl (one_of HT_.out (by kernel_rfl)) (by decide) (fun K hK => ?_)
        refine goes_ Try.func21 (by kernel_rfl) rfl #[.agg #[.int .i64 by_, .int .i64 bo]] (by rfl) rfl rfl (by (try simp only [List.map_toArray, List.map_cons, List.map_nil]); first | done | rfl | (simp only [List.length_drop, List.length_take]; rfl)) ?_
        refine (comfitlaw02_chance.calls by_ bo by_ bo _ HC2.out).mono ?_
        rintro e wr17 ⟨rfl, hb⟩
        refine ⟨_, rfl, ?_⟩
        replace HX := Aside0.mk (HX.out.below hb)
        refine hK.out _ _ (CQ.below hHeld hb) (fun hHeld => ?_)
        clear hK K hb
        refine norm_ (a' := ?_) ?_ ?_
        rotate_left
        · show Act.put _ (some 17) _ = _
          simp only [Act.put, List.setIfInBounds_toArray, List.set_cons_zero, List.set_cons_succ, i64_w, i32_w]
          rfl
        refine one_ (i := 5) (N := some 19) #[true, true, true, true, true, true, true, false, false, false, false, false, true, false, false] rfl rfl (one_of HT_.out (by kernel_rfl)) (by decide) (fun K hK => ?_)
        refine goes_ Try.func21 (by kernel_rfl) rfl #[.agg #[.int .i64 ry, .int .i64 ro]] (by rfl) rfl rfl (by (try simp only [List.map_toArray, List.map_cons, List.map_nil]); first | done | rfl | (simp only [List.length_drop, List.length_take]; rfl)) ?_
        refine (comfitlaw02_chance.calls ry ro ry ro _ HC3.out).mono ?_
        rintro e wr18 ⟨rfl, hb⟩
        refine ⟨_, rfl, ?_⟩
        replace HX := Aside0.mk (HX.out.below hb)
        refine hK.out _ _ (CQ.below hHeld hb) (fun hHeld => ?_)
        clear hK K hb
        refine norm_ (a' := ?_) ?_ ?_
        rotate_left
        · show Act.put _ (some 19) _ = _
          simp only [Act.put, List.setIfInBounds_toArray, List.set_cons_zero, List.set_cons_succ, i64_w, i32_w]
          rfl
        refine one_ (i := 7) (N := some 21) #[true, true, true, true, true, true, true, true, false, false, false, false, true, false, false] rfl rfl (one_of HT_.out (by kernel_rfl)) (by decide) (fun K hK => ?_)
        refine goes_ Try.func21 (by kernel_rfl) rfl #[.agg #[.int .i64 ay, .int .i64 ao]] (by rfl) rfl rfl (by (try simp only [List.map_toArray, List.map_cons, List.map_nil]); first | done | rfl | (simp only [List.length_drop, List.length_take]; rfl)) ?_
        refine (comfitlaw02_chance.calls ay ao ay ao _ HC4.out).mono ?_
        rintro e wr19 ⟨rfl, hb⟩
        refine ⟨_, rfl, ?_⟩
        replace HX := Aside0.mk (HX.out.below hb)
        refine hK.out _ _ (CQ.below hHeld hb) (fun hHeld => ?_)
        clear hK K hb
        refine norm_ (a' := ?_) ?_ ?_
        rotate_left
        · show Act.put _ (some 21) _ = _
          simp only [Act.put, List.setIfInBounds_toArray, List.set_cons_zero, List.set_cons_succ, i64_w, i32_w]
          rfl
        refine one_ (i := 8) (N := some 22) #[true, true, true, true, true, true, true, true, true, false, false, false, true, false, false] rfl rfl (one_of HT_.out (by kernel_rfl)) (by decide) (fun K hK => ?_)
        refine goes_ Try.func50 (by kernel_rfl) rfl #[.agg #[.int .i64 gy, .int .i64 go], .agg #[.int .i64 by_, .int .i64 bo], .agg #[.int .i64 ry, .int .i64 ro], .agg #[.int .i64 ay, .int .i64 ao]] (by rfl) rfl rfl (by (try simp only [List.map_toArray, List.map_cons, List.map_nil]); first | done | rfl | (simp only [List.length_drop, List.length_take]; rfl)) ?_
        refine (lots_Find.calls k gy go by_ bo ry ro ay ao r1 r2 e0 _ HFI.out).mono ?_
        rintro e wr20 ⟨rfl, hb⟩
        refine ⟨_, rfl, ?_⟩
        replace HX := Aside0.mk (HX.out.below hb)
        refine hK.out _ _ (CQ.below hHeld hb) (fun hHeld => ?_)
        clear hK K hb
        refine norm_ (a' := ?_) ?_ ?_
        rotate_left
        · show Act.put _ (some 22) _ = _
          simp only [Act.put, List.setIfInBounds_toArray, List.set_cons_zero, List.set_cons_succ, i64_w, i32_w]
          rfl
        refine pure_ (i := 9) (N := some 13) (v := ?_) (a' := ?_) #[true, true, true, true, true, true, true, true, true, true, false, false, true, false, false] rfl rfl (any_of HT_.out (by kernel_rfl)) (fun _ _ _ h => h) (Or.inl ⟨by rfl, ?_⟩) ?_ ?_
        rotate_left
        · intro w'
          go_simp
          with_reducible rfl
        rotate_left
        · simp only [Act.put, List.setIfInBounds_toArray, List.set_cons_zero, List.set_cons_succ, i64_w, i32_w]
          rfl
        refine pure_ (i := 10) (N := some 23) (v := ?_) (a' := ?_) #[true, true, true, true, true, true, true, true, true, true, true, false, true, false, false] rfl rfl (any_of HT_.out (by kernel_rfl)) (fun _ _ _ h => h) (Or.inl ⟨by rfl, ?_⟩) ?_ ?_
        rotate_left
        · intro w'
          go_simp
          with_reducible rfl
        rotate_left
        · simp only [Act.put, List.setIfInBounds_toArray, List.set_cons_zero, List.set_cons_succ, i64_w, i32_w]
          rfl
        refine pure_ (i := 11) (N := some 24) (v := ?_) (a' := ?_) #[true, true, true, true, true, true, true, true, true, true, true, true, true, false, false] rfl rfl (any_of HT_.out (by kernel_rfl)) (fun _ _ _ h => h) (Or.inl ⟨by rfl, ?_⟩) ?_ ?_
        rotate_left
        · intro w'
          go_simp
          with_reducible rfl
        rotate_left
        · simp only [Act.put, List.setIfInBounds_toArray, List.set_cons_zero, List.set_cons_succ, i64_w, i32_w]
          rfl
        exact norm_ (by simp only [putAll, Act.put, List.setIfInBounds_toArray, List.set_cons_zero, List.set_cons_succ]) (hCont gx _ ⟨hHeld, HX.out⟩)
    · skip
      refine box_step ?hg (N := 9) ?hd (cs := #[.int .i64 0, .int .i64 0]) (t := 67) ?hr ?_; (case hd => rfl); (case hg => rfl); (case hr => first | (go_simp; done) | (go_simp; rfl))
      intro gx hg wr21 hbox hb
      have HX : Aside0 (Box w1 gx #[.int .i64 0, .int .i64 0] 67 _) := ⟨⟨by rw [hg]; exact hHeld.2.2.2.2.2.2.2.2.2.size, hbox⟩⟩
      clear hg hbox
      refine hK.out _ _ (CQ.below hHeld hb) (fun hHeld => ?_)
      clear hK K hb
      refine norm_ (a' := ?_) ?_ ?_
      rotate_left
      · show Act.put _ (some 9) _ = _
        simp only [Act.put, List.setIfInBounds_toArray, List.set_cons_zero, List.set_cons_succ, i64_w, i32_w]
        rfl
      refine one_ (i := 1) (N := some 15) #[true, true, true, false, true, false, true, false, false, false, false, false, true, false, false] rfl rfl (one_of HT_.out (by kernel_rfl)) (by decide) (fun K hK => ?_)
      refine goes_ Try.func21 (by kernel_rfl) rfl #[.agg #[.int .i64 gy, .int .i64 go]] (by rfl) rfl rfl (by (try simp only [List.map_toArray, List.map_cons, List.map_nil]); first | done | rfl | (simp only [List.length_drop, List.length_take]; rfl)) ?_
      refine (comfitlaw02_chance.calls gy go gy go _ HC1.out).mono ?_
      rintro e wr22 ⟨rfl, hb⟩
      refine ⟨_, rfl, ?_⟩
      replace HX := Aside0.mk (HX.out.below hb)
      refine hK.out _ _ (CQ.below hHeld hb) (fun hHeld => ?_)
      clear hK K hb
      refine norm_ (a' := ?_) ?_ ?_
      rotate_left
      · show Act.put _ (some 15) _ = _
        simp only [Act.put, List.setIfInBounds_toArray, List.set_cons_zero, List.set_cons_succ, i64_w, i32_w]
        rfl
      refine one_ (i := 3) (N := some 17) #[true, true, true, true, true, false, true, false, false, false, false, false, true, false, false] rfl rfl (one_of HT_.out (by kernel_rfl)) (by decide) (fun K hK => ?_)
      refine goes_ Try.func21 (by kernel_rfl) rfl #[.agg #[.int .i64 by_, .int .i64 bo]] (by rfl) rfl rfl (by (try simp only [List.map_toArray, List.map_cons, List.map_nil]); first | done | rfl | (simp only [List.length_drop, List.length_take]; rfl)) ?_
      refine (comfitlaw02_chance.calls by_ bo by_ bo _ HC2.out).mono ?_
      rintro e wr23 ⟨rfl, hb⟩
      refine ⟨_, rfl, ?_⟩
      replace HX := Aside0.mk (HX.out.below hb)
      refine hK.out _ _ (CQ.below hHeld hb) (fun hHeld => ?_)
      clear hK K hb
      refine norm_ (a' := ?_) ?_ ?_
      rotate_left
      · show Act.put _ (some 17) _ = _
        simp only [Act.put, List.setIfInBounds_toArray, List.set_cons_zero, List.set_cons_succ, i64_w, i32_w]
        rfl
      refine one_ (i := 5) (N := some 19) #[true, true, true, true, true, true, true, false, false, false, false, false, true, false, false] rfl rfl (one_of HT_.out (by kernel_rfl)) (by decide) (fun K hK => ?_)
      refine goes_ Try.func21 (by kernel_rfl) rfl #[.agg #[.int .i64 ry, .int .i64 ro]] (by rfl) rfl rfl (by (try simp only [List.map_toArray, List.map_cons, List.map_nil]); first | done | rfl | (simp only [List.length_drop, List.length_take]; rfl)) ?_
      refine (comfitlaw02_chance.calls ry ro ry ro _ HC3.out).mono ?_
      rintro e wr24 ⟨rfl, hb⟩
      refine ⟨_, rfl, ?_⟩
      replace HX := Aside0.mk (HX.out.below hb)
      refine hK.out _ _ (CQ.below hHeld hb) (fun hHeld => ?_)
      clear hK K hb
      refine norm_ (a' := ?_) ?_ ?_
      rotate_left
      · show Act.put _ (some 19) _ = _
        simp only [Act.put, List.setIfInBounds_toArray, List.set_cons_zero, List.set_cons_succ, i64_w, i32_w]
        rfl
      refine one_ (i := 7) (N := some 21) #[true, true, true, true, true, true, true, true, false, false, false, false, true, false, false] rfl rfl (one_of HT_.out (by kernel_rfl)) (by decide) (fun K hK => ?_)
      refine goes_ Try.func21 (by kernel_rfl) rfl #[.agg #[.int .i64 ay, .int .i64 ao]] (by rfl) rfl rfl (by (try simp only [List.map_toArray, List.map_cons, List.map_nil]); first | done | rfl | (simp only [List.length_drop, List.length_take]; rfl)) ?_
      refine (comfitlaw02_chance.calls ay ao ay ao _ HC4.out).mono ?_
      rintro e wr25 ⟨rfl, hb⟩
      refine ⟨_, rfl, ?_⟩
      replace HX := Aside0.mk (HX.out.below hb)
      refine hK.out _ _ (CQ.below hHeld hb) (fun hHeld => ?_)
      clear hK K hb
      refine norm_ (a' := ?_) ?_ ?_
      rotate_left
      · show Act.put _ (some 21) _ = _
        simp only [Act.put, List.setIfInBounds_toArray, List.set_cons_zero, List.set_cons_succ, i64_w, i32_w]
        rfl
      refine one_ (i := 8) (N := some 22) #[true, true, true, true, true, true, true, true, true, false, false, false, true, false, false] rfl rfl (one_of HT_.out (by kernel_rfl)) (by decide) (fun K hK => ?_)
      refine goes_ Try.func50 (by kernel_rfl) rfl #[.agg #[.int .i64 gy, .int .i64 go], .agg #[.int .i64 by_, .int .i64 bo], .agg #[.int .i64 ry, .int .i64 ro], .agg #[.int .i64 ay, .int .i64 ao]] (by rfl) rfl rfl (by (try simp only [List.map_toArray, List.map_cons, List.map_nil]); first | done | rfl | (simp only [List.length_drop, List.length_take]; rfl)) ?_
      refine (lots_Find.calls k gy go by_ bo ry ro ay ao r1 r2 e0 _ HFI.out).mono ?_
      rintro e wr26 ⟨rfl, hb⟩
      refine ⟨_, rfl, ?_⟩
      replace HX := Aside0.mk (HX.out.below hb)
      refine hK.out _ _ (CQ.below hHeld hb) (fun hHeld => ?_)
      clear hK K hb
      refine norm_ (a' := ?_) ?_ ?_
      rotate_left
      · show Act.put _ (some 22) _ = _
        simp only [Act.put, List.setIfInBounds_toArray, List.set_cons_zero, List.set_cons_succ, i64_w, i32_w]
        rfl
      refine pure_ (i := 9) (N := some 13) (v := ?_) (a' := ?_) #[true, true, true, true, true, true, true, true, true, true, false, false, true, false, false] rfl rfl (any_of HT_.out (by kernel_rfl)) (fun _ _ _ h => h) (Or.inl ⟨by rfl, ?_⟩) ?_ ?_
      rotate_left
      · intro w'
        go_simp
        with_reducible rfl
      rotate_left
      · simp only [Act.put, List.setIfInBounds_toArray, List.set_cons_zero, List.set_cons_succ, i64_w, i32_w]
        rfl
      refine pure_ (i := 10) (N := some 23) (v := ?_) (a' := ?_) #[true, true, true, true, true, true, true, true, true, true, true, false, true, false, false] rfl rfl (any_of HT_.out (by kernel_rfl)) (fun _ _ _ h => h) (Or.inl ⟨by rfl, ?_⟩) ?_ ?_
      rotate_left
      · intro w'
        go_simp
        with_reducible rfl
      rotate_left
      · simp only [Act.put, List.setIfInBounds_toArray, List.set_cons_zero, List.set_cons_succ, i64_w, i32_w]
        rfl
      refine pure_ (i := 11) (N := some 24) (v := ?_) (a' := ?_) #[true, true, true, true, true, true, true, true, true, true, true, true, true, false, false] rfl rfl (any_of HT_.out (by kernel_rfl)) (fun _ _ _ h => h) (Or.inl ⟨by rfl, ?_⟩) ?_ ?_
      rotate_left
      · intro w'
        go_simp
        with_reducible rfl
      rotate_left
      · simp only [Act.put, List.setIfInBounds_toArray, List.set_cons_zero, List.set_cons_succ, i64_w, i32_w]
        rfl
      exact norm_ (by simp only [putAll, Act.put, List.setIfInBounds_toArray, List.set_cons_zero, List.set_cons_succ]) (hCont gx _ ⟨hHeld, HX.out⟩)
  rintro gx wt ⟨hHeld, hbx⟩
  have HX := Aside0.mk hbx
  clear hbx
  refine norm_ (a' := ?_) ?_ ?_
  rotate_left
  · simp only [putAll, Act.put, List.setIfInBounds_toArray, List.set_cons_zero, List.set_cons_succ]
    rfl
  refine one_ (i := 13) (N := none) #[true, true, true, true, true, true, true, true, true, true, true, true, true, true, false] rfl rfl (one_of HT_.out (by kernel_rfl)) (by decide) (fun K hK => ?_)
  have hs0_ := HX.out.cell 0 rfl
  have hs1_ := HX.out.cell 1 rfl
  have fs0_ := HX.out.frozen 0
  have fs1_ := HX.out.frozen 1
  refine skip_ (w1 := ?_) (by rfl) rfl ?_ ?_
  rotate_left
  · go_simp
    rfl
  have HL := Aside0.mk (below_set' (below_set' hHeld.2.2.2.2.2.2.2.2.2 (p := ⟨gx, 0, none⟩) HX.out.1 (.int .i64 r1)) (p := ⟨gx, 1, none⟩) HX.out.1 (.int .i64 r2))
  refine hK.out _ _ (cq_of B4.out B5.out B6.out B7.out HB.out HL.out) (fun hHeld => ?_)
  clear hK K hHeld
  have BX : Aside0 (Box w1 gx #[.int .i64 r1, .int .i64 r2] 67 _) := ⟨(HX.out.put 0 (.int .i64 r1)).put 1 (.int .i64 r2)⟩
  clear hs0_ hs1_ fs0_ fs1_ HX
  refine pure_ (i := 14) (N := some 10) (v := ?_) (a' := ?_) #[true, true, true, true, true, true, true, true, true, true, true, true, true, true, true] rfl rfl (any_of HT_.out (by kernel_rfl)) (fun _ _ _ h => h) (Or.inl ⟨by rfl, ?_⟩) ?_ ?_
  rotate_left
  · intro w'
    go_simp
    with_reducible rfl
  rotate_left
  · simp only [Act.put, List.setIfInBounds_toArray, List.set_cons_zero, List.set_cons_succ, i64_w, i32_w]
    rfl
  refine done_ (done_of HT_.out (by kernel_rfl)) ?_
  clear HT_ HW_
  generalize ((wt.setCell _ _).setCell _ _) = w3 at BX HL ⊢
  replace B4 := Aside0.mk (B4.out.below HL.out)
  replace B5 := Aside0.mk (B5.out.below HL.out)
  replace B6 := Aside0.mk (B6.out.below HL.out)
  replace B7 := Aside0.mk (B7.out.below HL.out)
  replace HB := Aside0.mk (below_step HB.out HL.out)
  clear HL HFI
  have fB40_ := B4.out.cell 0 rfl
  have fB41_ := B4.out.cell 1 rfl
  have fB50_ := B5.out.cell 0 rfl
  have fB51_ := B5.out.cell 1 rfl
  have fB60_ := B6.out.cell 0 rfl
  have fB61_ := B6.out.cell 1 rfl
  have fB70_ := B7.out.cell 0 rfl
  have fB71_ := B7.out.cell 1 rfl
  have fBX0_ := BX.out.cell 0 rfl
  have fBX1_ := BX.out.cell 1 rfl
  go_wp2_with fail
  refine (comfitref02_Is.calls gy go i1 _ HI1.out).mono ?_
  rintro e w4 ⟨rfl, hb⟩
  clear fB40_ fB41_ fB50_ fB51_ fB60_ fB61_ fB70_ fB71_ fBX0_ fBX1_
  replace B4 := Aside0.mk (B4.out.below hb)
  replace B5 := Aside0.mk (B5.out.below hb)
  replace B6 := Aside0.mk (B6.out.below hb)
  replace B7 := Aside0.mk (B7.out.below hb)
  replace BX := Aside0.mk (BX.out.below hb)
  replace HB := Aside0.mk (below_step HB.out hb)
  clear hb
  have fB40_ := B4.out.cell 0 rfl
  have fB41_ := B4.out.cell 1 rfl
  have fB50_ := B5.out.cell 0 rfl
  have fB51_ := B5.out.cell 1 rfl
  have fB60_ := B6.out.cell 0 rfl
  have fB61_ := B6.out.cell 1 rfl
  have fB70_ := B7.out.cell 0 rfl
  have fB71_ := B7.out.cell 1 rfl
  have fBX0_ := BX.out.cell 0 rfl
  have fBX1_ := BX.out.cell 1 rfl
  cases i1 with
  | false =>
    clear HI2
    clear HI3
    clear HI4
    as_aux_lemma =>
      obtain ⟨e1_, e2_, e3_⟩ := HNO.out (by simp)
      clear HNO HYES
      subst e1_
      subst e2_
      subst e3_
      go_wp2_with fail
      refine (comfitlaw02_awake.calls k true _ HAW.out).mono ?_
      rintro e w9 ⟨rfl, hb⟩
      go_wp2_with fail
      go_ret
      exact ⟨rfl, below_step HB.out hb⟩
  | true =>
    go_wp2_with fail
    refine (comfitref02_Is.calls by_ bo i2 _ HI2.out).mono ?_
    rintro e w5 ⟨rfl, hb⟩
    clear fB40_ fB41_ fB50_ fB51_ fB60_ fB61_ fB70_ fB71_ fBX0_ fBX1_
    replace B4 := Aside0.mk (B4.out.below hb)
    replace B5 := Aside0.mk (B5.out.below hb)
    replace B6 := Aside0.mk (B6.out.below hb)
    replace B7 := Aside0.mk (B7.out.below hb)
    replace BX := Aside0.mk (BX.out.below hb)
    replace HB := Aside0.mk (below_step HB.out hb)
    clear hb
    have fB40_ := B4.out.cell 0 rfl
    have fB41_ := B4.out.cell 1 rfl
    have fB50_ := B5.out.cell 0 rfl
    have fB51_ := B5.out.cell 1 rfl
    have fB60_ := B6.out.cell 0 rfl
    have fB61_ := B6.out.cell 1 rfl
    have fB70_ := B7.out.cell 0 rfl
    have fB71_ := B7.out.cell 1 rfl
    have fBX0_ := BX.out.cell 0 rfl
    have fBX1_ := BX.out.cell 1 rfl
    cases i2 with
    | false =>
      clear HI3
      clear HI4
      as_aux_lemma =>
        obtain ⟨e1_, e2_, e3_⟩ := HNO.out (by simp)
        clear HNO HYES
        subst e1_
        subst e2_
        subst e3_
        go_wp2_with fail
        refine (comfitlaw02_awake.calls k true _ HAW.out).mono ?_
        rintro e w9 ⟨rfl, hb⟩
        go_wp2_with fail
        go_ret
        exact ⟨rfl, below_step HB.out hb⟩
    | true =>
      go_wp2_with fail
      refine (comfitref02_Is.calls ry ro i3 _ HI3.out).mono ?_
      rintro e w6 ⟨rfl, hb⟩
      clear fB40_ fB41_ fB50_ fB51_ fB60_ fB61_ fB70_ fB71_ fBX0_ fBX1_
      replace B4 := Aside0.mk (B4.out.below hb)
      replace B5 := Aside0.mk (B5.out.below hb)
      replace B6 := Aside0.mk (B6.out.below hb)
      replace B7 := Aside0.mk (B7.out.below hb)
      replace BX := Aside0.mk (BX.out.below hb)
      replace HB := Aside0.mk (below_step HB.out hb)
      clear hb
      have fB40_ := B4.out.cell 0 rfl
      have fB41_ := B4.out.cell 1 rfl
      have fB50_ := B5.out.cell 0 rfl
      have fB51_ := B5.out.cell 1 rfl
      have fB60_ := B6.out.cell 0 rfl
      have fB61_ := B6.out.cell 1 rfl
      have fB70_ := B7.out.cell 0 rfl
      have fB71_ := B7.out.cell 1 rfl
      have fBX0_ := BX.out.cell 0 rfl
      have fBX1_ := BX.out.cell 1 rfl
      cases i3 with
      | false =>
        clear HI4
        as_aux_lemma =>
          obtain ⟨e1_, e2_, e3_⟩ := HNO.out (by simp)
          clear HNO HYES
          subst e1_
          subst e2_
          subst e3_
          go_wp2_with fail
          refine (comfitlaw02_awake.calls k true _ HAW.out).mono ?_
          rintro e w9 ⟨rfl, hb⟩
          go_wp2_with fail
          go_ret
          exact ⟨rfl, below_step HB.out hb⟩
      | true =>
        go_wp2_with fail
        refine (comfitref02_Is.calls ay ao i4 _ HI4.out).mono ?_
        rintro e w7 ⟨rfl, hb⟩
        clear fB40_ fB41_ fB50_ fB51_ fB60_ fB61_ fB70_ fB71_ fBX0_ fBX1_
        replace B4 := Aside0.mk (B4.out.below hb)
        replace B5 := Aside0.mk (B5.out.below hb)
        replace B6 := Aside0.mk (B6.out.below hb)
        replace B7 := Aside0.mk (B7.out.below hb)
        replace BX := Aside0.mk (BX.out.below hb)
        replace HB := Aside0.mk (below_step HB.out hb)
        clear hb
        have fB40_ := B4.out.cell 0 rfl
        have fB41_ := B4.out.cell 1 rfl
        have fB50_ := B5.out.cell 0 rfl
        have fB51_ := B5.out.cell 1 rfl
        have fB60_ := B6.out.cell 0 rfl
        have fB61_ := B6.out.cell 1 rfl
        have fB70_ := B7.out.cell 0 rfl
        have fB71_ := B7.out.cell 1 rfl
        have fBX0_ := BX.out.cell 0 rfl
        have fBX1_ := BX.out.cell 1 rfl
        cases i4 with
        | false =>
          as_aux_lemma =>
            obtain ⟨e1_, e2_, e3_⟩ := HNO.out (by simp)
            clear HNO HYES
            subst e1_
            subst e2_
            subst e3_
            go_wp2_with fail
            refine (comfitlaw02_awake.calls k true _ HAW.out).mono ?_
            rintro e w9 ⟨rfl, hb⟩
            go_wp2_with fail
            go_ret
            exact ⟨rfl, below_step HB.out hb⟩
        | true =>
          have HRF := Aside0.mk (HYES.out (by rfl))
          clear HNO HYES
          go_wp2_with fail
          refine (comfitref02_Find.calls k gy go by_ bo ry ro ay ao r1 r2 e0 _ HRF.out).mono ?_
          rintro e w8 ⟨rfl, hb⟩
          clear fB40_ fB41_ fB50_ fB51_ fB60_ fB61_ fB70_ fB71_ fBX0_ fBX1_
          replace BX := Aside0.mk (BX.out.below hb)
          replace HB := Aside0.mk (below_step HB.out hb)
          clear hb HRF B4 B5 B6 B7
          have BYn := Aside0.mk (Box.new HB.out #[.int .i64 0, .int .i64 0] 67)
          have z0_ := BYn.out.cell 0 rfl
          have z1_ := BYn.out.cell 1 rfl
          have y0_ := BYn.out.frozen 0
          have y1_ := BYn.out.frozen 1
          have HN := Aside0.mk (box2 HB.out (.int .i64 r1) (.int .i64 r2) 67)
          have k_ := BX.out.below HN.out.1
          have fx0_ := k_.cell 0 rfl
          have fx1_ := k_.cell 1 rfl
          have fy0_ := HN.out.2.cell 0 rfl
          have fy1_ := HN.out.2.cell 1 rfl
          clear k_
          go_wp2_with fail
          refine (comfitlaw02_awake.calls k true _ HAW.out).mono ?_
          rintro e w9 ⟨rfl, hb⟩
          go_wp2_with fail
          go_ret
          exact ⟨rfl, below_step HB.out (below_step HN.out.1 hb)⟩
end Go.Proofs.Ytdppnmfljfdhaaa.X
