/- The walk through the law LotsFound: told by the results that its calls are known to have. -/
import Derived.Test.YtdppnmfljfdhaaaQHFind
import Derived.Test.YtdppnmfljfdhaaaQHRFind
import Derived.Test.YtdppnmfljfdhaaaQXL
import Derived.Test.YtdppnmfljfdhaaaQXR
import Derived.Test.YtdppnmfljfdhaaaQXcomfitlaw02awake
import Derived.Test.YtdppnmfljfdhaaaQHEnough
import Derived.Test.YtdppnmfljfdhaaaQHFinds
set_option linter.unusedVariables false
set_option linter.unusedSimpArgs false
namespace Go.Proofs.Ytdppnmfljfdhaaa.X
open Go.RowKit Go.Proofs.YtdppnmfljfdhaaaW.PrintWords Go.Proofs.YtdppnmfljfdhaaaW.PrintLast Go.Proofs.YtdppnmfljfdhaaaW.PrintMore
attribute [local go_sem] max2_int min2_int max_two min_two max_three min_three max_four min_four
attribute [local go_sem] Oper.semAt_some

/-- What the law's own function tells of the plan of n and c. -/
def EnoughIs (k : Nat) (gy go by_ bo ry ro ay ao n c : Int) (r : Bool) : Prop := ∃ (T L P Q : List Int) (x1 x2 y1 y2 : Int), lots_Single.f n c = some (T, L, 0) ∧ comfitlaw02_Of.f T L = some (P, Q) ∧ lots_Taken.f k T L gy go = some (x1, x2, 0) ∧ lots_Taken.f k P Q by_ bo = some (y1, y2, 0) ∧
  comfitlaw02_unit.f x1 x2 = some true ∧ comfitlaw02_unit.f y1 y2 = some true ∧ fOk (x1, x2) (y1, y2) ry ro ay ao = r
theorem enough_is (k : Nat) (gy go by_ bo ry ro ay ao n c : Int) (r : Bool) (h : EnoughIs k gy go by_ bo ry ro ay ao n c r) (g2 g3 g4 g5 : Nat) (w0 w : World)
    (b2 : Box w0 g2 #[.int .i64 gy, .int .i64 go] 26 w) (b3 : Box w0 g3 #[.int .i64 by_, .int .i64 bo] 26 w) (b4 : Box w0 g4 #[.int .i64 ry, .int .i64 ro] 26 w) (b5 : Box w0 g5 #[.int .i64 ay, .int .i64 ao] 26 w) :
    Calls Try.prog 52 #[.int .i64 n, .int .i64 c, .pointer (some ⟨g2, 0, none⟩), .pointer (some ⟨g3, 0, none⟩), .pointer (some ⟨g4, 0, none⟩), .pointer (some ⟨g5, 0, none⟩)] w fun e w' => e = .returned (.tuple #[.bool r, .bool true]) ∧ Below w.heap.size w w' := by
  obtain ⟨T, L, P, Q, x1, x2, y1, y2, hs, hof, hta, htb, hua, hub, rfl⟩ := h
  exact enough_calls k n c gy go by_ bo ry ro ay ao T L P Q x1 x2 y1 y2 g2 g3 g4 g5 w0 w b2 b3 b4 b5 hs hof hta htb hua hub
def fouT.T1 : Bool × List (List Nat × List Nat) := (true, [([], []), ([0], [0]), ([], []), ([2, 1], [2]), ([], []), ([4, 3], [4]), ([], []), ([6, 5], [6]), ([1, 3, 5, 7, 7], [1, 3, 5, 7]), ([8], [8]), ([9], [9]), ([9], [9]), ([], []), ([12, 10, 8, 0, 1, 2, 3, 4, 5, 6, 7, 8, 9, 10, 12], [10, 12]), ([11, 13, 0, 1, 2, 3, 4, 5, 6, 7, 8, 9, 10, 11, 12, 13], [11])])
def fouT.B1 : List Nat := [0, 1, 0, 7, 0, 31, 0, 127, 255, 511, 1023, 1023, 0, 6143, 16383]
theorem fouT.tab1 : rtab .any (opsOf Try.f18 1) = fouT.T1 := by kernel_rfl
theorem fouT.bits1 : waitsOk fouT.T1.2 fouT.B1 = true := by kernel_rfl
set_option maxRecDepth 100000 in
set_option maxHeartbeats 16000000 in
theorem LotsFound_calls (k : Nat) (gy go by_ bo ry ro ay ao r1 r2 e0 : Int) (n c nv cv : Int) (i1 i2 i3 i4 : Bool) (w : World)
    (hfind : FindIs k gy go by_ bo ry ro ay ao r1 r2 e0) (haw : comfitlaw02_awake.f k = some true)
    (h1 : comfitref02_Is.f gy go = some i1) (h2 : comfitref02_Is.f by_ bo = some i2) (h3 : comfitref02_Is.f ry ro = some i3) (h4 : comfitref02_Is.f ay ao = some i4)
    (hno : (i1 && i2 && i3 && i4) = false → e0 = 2)
    (hyes : (i1 && i2 && i3 && i4) = true → ((e0 = 0 ∧ EnoughIs k gy go by_ bo ry ro ay ao r1 r2 true) ∨ e0 = 4) ∧ wrap64 (1 + wrap64 (Int.tmod (IntKind.u64.wrap n) 12)) = nv ∧ ¬ IntKind.u64.wrap nv = 0 ∧ wrap64 (Int.tmod (IntKind.u64.wrap c) (IntKind.u64.wrap nv)) = cv ∧
      ((EnoughIs k gy go by_ bo ry ro ay ao nv cv false) ∨ (EnoughIs k gy go by_ bo ry ro ay ao nv cv true ∧ e0 = 0 ∧ (r1 < nv ∨ (¬ r1 < nv ∧ r1 = nv ∧ r2 ≤ cv))))) :
    Calls Try.prog 18 #[.agg #[.int .i64 gy, .int .i64 go], .agg #[.int .i64 by_, .int .i64 bo], .agg #[.int .i64 ry, .int .i64 ro], .agg #[.int .i64 ay, .int .i64 ao], .int .i64 n, .int .i64 c] w fun e w' => e = .returned (.bool true) ∧ Below w.heap.size w w' := by
  have hu26 := Try.underlying26
  have hu34 := Try.underlying34
  have hu67 := Try.underlying67
  have HFI := Aside0.mk hfind
  have HAW := Aside0.mk haw
  have HI1 := Aside0.mk h1
  have HI2 := Aside0.mk h2
  have HI3 := Aside0.mk h3
  have HI4 := Aside0.mk h4
  have HNO := Aside0.mk hno
  have HYES := Aside0.mk hyes
  have HC1 : Aside0 (comfitlaw02_chance.f gy go = some (gy, go)) := ⟨rfl⟩
  have HC2 : Aside0 (comfitlaw02_chance.f by_ bo = some (by_, bo)) := ⟨rfl⟩
  have HC3 : Aside0 (comfitlaw02_chance.f ry ro = some (ry, ro)) := ⟨rfl⟩
  have HC4 : Aside0 (comfitlaw02_chance.f ay ao = some (ay, ao)) := ⟨rfl⟩
  clear hfind haw h1 h2 h3 h4 hno hyes
  have HB := Aside0.mk (below_alloc (below_alloc (below_alloc (below_alloc (Below.refl w.heap.size w) (.cells #[.int .i64 gy, .int .i64 go] 26)) (.cells #[.int .i64 by_, .int .i64 bo] 26)) (.cells #[.int .i64 ry, .int .i64 ro] 26)) (.cells #[.int .i64 ay, .int .i64 ao] 26))
  have B4 := Aside0.mk ((((Box.new (Below.refl w.heap.size w) #[.int .i64 gy, .int .i64 go] 26).alloc (.cells #[.int .i64 by_, .int .i64 bo] 26)).alloc (.cells #[.int .i64 ry, .int .i64 ro] 26)).alloc (.cells #[.int .i64 ay, .int .i64 ao] 26))
  have B5 := Aside0.mk (((Box.new (below_alloc (Below.refl w.heap.size w) (.cells #[.int .i64 gy, .int .i64 go] 26)) #[.int .i64 by_, .int .i64 bo] 26).alloc (.cells #[.int .i64 ry, .int .i64 ro] 26)).alloc (.cells #[.int .i64 ay, .int .i64 ao] 26))
  have B6 := Aside0.mk ((Box.new (below_alloc (below_alloc (Below.refl w.heap.size w) (.cells #[.int .i64 gy, .int .i64 go] 26)) (.cells #[.int .i64 by_, .int .i64 bo] 26)) #[.int .i64 ry, .int .i64 ro] 26).alloc (.cells #[.int .i64 ay, .int .i64 ao] 26))
  have B7 := Aside0.mk (Box.new (below_alloc (below_alloc (below_alloc (Below.refl w.heap.size w) (.cells #[.int .i64 gy, .int .i64 go] 26)) (.cells #[.int .i64 by_, .int .i64 bo] 26)) (.cells #[.int .i64 ry, .int .i64 ro] 26)) #[.int .i64 ay, .int .i64 ao] 26)
  simp only [World.size_alloc] at B5 B6 B7
  go_enter Try.func18, Try.ntmps18
  go_wp2_with fail
  generalize ((((w.alloc (.cells #[.int .i64 gy, .int .i64 go] 26)).alloc (.cells #[.int .i64 by_, .int .i64 bo] 26)).alloc (.cells #[.int .i64 ry, .int .i64 ro] 26)).alloc (.cells #[.int .i64 ay, .int .i64 ao] 26)) = w1 at B4 B5 B6 B7 HB ⊢
  refine start_ (n := 15) (S := CQ w.heap.size (.int .i64 gy) (.int .i64 go) (w.heap.size + 1) (.int .i64 by_) (.int .i64 bo) (w.heap.size + 1 + 1) (.int .i64 ry) (.int .i64 ro) (w.heap.size + 1 + 1 + 1) (.int .i64 ay) (.int .i64 ao) w w1) (ds := []) #[false, false, false, false, false, false, false, false, false, false, false, false, false, false, false] (by kernel_rfl) rfl rfl (cq_of B4.out B5.out B6.out B7.out HB.out (below_drew (Below.refl _ _))) (fun hHeld => ?_)
  refine with_tabW fouT.tab1 fouT.bits1 (fun HT_ HW_ => ?_)
  generalize (World.drew _) = w2 at hHeld ⊢
  refine take_ (i := 0) (N := some 21) (v := ?_) (a' := ?_) #[true, false, false, false, false, false, false, false, false, false, false, false, false, false, false] rfl rfl (take_ofW HT_.out HW_.out (by kernel_rfl)) (fun _ _ _ h => h) (Or.inl ⟨by rfl, ?_⟩) hHeld ?_ ?_
  rotate_left
  · rintro w' ⟨s0, s1, s2, s3, s4, s5, s6, s7, s8, s9⟩
    go_simp
    with_reducible rfl
  rotate_left
  · simp only [Act.put, List.setIfInBounds_toArray, List.set_cons_zero, List.set_cons_succ, i64_w, i32_w]
    rfl
  refine take_ (i := 2) (N := some 23) (v := ?_) (a' := ?_) #[true, false, true, false, false, false, false, false, false, false, false, false, false, false, false] rfl rfl (take_ofW HT_.out HW_.out (by kernel_rfl)) (fun _ _ _ h => h) (Or.inl ⟨by rfl, ?_⟩) hHeld ?_ ?_
  rotate_left
  · rintro w' ⟨s0, s1, s2, s3, s4, s5, s6, s7, s8, s9⟩
    go_simp
    with_reducible rfl
  rotate_left
  · simp only [Act.put, List.setIfInBounds_toArray, List.set_cons_zero, List.set_cons_succ, i64_w, i32_w]
    rfl
  refine take_ (i := 4) (N := some 25) (v := ?_) (a' := ?_) #[true, false, true, false, true, false, false, false, false, false, false, false, false, false, false] rfl rfl (take_ofW HT_.out HW_.out (by kernel_rfl)) (fun _ _ _ h => h) (Or.inl ⟨by rfl, ?_⟩) hHeld ?_ ?_
  rotate_left
  · rintro w' ⟨s0, s1, s2, s3, s4, s5, s6, s7, s8, s9⟩
    go_simp
    with_reducible rfl
  rotate_left
  · simp only [Act.put, List.setIfInBounds_toArray, List.set_cons_zero, List.set_cons_succ, i64_w, i32_w]
    rfl
  refine take_ (i := 6) (N := some 27) (v := ?_) (a' := ?_) #[true, false, true, false, true, false, true, false, false, false, false, false, false, false, false] rfl rfl (take_ofW HT_.out HW_.out (by kernel_rfl)) (fun _ _ _ h => h) (Or.inl ⟨by rfl, ?_⟩) hHeld ?_ ?_
  rotate_left
  · rintro w' ⟨s0, s1, s2, s3, s4, s5, s6, s7, s8, s9⟩
    go_simp
    with_reducible rfl
  rotate_left
  · simp only [Act.put, List.setIfInBounds_toArray, List.set_cons_zero, List.set_cons_succ, i64_w, i32_w]
    rfl
  refine join_ (σ := Nat) 2 #[true, true, true, true, true, true, true, true, true, true, true, true, true, false, false] (fun s_ => [(22, .agg #[.int .i64 gy, .int .i64 go]), (24, .agg #[.int .i64 by_, .int .i64 bo]), (26, .agg #[.int .i64 ry, .int .i64 ro]), (28, .agg #[.int .i64 ay, .int .i64 ao]), (29, .tuple #[.agg #[.int .i64 r1, .int .i64 r2], .int .i64 e0]), (13, .pointer (some ⟨s_, 0, none⟩)), (20, .tuple #[.agg #[.int .i64 r1, .int .i64 r2], .int .i64 e0]), (30, .agg #[.int .i64 r1, .int .i64 r2]), (31, .int .i64 e0)]) (fun s_ w' => CQ w.heap.size (.int .i64 gy) (.int .i64 go) (w.heap.size + 1) (.int .i64 by_) (.int .i64 bo) (w.heap.size + 1 + 1) (.int .i64 ry) (.int .i64 ro) (w.heap.size + 1 + 1 + 1) (.int .i64 ay) (.int .i64 ao) w w1 w' ∧ Box w1 s_ #[.int .i64 0, .int .i64 0] 67 w') ?_ ?_
  rotate_left
  · intro hCont
    refine two_ (i := 1) (j := 12) (Ni := some 22) (Nj := some 13) #[true, true, true, false, true, false, true, false, false, false, false, false, false, false, false] #[true, false, true, false, true, false, true, false, false, false, false, false, true, false, false] rfl rfl rfl rfl (two_of HT_.out (by kernel_rfl)) (by decide) (by decide) (fun K hK => ?_) (fun K hK => ?_)
    · skip
      refine goes_ Try.func21 (by kernel_rfl) rfl #[.agg #[.int .i64 gy, .int .i64 go]] (by rfl) rfl rfl (by (try simp only [List.map_toArray, List.map_cons, List.map_nil]); first | done | rfl | (simp only [List.length_drop, List.length_take]; rfl)) ?_
      refine (comfitlaw02_chance.calls gy go gy go _ HC1.out).mono ?_
      rintro e wr1 ⟨rfl, hb⟩
      refine ⟨_, rfl, ?_⟩
      refine hK.out _ _ (CQ.below hHeld hb) (fun hHeld => ?_)
      clear hK K hb
      refine norm_ (a' := ?_) ?_ ?_
      rotate_left
      · show Act.put _ (some 22) _ = _
        simp only [Act.put, List.setIfInBounds_toArray, List.set_cons_zero, List.set_cons_succ, i64_w, i32_w]
        rfl
      refine two_ (i := 3) (j := 12) (Ni := some 24) (Nj := some 13) #[true, true, true, true, true, false, true, false, false, false, false, false, false, false, false] #[true, true, true, false, true, false, true, false, false, false, false, false, true, false, false] rfl rfl rfl rfl (two_of HT_.out (by kernel_rfl)) (by decide) (by decide) (fun K hK => ?_) (fun K hK => ?_)
      · skip
        refine goes_ Try.func21 (by kernel_rfl) rfl #[.agg #[.int .i64 by_, .int .i64 bo]] (by rfl) rfl rfl (by (try simp only [List.map_toArray, List.map_cons, List.map_nil]); first | done | rfl | (simp only [List.length_drop, List.length_take]; rfl)) ?_
        refine (comfitlaw02_chance.calls by_ bo by_ bo _ HC2.out).mono ?_
        rintro e wr2 ⟨rfl, hb⟩
        refine ⟨_, rfl, ?_⟩
        refine hK.out _ _ (CQ.below hHeld hb) (fun hHeld => ?_)
        clear hK K hb
        refine norm_ (a' := ?_) ?_ ?_
        rotate_left
        · show Act.put _ (some 24) _ = _
          simp only [Act.put, List.setIfInBounds_toArray, List.set_cons_zero, List.set_cons_succ, i64_w, i32_w]
          rfl
        refine two_ (i := 5) (j := 12) (Ni := some 26) (Nj := some 13) #[true, true, true, true, true, true, true, false, false, false, false, false, false, false, false] #[true, true, true, true, true, false, true, false, false, false, false, false, true, false, false] rfl rfl rfl rfl (two_of HT_.out (by kernel_rfl)) (by decide) (by decide) (fun K hK => ?_) (fun K hK => ?_)
        · skip
          refine goes_ Try.func21 (by kernel_rfl) rfl #[.agg #[.int .i64 ry, .int .i64 ro]] (by rfl) rfl rfl (by (try simp only [List.map_toArray, List.map_cons, List.map_nil]); first | done | rfl | (simp only [List.length_drop, List.length_take]; rfl)) ?_
          refine (comfitlaw02_chance.calls ry ro ry ro _ HC3.out).mono ?_
          rintro e wr3 ⟨rfl, hb⟩
          refine ⟨_, rfl, ?_⟩
          refine hK.out _ _ (CQ.below hHeld hb) (fun hHeld => ?_)
          clear hK K hb
          refine norm_ (a' := ?_) ?_ ?_
          rotate_left
          · show Act.put _ (some 26) _ = _
            simp only [Act.put, List.setIfInBounds_toArray, List.set_cons_zero, List.set_cons_succ, i64_w, i32_w]
            rfl
          refine two_ (i := 7) (j := 12) (Ni := some 28) (Nj := some 13) #[true, true, true, true, true, true, true, true, false, false, false, false, false, false, false] #[true, true, true, true, true, true, true, false, false, false, false, false, true, false, false] rfl rfl rfl rfl (two_of HT_.out (by kernel_rfl)) (by decide) (by decide) (fun K hK => ?_) (fun K hK => ?_)
          · skip
            refine goes_ Try.func21 (by kernel_rfl) rfl #[.agg #[.int .i64 ay, .int .i64 ao]] (by rfl) rfl rfl (by (try simp only [List.map_toArray, List.map_cons, List.map_nil]); first | done | rfl | (simp only [List.length_drop, List.length_take]; rfl)) ?_
            refine (comfitlaw02_chance.calls ay ao ay ao _ HC4.out).mono ?_
            rintro e wr4 ⟨rfl, hb⟩
            refine ⟨_, rfl, ?_⟩
            refine hK.out _ _ (CQ.below hHeld hb) (fun hHeld => ?_)
            clear hK K hb
            refine norm_ (a' := ?_) ?_ ?_
            rotate_left
            · show Act.put _ (some 28) _ = _
              simp only [Act.put, List.setIfInBounds_toArray, List.set_cons_zero, List.set_cons_succ, i64_w, i32_w]
              rfl
            refine two_ (i := 8) (j := 12) (Ni := some 29) (Nj := some 13) #[true, true, true, true, true, true, true, true, true, false, false, false, false, false, false] #[true, true, true, true, true, true, true, true, false, false, false, false, true, false, false] rfl rfl rfl rfl (two_of HT_.out (by kernel_rfl)) (by decide) (by decide) (fun K hK => ?_) (fun K hK => ?_)
            · skip
              refine goes_ Try.func50 (by kernel_rfl) rfl #[.agg #[.int .i64 gy, .int .i64 go], .agg #[.int .i64 by_, .int .i64 bo], .agg #[.int .i64 ry, .int .i64 ro], .agg #[.int .i64 ay, .int .i64 ao]] (by rfl) rfl rfl (by (try simp only [List.map_toArray, List.map_cons, List.map_nil]); first | done | rfl | (simp only [List.length_drop, List.length_take]; rfl)) ?_
              refine (lots_Find.calls k gy go by_ bo ry ro ay ao r1 r2 e0 _ HFI.out).mono ?_
              rintro e wr5 ⟨rfl, hb⟩
              refine ⟨_, rfl, ?_⟩
              refine hK.out _ _ (CQ.below hHeld hb) (fun hHeld => ?_)
              clear hK K hb
              refine norm_ (a' := ?_) ?_ ?_
              rotate_left
              · show Act.put _ (some 29) _ = _
                simp only [Act.put, List.setIfInBounds_toArray, List.set_cons_zero, List.set_cons_succ, i64_w, i32_w]
                rfl
              refine pure_ (i := 9) (N := some 20) (v := ?_) (a' := ?_) #[true, true, true, true, true, true, true, true, true, true, false, false, false, false, false] rfl rfl (any_of HT_.out (by kernel_rfl)) (fun _ _ _ h => h) (Or.inl ⟨by rfl, ?_⟩) ?_ ?_
              rotate_left
              · intro w'
                go_simp
                with_reducible rfl
              rotate_left
              · simp only [Act.put, List.setIfInBounds_toArray, List.set_cons_zero, List.set_cons_succ, i64_w, i32_w]
                rfl
              refine pure_ (i := 10) (N := some 30) (v := ?_) (a' := ?_) #[true, true, true, true, true, true, true, true, true, true, true, false, false, false, false] rfl rfl (any_of HT_.out (by kernel_rfl)) (fun _ _ _ h => h) (Or.inl ⟨by rfl, ?_⟩) ?_ ?_
              rotate_left
              · intro w'
                go_simp
                with_reducible rfl
              rotate_left
              · simp only [Act.put, List.setIfInBounds_toArray, List.set_cons_zero, List.set_cons_succ, i64_w, i32_w]
                rfl
              refine pure_ (i := 11) (N := some 31) (v := ?_) (a' := ?_) #[true, true, true, true, true, true, true, true, true, true, true, true, false, false, false] rfl rfl (any_of HT_.out (by kernel_rfl)) (fun _ _ _ h => h) (Or.inl ⟨by rfl, ?_⟩) ?_ ?_
              rotate_left
              · intro w'
                go_simp
                with_reducible rfl
              rotate_left
              · simp only [Act.put, List.setIfInBounds_toArray, List.set_cons_zero, List.set_cons_succ, i64_w, i32_w]
                rfl
              refine one_ (i := 12) (N := some 13) #[true, true, true, true, true, true, true, true, true, true, true, true, true, false, false] rfl rfl (one_of HT_.out (by kernel_rfl)) (by decide) (fun K hK => ?_)
              refine box_step ?hg (N := 13) ?hd (cs := #[.int .i64 0, .int .i64 0]) (t := 67) ?hr ?_; (case hd => rfl); (case hg => rfl); (case hr => first | (go_simp; done) | (go_simp; rfl))
              intro gx hg wr6 hbox hb
              have HX : Aside0 (Box w1 gx #[.int .i64 0, .int .i64 0] 67 _) := ⟨⟨by rw [hg]; exact hHeld.2.2.2.2.2.2.2.2.2.size, hbox⟩⟩
              clear hg hbox
              refine hK.out _ _ (CQ.below hHeld hb) (fun hHeld => ?_)
              clear hK K hb
              refine norm_ (a' := ?_) ?_ ?_
              rotate_left
              · show Act.put _ (some 13) _ = _
                simp only [Act.put, List.setIfInBounds_toArray, List.set_cons_zero, List.set_cons_succ, i64_w, i32_w]
                rfl
              exact norm_ (by simp only [putAll, Act.put, List.setIfInBounds_toArray, List.set_cons_zero, List.set_cons_succ]) (hCont gx _ ⟨hHeld, HX.out⟩)
            · skip
              refine box_step ?hg (N := 13) ?hd (cs := #[.int .i64 0, .int .i64 0]) (t := 67) ?hr ?_; (case hd => rfl); (case hg => rfl); (case hr => first | (go_simp; done) | (go_simp; rfl))
              intro gx hg wr7 hbox hb
              have HX : Aside0 (Box w1 gx #[.int .i64 0, .int .i64 0] 67 _) := ⟨⟨by rw [hg]; exact hHeld.2.2.2.2.2.2.2.2.2.size, hbox⟩⟩
              clear hg hbox
              refine hK.out _ _ (CQ.below hHeld hb) (fun hHeld => ?_)
              clear hK K hb
              refine norm_ (a' := ?_) ?_ ?_
              rotate_left
              · show Act.put _ (some 13) _ = _
                simp only [Act.put, List.setIfInBounds_toArray, List.set_cons_zero, List.set_cons_succ, i64_w, i32_w]
                rfl
              refine one_ (i := 8) (N := some 29) #[true, true, true, true, true, true, true, true, true, false, false, false, true, false, false] rfl rfl (one_of HT_.out (by kernel_rfl)) (by decide) (fun K hK => ?_)
              refine goes_ Try.func50 (by kernel_rfl) rfl #[.agg #[.int .i64 gy, .int .i64 go], .agg #[.int .i64 by_, .int .i64 bo], .agg #[.int .i64 ry, .int .i64 ro], .agg #[.int .i64 ay, .int .i64 ao]] (by rfl) rfl rfl (by (try simp only [List.map_toArray, List.map_cons, List.map_nil]); first | done | rfl | (simp only [List.length_drop, List.length_take]; rfl)) ?_
              refine (lots_Find.calls k gy go by_ bo ry ro ay ao r1 r2 e0 _ HFI.out).mono ?_
              rintro e wr8 ⟨rfl, hb⟩
              refine ⟨_, rfl, ?_⟩
              replace HX := Aside0.mk (HX.out.below hb)
              refine hK.out _ _ (CQ.below hHeld hb) (fun hHeld => ?_)
              clear hK K hb
              refine norm_ (a' := ?_) ?_ ?_
              rotate_left
              · show Act.put _ (some 29) _ = _
                simp only [Act.put, List.setIfInBounds_toArray, List.set_cons_zero, List.set_cons_succ, i64_w, i32_w]
                rfl
              refine pure_ (i := 9) (N := some 20) (v := ?_) (a' := ?_) #[true, true, true, true, true, true, true, true, true, true, false, false, true, false, false] rfl rfl (any_of HT_.out (by kernel_rfl)) (fun _ _ _ h => h) (Or.inl ⟨by rfl, ?_⟩) ?_ ?_
              rotate_left
              · intro w'
                go_simp
                with_reducible rfl
              rotate_left
              · simp only [Act.put, List.setIfInBounds_toArray, List.set_cons_zero, List.set_cons_succ, i64_w, i32_w]
                rfl
              refine pure_ (i := 10) (N := some 30) (v := ?_) (a' := ?_) #[true, true, true, true, true, true, true, true, true, true, true, false, true, false, false] rfl rfl (any_of HT_.out (by kernel_rfl)) (fun _ _ _ h => h) (Or.inl ⟨by rfl, ?_⟩) ?_ ?_
              rotate_left
              · intro w'
                go_simp
                with_reducible rfl
              rotate_left
              · simp only [Act.put, List.setIfInBounds_toArray, List.set_cons_zero, List.set_cons_succ, i64_w, i32_w]
                rfl
              refine pure_ (i := 11) (N := some 31) (v := ?_) (a' := ?_) #[true, true, true, true, true, true, true, true, true, true, true, true, true, false, false] rfl rfl (any_of HT_.out (by kernel_rfl)) (fun _ _ _ h => h) (Or.inl ⟨by rfl, ?_⟩) ?_ ?_
              rotate_left
              · intro w'
                go_simp
                with_reducible rfl
              rotate_left
              · simp only [Act.put, List.setIfInBounds_toArray, List.set_cons_zero, List.set_cons_succ, i64_w, i32_w]
                rfl
              exact norm_ (by simp only [putAll, Act.put, List.setIfInBounds_toArray, List.set_cons_zero, List.set_cons_succ]) (hCont gx _ ⟨hHeld, HX.out⟩)
          · skip
            refine box_step ?hg (N := 13) ?hd (cs := #[.int .i64 0, .int .i64 0]) (t := 67) ?hr ?_; (case hd => rfl); (case hg => rfl); (case hr => first | (go_simp; done) | (go_simp; rfl))
            intro gx hg wr9 hbox hb
            have HX : Aside0 (Box w1 gx #[.int .i64 0, .int .i64 0] 67 _) := ⟨⟨by rw [hg]; exact hHeld.2.2.2.2.2.2.2.2.2.size, hbox⟩⟩
            clear hg hbox
            refine hK.out _ _ (CQ.below hHeld hb) (fun hHeld => ?_)
            clear hK K hb
            refine norm_ (a' := ?_) ?_ ?_
            rotate_left
            · show Act.put _ (some 13) _ = _
              simp only [Act.put, List.setIfInBounds_toArray, List.set_cons_zero, List.set_cons_succ, i64_w, i32_w]
              rfl
            refine one_ (i := 7) (N := some 28) #[true, true, true, true, true, true, true, true, false, false, false, false, true, false, false] rfl rfl (one_of HT_.out (by kernel_rfl)) (by decide) (fun K hK => ?_)
            refine goes_ Try.func21 (by kernel_rfl) rfl #[.agg #[.int .i64 ay, .int .i64 ao]] (by rfl) rfl rfl (by (try simp only [List.map_toArray, List.map_cons, List.map_nil]); first | done | rfl | (simp only [List.length_drop, List.length_take]; rfl)) ?_
            refine (comfitlaw02_chance.calls ay ao ay ao _ HC4.out).mono ?_
            rintro e wr10 ⟨rfl, hb⟩
            refine ⟨_, rfl, ?_⟩
            replace HX := Aside0.mk (HX.out.below hb)
            refine hK.out _ _ (CQ.below hHeld hb) (fun hHeld => ?_)
            clear hK K hb
            refine norm_ (a' := ?_) ?_ ?_
            rotate_left
            · show Act.put _ (some 28) _ = _
              simp only [Act.put, List.setIfInBounds_toArray, List.set_cons_zero, List.set_cons_succ, i64_w, i32_w]
              rfl
            refine one_ (i := 8) (N := some 29) #[true, true, true, true, true, true, true, true, true, false, false, false, true, false, false] rfl rfl (one_of HT_.out (by kernel_rfl)) (by decide) (fun K hK => ?_)
            refine goes_ Try.func50 (by kernel_rfl) rfl #[.agg #[.int .i64 gy, .int .i64 go], .agg #[.int .i64 by_, .int .i64 bo], .agg #[.int .i64 ry, .int .i64 ro], .agg #[.int .i64 ay, .int .i64 ao]] (by rfl) rfl rfl (by (try simp only [List.map_toArray, List.map_cons, List.map_nil]); first | done | rfl | (simp only [List.length_drop, List.length_take]; rfl)) ?_
            refine (lots_Find.calls k gy go by_ bo ry ro ay ao r1 r2 e0 _ HFI.out).mono ?_
            rintro e wr11 ⟨rfl, hb⟩
            refine ⟨_, rfl, ?_⟩
            replace HX := Aside0.mk (HX.out.below hb)
            refine hK.out _ _ (CQ.below hHeld hb) (fun hHeld => ?_)
            clear hK K hb
            refine norm_ (a' := ?_) ?_ ?_
            rotate_left
            · show Act.put _ (some 29) _ = _
              simp only [Act.put, List.setIfInBounds_toArray, List.set_cons_zero, List.set_cons_succ, i64_w, i32_w]
              rfl
            refine pure_ (i := 9) (N := some 20) (v := ?_) (a' := ?_) #[true, true, true, true, true, true, true, true, true, true, false, false, true, false, false] rfl rfl (any_of HT_.out (by kernel_rfl)) (fun _ _ _ h => h) (Or.inl ⟨by rfl, ?_⟩) ?_ ?_
            rotate_left
            · intro w'
              go_simp
              with_reducible rfl
            rotate_left
            · simp only [Act.put, List.setIfInBounds_toArray, List.set_cons_zero, List.set_cons_succ, i64_w, i32_w]
              rfl
            refine pure_ (i := 10) (N := some 30) (v := ?_) (a' := ?_) #[true, true, true, true, true, true, true, true, true, true, true, false, true, false, false] rfl rfl (any_of HT_.out (by kernel_rfl)) (fun _ _ _ h => h) (Or.inl ⟨by rfl, ?_⟩) ?_ ?_
            rotate_left
            · intro w'
              go_simp
              with_reducible rfl
            rotate_left
            · simp only [Act.put, List.setIfInBounds_toArray, List.set_cons_zero, List.set_cons_succ, i64_w, i32_w]
              rfl
            refine pure_ (i := 11) (N := some 31) (v := ?_) (a' := ?_) #[true, true, true, true, true, true, true, true, true, true, true, true, true, false, false] rfl rfl (any_of HT_.out (by kernel_rfl)) (fun _ _ _ h => h) (Or.inl ⟨by rfl, ?_⟩) ?_ ?_
            rotate_left
            · intro w'
              go_simp
              with_reducible rfl
            rotate_left
            · simp only [Act.put, List.setIfInBounds_toArray, List.set_cons_zero, List.set_cons_succ, i64_w, i32_w]
              rfl
            exact norm_ (by simp only [putAll, Act.put, List.setIfInBounds_toArray, List.set_cons_zero, List.set_cons_succ]) (hCont gx _ ⟨hHeld, HX.out⟩)
        · skip
          refine box_step ?hg (N := 13) ?hd (cs := #[.int .i64 0, .int .i64 0]) (t := 67) ?hr ?_; (case hd => rfl); (case hg => rfl); (case hr => first | (go_simp; done) | (go_simp; rfl))
          intro gx hg wr12 hbox hb
          have HX : Aside0 (Box w1 gx #[.int .i64 0, .int .i64 0] 67 _) := ⟨⟨by rw [hg]; exact hHeld.2.2.2.2.2.2.2.2.2.size, hbox⟩⟩
          clear hg hbox
          refine hK.out _ _ (CQ.below hHeld hb) (fun hHeld => ?_)
          clear hK K hb
          refine norm_ (a' := ?_) ?_ ?_
          rotate_left
          · show Act.put _ (some 13) _ = _
            simp only [Act.put, List.setIfInBounds_toArray, List.set_cons_zero, List.set_cons_succ, i64_w, i32_w]
            rfl
          refine one_ (i := 5) (N := some 26) #[true, true, true, true, true, true, true, false, false, false, false, false, true, false, false] rfl rfl (one_of HT_.out (by kernel_rfl)) (by decide) (fun K hK => ?_)
          refine goes_ Try.func21 (by kernel_rfl) rfl #[.agg #[.int .i64 ry, .int .i64 ro]] (by rfl) rfl rfl (by (try simp only [List.map_toArray, List.map_cons, List.map_nil]); first | done | rfl | (simp only [List.length_drop, List.length_take]; rfl)) ?_
          refine (comfitlaw02_chance.calls ry ro ry ro _ HC3.out).mono ?_
          rintro e wr13 ⟨rfl, hb⟩
          refine ⟨_, rfl, ?_⟩
          replace HX := Aside0.mk (HX.out.below hb)
          refine hK.out _ _ (CQ.below hHeld hb) (fun hHeld => ?_)
          clear hK K hb
          refine norm_ (a' := ?_) ?_ ?_
          rotate_left
          · show Act.put _ (some 26) _ = _
            simp only [Act.put, List.setIfInBounds_toArray, List.set_cons_zero, List.set_cons_succ, i64_w, i32_w]
            rfl
          refine one_ (i := 7) (N := some 28) #[true, true, true, true, true, true, true, true, false, false, false, false, true, false, false] rfl rfl (one_of HT_.out (by kernel_rfl)) (by decide) (fun K hK => ?_)
          refine goes_ Try.func21 (by kernel_rfl) rfl #[.agg #[.int .i64 ay, .int .i64 ao]] (by rfl) rfl rfl (by (try simp only [List.map_toArray, List.map_cons, List.map_nil]); first | done | rfl | (simp only [List.length_drop, List.length_take]; rfl)) ?_
          refine (comfitlaw02_chance.calls ay ao ay ao _ HC4.out).mono ?_
          rintro e wr14 ⟨rfl, hb⟩
          refine ⟨_, rfl, ?_⟩
          replace HX := Aside0.mk (HX.out.below hb)
          refine hK.out _ _ (CQ.below hHeld hb) (fun hHeld => ?_)
          clear hK K hb
          refine norm_ (a' := ?_) ?_ ?_
          rotate_left
          · show Act.put _ (some 28) _ = _
            simp only [Act.put, List.setIfInBounds_toArray, List.set_cons_zero, List.set_cons_succ, i64_w, i32_w]
            rfl
          refine one_ (i := 8) (N := some 29) #[true, true, true, true, true, true, true, true, true, false, false, false, true, false, false] rfl rfl (one_of HT_.out (by kernel_rfl)) (by decide) (fun K hK => ?_)
          refine goes_ Try.func50 (by kernel_rfl) rfl #[.agg #[.int .i64 gy, .int .i64 go], .agg #[.int .i64 by_, .int .i64 bo], .agg #[.int .i64 ry, .int .i64 ro], .agg #[.int .i64 ay, .int .i64 ao]] (by rfl) rfl rfl (by (try simp only [List.map_toArray, List.map_cons, List.map_nil]); first | done | rfl | (simp only [List.length_drop, List.length_take]; rfl)) ?_
          refine (lots_Find.calls k gy go by_ bo ry ro ay ao r1 r2 e0 _ HFI.out).mono ?_
          rintro e wr15 ⟨rfl, hb⟩
          refine ⟨_, rfl, ?_⟩
          replace HX := Aside0.mk (HX.out.below hb)
          refine hK.out _ _ (CQ.below hHeld hb) (fun hHeld => ?_)
          clear hK K hb
          refine norm_ (a' := ?_) ?_ ?_
          rotate_left
          · show Act.put _ (some 29) _ = _
            simp only [Act.put, List.setIfInBounds_toArray, List.set_cons_zero, List.set_cons_succ, i64_w, i32_w]
            rfl
          refine pure_ (i := 9) (N := some 20) (v := ?_) (a' := ?_) #[true, true, true, true, true, true, true, true, true, true, false, false, true, false, false] rfl rfl (any_of HT_.out (by kernel_rfl)) (fun _ _ _ h => h) (Or.inl ⟨by rfl, ?_⟩) ?_ ?_
          rotate_left
          · intro w'
            go_simp
            with_reducible rfl
          rotate_left
          · simp only [Act.put, List.setIfInBounds_toArray, List.set_cons_zero, List.set_cons_succ, i64_w, i32_w]
            rfl
          refine pure_ (i := 10) (N := some 30) (v := ?_) (a' := ?_) #[true, true, true, true, true, true, true, true, true, true, true, false, true, false, false] rfl rfl (any_of HT_.out (by kernel_rfl)) (fun _ _ _ h => h) (Or.inl ⟨by rfl, ?_⟩) ?_ ?_
          rotate_left
          · intro w'
            go_simp
            with_reducible rfl
          rotate_left
          · simp only [Act.put, List.setIfInBounds_toArray, List.set_cons_zero, List.set_cons_succ, i64_w, i32_w]
            rfl
          refine pure_ (i := 11) (N := some 31) (v := ?_) (a' := ?_) #[true, true, true, true, true, true, true, true, true, true, true, true, true, false, false] rfl rfl (any_of HT_.out (by kernel_rfl)) (fun _ _ _ h => h) (Or.inl ⟨by rfl, ?_⟩) ?_ ?_
          rotate_left
          · intro w'
            go_simp
            with_reducible rfl
          rotate_left
          · simp only [Act.put, List.setIfInBounds_toArray, List.set_cons_zero, List.set_cons_succ, i64_w, i32_w]
            rfl
          exact norm_ (by simp only [putAll, Act.put, List.setIfInBounds_toArray, List.set_cons_zero, List.set_cons_succ]) (hCont gx _ ⟨hHeld, HX.out⟩)
      · skip
        refine box_step ?hg (N := 13) ?hd (cs := #[.int .i64 0, .int .i64 0]) (t := 67) ?hr ?_; (case hd => rfl); (case hg => rfl); (case hr => first | (go_simp; done) | (go_simp; rfl))
        intro gx hg wr16 hbox hb
        have HX : Aside0 (Box w1 gx #[.int .i64 0, .int .i64 0] 67 _) := ⟨⟨by rw [hg]; exact hHeld.2.2.2.2.2.2.2.2.2.size, hbox⟩⟩
        clear hg hbox
        refine hK.out _ _ (CQ.below hHeld hb) (fun hHeld => ?_)
        clear hK K hb
        refine norm_ (a' := ?_) ?_ ?_
        rotate_left
        · show Act.put _ (some 13) _ = _
          simp only [Act.put, List.setIfInBounds_toArray, List.set_cons_zero, List.set_cons_succ, i64_w, i32_w]
          rfl
        refine one_ (i := 3) (N := some 24) #[true, true, true, true, true, false, true, false, false, false, false, false, true, false, false] rfl rfl (one_of HT_.out (by kernel_rfl)) (by decide) (fun K hK => ?_)
        refine goes_ Try.func21 (by kernel_rfl) rfl #[.agg #[.int .i64 by_, .int .i64 bo]] (by rfl) rfl rfl (by (try simp only [List.map_toArray, List.map_cons, List.map_nil]); first | done | rfl | (simp only [List.length_drop, List.length_take]; rfl)) ?_
        refine (comfitlaw02_chance.calls by_ bo by_ bo _ HC2.out).mono ?_
        rintro e wr17 ⟨rfl, hb⟩
        refine ⟨_, rfl, ?_⟩
        replace HX := Aside0.mk (HX.out.below hb)
        refine hK.out _ _ (CQ.below hHeld hb) (fun hHeld => ?_)
        clear hK K hb
        refine norm_ (a' := ?_) ?_ ?_
        rotate_left
        · show Act.put _ (some 24) _ = _
          simp only [Act.put, List.setIfInBounds_toArray, List.set_cons_zero, List.set_cons_succ, i64_w, i32_w]
          rfl
        refine one_ (i := 5) (N := some 26) #[true, true, true, true, true, true, true, false, false, false, false, false, true, false, false] rfl rfl (one_of HT_.out (by kernel_rfl)) (by decide) (fun K hK => ?_)
        refine goes_ Try.func21 (by kernel_rfl) rfl #[.agg #[.int .i64 ry, .int .i64 ro]] (by rfl) rfl rfl (by (try simp only [List.map_toArray, List.map_cons, List.map_nil]); first | done | rfl | (simp only [List.length_drop, List.length_take]; rfl)) ?_
        refine (comfitlaw02_chance.calls ry ro ry ro _ HC3.out).mono ?_
        rintro e wr18 ⟨rfl, hb⟩
        refine ⟨_, rfl, ?_⟩
        replace HX := Aside0.mk (HX.out.below hb)
        refine hK.out _ _ (CQ.below hHeld hb) (fun hHeld => ?_)
        clear hK K hb
        refine norm_ (a' := ?_) ?_ ?_
        rotate_left
        · show Act.put _ (some 26) _ = _
          simp only [Act.put, List.setIfInBounds_toArray, List.set_cons_zero, List.set_cons_succ, i64_w, i32_w]
          rfl
        refine one_ (i := 7) (N := some 28) #[true, true, true, true, true, true, true, true, false, false, false, false, true, false, false] rfl rfl (one_of HT_.out (by kernel_rfl)) (by decide) (fun K hK => ?_)
        refine goes_ Try.func21 (by kernel_rfl) rfl #[.agg #[.int .i64 ay, .int .i64 ao]] (by rfl) rfl rfl (by (try simp only [List.map_toArray, List.map_cons, List.map_nil]); first | done | rfl | (simp only [List.length_drop, List.length_take]; rfl)) ?_
        refine (comfitlaw02_chance.calls ay ao ay ao _ HC4.out).mono ?_
        rintro e wr19 ⟨rfl, hb⟩
        refine ⟨_, rfl, ?_⟩
        replace HX := Aside0.mk (HX.out.below hb)
        refine hK.out _ _ (CQ.below hHeld hb) (fun hHeld => ?_)
        clear hK K hb
        refine norm_ (a' := ?_) ?_ ?_
        rotate_left
        · show Act.put _ (some 28) _ = _
          simp only [Act.put, List.setIfInBounds_toArray, List.set_cons_zero, List.set_cons_succ, i64_w, i32_w]
          rfl
        refine one_ (i := 8) (N := some 29) #[true, true, true, true, true, true, true, true, true, false, false, false, true, false, false] rfl rfl (one_of HT_.out (by kernel_rfl)) (by decide) (fun K hK => ?_)
        refine goes_ Try.func50 (by kernel_rfl) rfl #[.agg #[.int .i64 gy, .int .i64 go], .agg #[.int .i64 by_, .int .i64 bo], .agg #[.int .i64 ry, .int .i64 ro], .agg #[.int .i64 ay, .int .i64 ao]] (by rfl) rfl rfl (by (try simp only [List.map_toArray, List.map_cons, List.map_nil]); first | done | rfl | (simp only [List.length_drop, List.length_take]; rfl)) ?_
        refine (lots_Find.calls k gy go by_ bo ry ro ay ao r1 r2 e0 _ HFI.out).mono ?_
        rintro e wr20 ⟨rfl, hb⟩
        refine ⟨_, rfl, ?_⟩
        replace HX := Aside0.mk (HX.out.below hb)
        refine hK.out _ _ (CQ.below hHeld hb) (fun hHeld => ?_)
        clear hK K hb
        refine norm_ (a' := ?_) ?_ ?_
        rotate_left
        · show Act.put _ (some 29) _ = _
          simp only [Act.put, List.setIfInBounds_toArray, List.set_cons_zero, List.set_cons_succ, i64_w, i32_w]
          rfl
        refine pure_ (i := 9) (N := some 20) (v := ?_) (a' := ?_) #[true, true, true, true, true, true, true, true, true, true, false, false, true, false, false] rfl rfl (any_of HT_.out (by kernel_rfl)) (fun _ _ _ h => h) (Or.inl ⟨by rfl, ?_⟩) ?_ ?_
        rotate_left
        · intro w'
          go_simp
          with_reducible rfl
        rotate_left
        · simp only [Act.put, List.setIfInBounds_toArray, List.set_cons_zero, List.set_cons_succ, i64_w, i32_w]
          rfl
        refine pure_ (i := 10) (N := some 30) (v := ?_) (a' := ?_) #[true, true, true, true, true, true, true, true, true, true, true, false, true, false, false] rfl rfl (any_of HT_.out (by kernel_rfl)) (fun _ _ _ h => h) (Or.inl ⟨by rfl, ?_⟩) ?_ ?_
        rotate_left
        · intro w'
          go_simp
          with_reducible rfl
        rotate_left
        · simp only [Act.put, List.setIfInBounds_toArray, List.set_cons_zero, List.set_cons_succ, i64_w, i32_w]
          rfl
        refine pure_ (i := 11) (N := some 31) (v := ?_) (a' := ?_) #[true, true, true, true, true, true, true, true, true, true, true, true, true, false, false] rfl rfl (any_of HT_.out (by kernel_rfl)) (fun _ _ _ h => h) (Or.inl ⟨by rfl, ?_⟩) ?_ ?_
        rotate_left
        · intro w'
          go_simp
          with_reducible rfl
        rotate_left
        · simp only [Act.put, List.setIfInBounds_toArray, List.set_cons_zero, List.set_cons_succ, i64_w, i32_w]
          rfl
        exact norm_ (by simp only [putAll, Act.put, List.setIfInBounds_toArray, List.set_cons_zero, List.set_cons_succ]) (hCont gx _ ⟨hHeld, HX.out⟩)
    · skip
      refine box_step ?hg (N := 13) ?hd (cs := #[.int .i64 0, .int .i64 0]) (t := 67) ?hr ?_; (case hd => rfl); (case hg => rfl); (case hr => first | (go_simp; done) | (go_simp; rfl))
      intro gx hg wr21 hbox hb
      have HX : Aside0 (Box w1 gx #[.int .i64 0, .int .i64 0] 67 _) := ⟨⟨by rw [hg]; exact hHeld.2.2.2.2.2.2.2.2.2.size, hbox⟩⟩
      clear hg hbox
      refine hK.out _ _ (CQ.below hHeld hb) (fun hHeld => ?_)
      clear hK K hb
      refine norm_ (a' := ?_) ?_ ?_
      rotate_left
      · show Act.put _ (some 13) _ = _
        simp only [Act.put, List.setIfInBounds_toArray, List.set_cons_zero, List.set_cons_succ, i64_w, i32_w]
        rfl
      refine one_ (i := 1) (N := some 22) #[true, true, true, false, true, false, true, false, false, false, false, false, true, false, false] rfl rfl (one_of HT_.out (by kernel_rfl)) (by decide) (fun K hK => ?_)
      refine goes_ Try.func21 (by kernel_rfl) rfl #[.agg #[.int .i64 gy, .int .i64 go]] (by rfl) rfl rfl (by (try simp only [List.map_toArray, List.map_cons, List.map_nil]); first | done | rfl | (simp only [List.length_drop, List.length_take]; rfl)) ?_
      refine (comfitlaw02_chance.calls gy go gy go _ HC1.out).mono ?_
      rintro e wr22 ⟨rfl, hb⟩
      refine ⟨_, rfl, ?_⟩
      replace HX := Aside0.mk (HX.out.below hb)
      refine hK.out _ _ (CQ.below hHeld hb) (fun hHeld => ?_)
      clear hK K hb
      refine norm_ (a' := ?_) ?_ ?_
      rotate_left
      · show Act.put _ (some 22) _ = _
        simp only [Act.put, List.setIfInBounds_toArray, List.set_cons_zero, List.set_cons_succ, i64_w, i32_w]
        rfl
      refine one_ (i := 3) (N := some 24) #[true, true, true, true, true, false, true, false, false, false, false, false, true, false, false] rfl rfl (one_of HT_.out (by kernel_rfl)) (by decide) (fun K hK => ?_)
      refine goes_ Try.func21 (by kernel_rfl) rfl #[.agg #[.int .i64 by_, .int .i64 bo]] (by rfl) rfl rfl (by (try simp only [List.map_toArray, List.map_cons, List.map_nil]); first | done | rfl | (simp only [List.length_drop, List.length_take]; rfl)) ?_
      refine (comfitlaw02_chance.calls by_ bo by_ bo _ HC2.out).mono ?_
      rintro e wr23 ⟨rfl, hb⟩
      refine ⟨_, rfl, ?_⟩
      replace HX := Aside0.mk (HX.out.below hb)
      refine hK.out _ _ (CQ.below hHeld hb) (fun hHeld => ?_)
      clear hK K hb
      refine norm_ (a' := ?_) ?_ ?_
      rotate_left
      · show Act.put _ (some 24) _ = _
        simp only [Act.put, List.setIfInBounds_toArray, List.set_cons_zero, List.set_cons_succ, i64_w, i32_w]
        rfl
      refine one_ (i := 5) (N := some 26) #[true, true, true, true, true, true, true, false, false, false, false, false, true, false, false] rfl rfl (one_of HT_.out (by kernel_rfl)) (by decide) (fun K hK => ?_)
      refine goes_ Try.func21 (by kernel_rfl) rfl #[.agg #[.int .i64 ry, .int .i64 ro]] (by rfl) rfl rfl (by (try simp only [List.map_toArray, List.map_cons, List.map_nil]); first | done | rfl | (simp only [List.length_drop, List.length_take]; rfl)) ?_
      refine (comfitlaw02_chance.calls ry ro ry ro _ HC3.out).mono ?_
      rintro e wr24 ⟨rfl, hb⟩
      refine ⟨_, rfl, ?_⟩
      replace HX := Aside0.mk (HX.out.below hb)
      refine hK.out _ _ (CQ.below hHeld hb) (fun hHeld => ?_)
      clear hK K hb
      refine norm_ (a' := ?_) ?_ ?_
      rotate_left
      · show Act.put _ (some 26) _ = _
        simp only [Act.put, List.setIfInBounds_toArray, List.set_cons_zero, List.set_cons_succ, i64_w, i32_w]
        rfl
      refine one_ (i := 7) (N := some 28) #[true, true, true, true, true, true, true, true, false, false, false, false, true, false, false] rfl rfl (one_of HT_.out (by kernel_rfl)) (by decide) (fun K hK => ?_)
      refine goes_ Try.func21 (by kernel_rfl) rfl #[.agg #[.int .i64 ay, .int .i64 ao]] (by rfl) rfl rfl (by (try simp only [List.map_toArray, List.map_cons, List.map_nil]); first | done | rfl | (simp only [List.length_drop, List.length_take]; rfl)) ?_
      refine (comfitlaw02_chance.calls ay ao ay ao _ HC4.out).mono ?_
      rintro e wr25 ⟨rfl, hb⟩
      refine ⟨_, rfl, ?_⟩
      replace HX := Aside0.mk (HX.out.below hb)
      refine hK.out _ _ (CQ.below hHeld hb) (fun hHeld => ?_)
      clear hK K hb
      refine norm_ (a' := ?_) ?_ ?_
      rotate_left
      · show Act.put _ (some 28) _ = _
        simp only [Act.put, List.setIfInBounds_toArray, List.set_cons_zero, List.set_cons_succ, i64_w, i32_w]
        rfl
      refine one_ (i := 8) (N := some 29) #[true, true, true, true, true, true, true, true, true, false, false, false, true, false, false] rfl rfl (one_of HT_.out (by kernel_rfl)) (by decide) (fun K hK => ?_)
      refine goes_ Try.func50 (by kernel_rfl) rfl #[.agg #[.int .i64 gy, .int .i64 go], .agg #[.int .i64 by_, .int .i64 bo], .agg #[.int .i64 ry, .int .i64 ro], .agg #[.int .i64 ay, .int .i64 ao]] (by rfl) rfl rfl (by (try simp only [List.map_toArray, List.map_cons, List.map_nil]); first | done | rfl | (simp only [List.length_drop, List.length_take]; rfl)) ?_
      refine (lots_Find.calls k gy go by_ bo ry ro ay ao r1 r2 e0 _ HFI.out).mono ?_
      rintro e wr26 ⟨rfl, hb⟩
      refine ⟨_, rfl, ?_⟩
      replace HX := Aside0.mk (HX.out.below hb)
      refine hK.out _ _ (CQ.below hHeld hb) (fun hHeld => ?_)
      clear hK K hb
      refine norm_ (a' := ?_) ?_ ?_
      rotate_left
      · show Act.put _ (some 29) _ = _
        simp only [Act.put, List.setIfInBounds_toArray, List.set_cons_zero, List.set_cons_succ, i64_w, i32_w]
        rfl
      refine pure_ (i := 9) (N := some 20) (v := ?_) (a' := ?_) #[true, true, true, true, true, true, true, true, true, true, false, false, true, false, false] rfl rfl (any_of HT_.out (by kernel_rfl)) (fun _ _ _ h => h) (Or.inl ⟨by rfl, ?_⟩) ?_ ?_
      rotate_left
      · intro w'
        go_simp
        with_reducible rfl
      rotate_left
      · simp only [Act.put, List.setIfInBounds_toArray, List.set_cons_zero, List.set_cons_succ, i64_w, i32_w]
        rfl
      refine pure_ (i := 10) (N := some 30) (v := ?_) (a' := ?_) #[true, true, true, true, true, true, true, true, true, true, true, false, true, false, false] rfl rfl (any_of HT_.out (by kernel_rfl)) (fun _ _ _ h => h) (Or.inl ⟨by rfl, ?_⟩) ?_ ?_
      rotate_left
      · intro w'
        go_simp
        with_reducible rfl
      rotate_left
      · simp only [Act.put, List.setIfInBounds_toArray, List.set_cons_zero, List.set_cons_succ, i64_w, i32_w]
        rfl
      refine pure_ (i := 11) (N := some 31) (v := ?_) (a' := ?_) #[true, true, true, true, true, true, true, true, true, true, true, true, true, false, false] rfl rfl (any_of HT_.out (by kernel_rfl)) (fun _ _ _ h => h) (Or.inl ⟨by rfl, ?_⟩) ?_ ?_
      rotate_left
      · intro w'
        go_simp
        with_reducible rfl
      rotate_left
      · simp only [Act.put, List.setIfInBounds_toArray, List.set_cons_zero, List.set_cons_succ, i64_w, i32_w]
        rfl
      exact norm_ (by simp only [putAll, Act.put, List.setIfInBounds_toArray, List.set_cons_zero, List.set_cons_succ]) (hCont gx _ ⟨hHeld, HX.out⟩)
  rintro gx wt ⟨hHeld, hbx⟩
  have HX := Aside0.mk hbx
  clear hbx
  refine norm_ (a' := ?_) ?_ ?_
  rotate_left
  · simp only [putAll, Act.put, List.setIfInBounds_toArray, List.set_cons_zero, List.set_cons_succ]
    rfl
  refine one_ (i := 13) (N := none) #[true, true, true, true, true, true, true, true, true, true, true, true, true, true, false] rfl rfl (one_of HT_.out (by kernel_rfl)) (by decide) (fun K hK => ?_)
  have hs0_ := HX.out.cell 0 rfl
  have hs1_ := HX.out.cell 1 rfl
  have fs0_ := HX.out.frozen 0
  have fs1_ := HX.out.frozen 1
  refine skip_ (w1 := ?_) (by rfl) rfl ?_ ?_
  rotate_left
  · go_simp
    rfl
  have HL := Aside0.mk (below_set' (below_set' hHeld.2.2.2.2.2.2.2.2.2 (p := ⟨gx, 0, none⟩) HX.out.1 (.int .i64 r1)) (p := ⟨gx, 1, none⟩) HX.out.1 (.int .i64 r2))
  refine hK.out _ _ (cq_of B4.out B5.out B6.out B7.out HB.out HL.out) (fun hHeld => ?_)
  clear hK K hHeld
  have BX : Aside0 (Box w1 gx #[.int .i64 r1, .int .i64 r2] 67 _) := ⟨(HX.out.put 0 (.int .i64 r1)).put 1 (.int .i64 r2)⟩
  clear hs0_ hs1_ fs0_ fs1_ HX
  refine pure_ (i := 14) (N := some 14) (v := ?_) (a' := ?_) #[true, true, true, true, true, true, true, true, true, true, true, true, true, true, true] rfl rfl (any_of HT_.out (by kernel_rfl)) (fun _ _ _ h => h) (Or.inl ⟨by rfl, ?_⟩) ?_ ?_
  rotate_left
  · intro w'
    go_simp
    with_reducible rfl
  rotate_left
  · simp only [Act.put, List.setIfInBounds_toArray, List.set_cons_zero, List.set_cons_succ, i64_w, i32_w]
    rfl
  refine done_ (done_of HT_.out (by kernel_rfl)) ?_
  clear HT_ HW_
  generalize ((wt.setCell _ _).setCell _ _) = w3 at BX HL ⊢
  replace B4 := Aside0.mk (B4.out.below HL.out)
  replace B5 := Aside0.mk (B5.out.below HL.out)
  replace B6 := Aside0.mk (B6.out.below HL.out)
  replace B7 := Aside0.mk (B7.out.below HL.out)
  replace HB := Aside0.mk (below_step HB.out HL.out)
  clear HL HFI
  have fB40_ := B4.out.cell 0 rfl
  have fB41_ := B4.out.cell 1 rfl
  have fB50_ := B5.out.cell 0 rfl
  have fB51_ := B5.out.cell 1 rfl
  have fB60_ := B6.out.cell 0 rfl
  have fB61_ := B6.out.cell 1 rfl
  have fB70_ := B7.out.cell 0 rfl
  have fB71_ := B7.out.cell 1 rfl
  have fBX0_ := BX.out.cell 0 rfl
  have fBX1_ := BX.out.cell 1 rfl
  go_wp2_with fail
  refine (comfitref02_Is.calls gy go i1 _ HI1.out).mono ?_
  rintro e w4 ⟨rfl, hb⟩
  clear fB40_ fB41_ fB50_ fB51_ fB60_ fB61_ fB70_ fB71_ fBX0_ fBX1_
  replace B4 := Aside0.mk (B4.out.below hb)
  replace B5 := Aside0.mk (B5.out.below hb)
  replace B6 := Aside0.mk (B6.out.below hb)
  replace B7 := Aside0.mk (B7.out.below hb)
  replace BX := Aside0.mk (BX.out.below hb)
  replace HB := Aside0.mk (below_step HB.out hb)
  clear hb
  have fB40_ := B4.out.cell 0 rfl
  have fB41_ := B4.out.cell 1 rfl
  have fB50_ := B5.out.cell 0 rfl
  have fB51_ := B5.out.cell 1 rfl
  have fB60_ := B6.out.cell 0 rfl
  have fB61_ := B6.out.cell 1 rfl
  have fB70_ := B7.out.cell 0 rfl
  have fB71_ := B7.out.cell 1 rfl
  have fBX0_ := BX.out.cell 0 rfl
  have fBX1_ := BX.out.cell 1 rfl
  cases i1 with
  | false =>
    clear HI2
    clear HI3
    clear HI4
    as_aux_lemma =>
      have e3_ := HNO.out (by simp)
      clear HNO HYES
      subst e3_
      go_wp2_with fail
      refine (comfitlaw02_awake.calls k true _ HAW.out).mono ?_
      rintro e w9 ⟨rfl, hb⟩
      go_wp2_with fail
      go_ret
      exact ⟨rfl, below_step HB.out hb⟩
  | true =>
    go_wp2_with fail
    refine (comfitref02_Is.calls by_ bo i2 _ HI2.out).mono ?_
    rintro e w5 ⟨rfl, hb⟩
    clear fB40_ fB41_ fB50_ fB51_ fB60_ fB61_ fB70_ fB71_ fBX0_ fBX1_
    replace B4 := Aside0.mk (B4.out.below hb)
    replace B5 := Aside0.mk (B5.out.below hb)
    replace B6 := Aside0.mk (B6.out.below hb)
    replace B7 := Aside0.mk (B7.out.below hb)
    replace BX := Aside0.mk (BX.out.below hb)
    replace HB := Aside0.mk (below_step HB.out hb)
    clear hb
    have fB40_ := B4.out.cell 0 rfl
    have fB41_ := B4.out.cell 1 rfl
    have fB50_ := B5.out.cell 0 rfl
    have fB51_ := B5.out.cell 1 rfl
    have fB60_ := B6.out.cell 0 rfl
    have fB61_ := B6.out.cell 1 rfl
    have fB70_ := B7.out.cell 0 rfl
    have fB71_ := B7.out.cell 1 rfl
    have fBX0_ := BX.out.cell 0 rfl
    have fBX1_ := BX.out.cell 1 rfl
    cases i2 with
    | false =>
      clear HI3
      clear HI4
      as_aux_lemma =>
        have e3_ := HNO.out (by simp)
        clear HNO HYES
        subst e3_
        go_wp2_with fail
        refine (comfitlaw02_awake.calls k true _ HAW.out).mono ?_
        rintro e w9 ⟨rfl, hb⟩
        go_wp2_with fail
        go_ret
        exact ⟨rfl, below_step HB.out hb⟩
    | true =>
      go_wp2_with fail
      refine (comfitref02_Is.calls ry ro i3 _ HI3.out).mono ?_
      rintro e w6 ⟨rfl, hb⟩
      clear fB40_ fB41_ fB50_ fB51_ fB60_ fB61_ fB70_ fB71_ fBX0_ fBX1_
      replace B4 := Aside0.mk (B4.out.below hb)
      replace B5 := Aside0.mk (B5.out.below hb)
      replace B6 := Aside0.mk (B6.out.below hb)
      replace B7 := Aside0.mk (B7.out.below hb)
      replace BX := Aside0.mk (BX.out.below hb)
      replace HB := Aside0.mk (below_step HB.out hb)
      clear hb
      have fB40_ := B4.out.cell 0 rfl
      have fB41_ := B4.out.cell 1 rfl
      have fB50_ := B5.out.cell 0 rfl
      have fB51_ := B5.out.cell 1 rfl
      have fB60_ := B6.out.cell 0 rfl
      have fB61_ := B6.out.cell 1 rfl
      have fB70_ := B7.out.cell 0 rfl
      have fB71_ := B7.out.cell 1 rfl
      have fBX0_ := BX.out.cell 0 rfl
      have fBX1_ := BX.out.cell 1 rfl
      cases i3 with
      | false =>
        clear HI4
        as_aux_lemma =>
          have e3_ := HNO.out (by simp)
          clear HNO HYES
          subst e3_
          go_wp2_with fail
          refine (comfitlaw02_awake.calls k true _ HAW.out).mono ?_
          rintro e w9 ⟨rfl, hb⟩
          go_wp2_with fail
          go_ret
          exact ⟨rfl, below_step HB.out hb⟩
      | true =>
        go_wp2_with fail
        refine (comfitref02_Is.calls ay ao i4 _ HI4.out).mono ?_
        rintro e w7 ⟨rfl, hb⟩
        clear fB40_ fB41_ fB50_ fB51_ fB60_ fB61_ fB70_ fB71_ fBX0_ fBX1_
        replace B4 := Aside0.mk (B4.out.below hb)
        replace B5 := Aside0.mk (B5.out.below hb)
        replace B6 := Aside0.mk (B6.out.below hb)
        replace B7 := Aside0.mk (B7.out.below hb)
        replace BX := Aside0.mk (BX.out.below hb)
        replace HB := Aside0.mk (below_step HB.out hb)
        clear hb
        have fB40_ := B4.out.cell 0 rfl
        have fB41_ := B4.out.cell 1 rfl
        have fB50_ := B5.out.cell 0 rfl
        have fB51_ := B5.out.cell 1 rfl
        have fB60_ := B6.out.cell 0 rfl
        have fB61_ := B6.out.cell 1 rfl
        have fB70_ := B7.out.cell 0 rfl
        have fB71_ := B7.out.cell 1 rfl
        have fBX0_ := BX.out.cell 0 rfl
        have fBX1_ := BX.out.cell 1 rfl
        cases i4 with
        | false =>
          as_aux_lemma =>
            have e3_ := HNO.out (by simp)
            clear HNO HYES
            subst e3_
            go_wp2_with fail
            refine (comfitlaw02_awake.calls k true _ HAW.out).mono ?_
            rintro e w9 ⟨rfl, hb⟩
            go_wp2_with fail
            go_ret
            exact ⟨rfl, below_step HB.out hb⟩
        | true =>
          obtain ⟨hfound, hnv, hnz, hcv, hlast⟩ := HYES.out (by rfl)
          clear HNO HYES
          have HNV := Aside0.mk hnv
          have HNZ := Aside0.mk hnz
          have HCV := Aside0.mk hcv
          have HLA := Aside0.mk hlast
          clear hnv hnz hcv hlast
          have hmeet : ∀ (P : Prop), (e0 = 0 → EnoughIs k gy go by_ bo ry ro ay ao r1 r2 true → P) → (e0 = 4 → P) → P := by
            intro P p1 p2
            rcases hfound with ⟨h1, h2⟩ | h1
            · exact p1 h1 h2
            · exact p2 h1
          have HME := Aside0.mk hmeet
          clear hmeet hfound
          rcases (show (e0 = 0 ∧ EnoughIs k gy go by_ bo ry ro ay ao r1 r2 true) ∨ e0 = 4 from HME.out _ (fun a b => Or.inl ⟨a, b⟩) Or.inr) with ⟨rfl, hen⟩ | rfl
          · as_aux_lemma =>
            have HEN := Aside0.mk hen
            clear hen HME
            go_wp2_with fail
            refine (enough_is k gy go by_ bo ry ro ay ao r1 r2 true HEN.out _ _ _ _ w _ B4.out B5.out B6.out B7.out).mono ?_
            rintro e w8 ⟨rfl, hb⟩
            clear fB40_ fB41_ fB50_ fB51_ fB60_ fB61_ fB70_ fB71_ fBX0_ fBX1_
            replace B4 := Aside0.mk (B4.out.below hb)
            replace B5 := Aside0.mk (B5.out.below hb)
            replace B6 := Aside0.mk (B6.out.below hb)
            replace B7 := Aside0.mk (B7.out.below hb)
            replace BX := Aside0.mk (BX.out.below hb)
            replace HB := Aside0.mk (below_step HB.out hb)
            clear hb
            have fB40_ := B4.out.cell 0 rfl
            have fB41_ := B4.out.cell 1 rfl
            have fB50_ := B5.out.cell 0 rfl
            have fB51_ := B5.out.cell 1 rfl
            have fB60_ := B6.out.cell 0 rfl
            have fB61_ := B6.out.cell 1 rfl
            have fB70_ := B7.out.cell 0 rfl
            have fB71_ := B7.out.cell 1 rfl
            have fBX0_ := BX.out.cell 0 rfl
            have fBX1_ := BX.out.cell 1 rfl
            have hnv := HNV.out
            have hnz := HNZ.out
            have hcv := HCV.out
            go_wp2_with fail
            rcases HLA.out with hen2 | ⟨hen2, he0, hle⟩
            · as_aux_lemma =>
                refine (enough_is k gy go by_ bo ry ro ay ao nv cv false hen2 _ _ _ _ w _ B4.out B5.out B6.out B7.out).mono ?_
                rintro e w9 ⟨rfl, hb⟩
                clear fB40_ fB41_ fB50_ fB51_ fB60_ fB61_ fB70_ fB71_ fBX0_ fBX1_
                replace B4 := Aside0.mk (B4.out.below hb)
                replace B5 := Aside0.mk (B5.out.below hb)
                replace B6 := Aside0.mk (B6.out.below hb)
                replace B7 := Aside0.mk (B7.out.below hb)
                replace BX := Aside0.mk (BX.out.below hb)
                replace HB := Aside0.mk (below_step HB.out hb)
                clear hb
                have fBX0_ := BX.out.cell 0 rfl
                have fBX1_ := BX.out.cell 1 rfl
                go_wp2_with fail
                refine (comfitlaw02_awake.calls k true _ HAW.out).mono ?_
                rintro e w10 ⟨rfl, hb⟩
                go_wp2_with fail
                go_ret
                exact ⟨rfl, below_step HB.out hb⟩
            · refine (enough_is k gy go by_ bo ry ro ay ao nv cv true hen2 _ _ _ _ w _ B4.out B5.out B6.out B7.out).mono ?_
              rintro e w9 ⟨rfl, hb⟩
              clear fB40_ fB41_ fB50_ fB51_ fB60_ fB61_ fB70_ fB71_ fBX0_ fBX1_
              replace B4 := Aside0.mk (B4.out.below hb)
              replace B5 := Aside0.mk (B5.out.below hb)
              replace B6 := Aside0.mk (B6.out.below hb)
              replace B7 := Aside0.mk (B7.out.below hb)
              replace BX := Aside0.mk (BX.out.below hb)
              replace HB := Aside0.mk (below_step HB.out hb)
              clear hb
              have fBX0_ := BX.out.cell 0 rfl
              have fBX1_ := BX.out.cell 1 rfl
              rcases hle with hlt | ⟨hnlt, heq, hle⟩
              · as_aux_lemma =>
                have hltb := decide_eq_true hlt
                go_wp2_with fail
                refine (comfitlaw02_awake.calls k true _ HAW.out).mono ?_
                rintro e w10 ⟨rfl, hb⟩
                go_wp2_with fail
                go_ret
                exact ⟨rfl, below_step HB.out hb⟩
              · as_aux_lemma =>
                have hltb : decide (r1 < nv) = false := decide_eq_false (by omega)
                have heqb : (r1 == nv) = true := beq_iff_eq.mpr heq
                have hleb := decide_eq_true hle
                go_wp2_with fail
                refine (comfitlaw02_awake.calls k true _ HAW.out).mono ?_
                rintro e w10 ⟨rfl, hb⟩
                go_wp2_with fail
                go_ret
                exact ⟨rfl, below_step HB.out hb⟩
          · as_aux_lemma =>
            clear HME
            have hnv := HNV.out
            have hnz := HNZ.out
            have hcv := HCV.out
            go_wp2_with fail
            rcases HLA.out with hen2 | ⟨hen2, he0, hle⟩
            · as_aux_lemma =>
                refine (enough_is k gy go by_ bo ry ro ay ao nv cv false hen2 _ _ _ _ w _ B4.out B5.out B6.out B7.out).mono ?_
                rintro e w9 ⟨rfl, hb⟩
                clear fB40_ fB41_ fB50_ fB51_ fB60_ fB61_ fB70_ fB71_ fBX0_ fBX1_
                replace B4 := Aside0.mk (B4.out.below hb)
                replace B5 := Aside0.mk (B5.out.below hb)
                replace B6 := Aside0.mk (B6.out.below hb)
                replace B7 := Aside0.mk (B7.out.below hb)
                replace BX := Aside0.mk (BX.out.below hb)
                replace HB := Aside0.mk (below_step HB.out hb)
                clear hb
                have fBX0_ := BX.out.cell 0 rfl
                have fBX1_ := BX.out.cell 1 rfl
                go_wp2_with fail
                refine (comfitlaw02_awake.calls k true _ HAW.out).mono ?_
                rintro e w10 ⟨rfl, hb⟩
                go_wp2_with fail
                go_ret
                exact ⟨rfl, below_step HB.out hb⟩
            · exact absurd he0 (by decide)
end Go.Proofs.Ytdppnmfljfdhaaa.X
