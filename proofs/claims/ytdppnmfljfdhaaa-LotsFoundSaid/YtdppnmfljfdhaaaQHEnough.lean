/- What the law LotsFound's own function tells of a plan: told by the results of its chances. -/
import Derived.Test.YtdppnmfljfdhaaaQHFind
import Derived.Test.YtdppnmfljfdhaaaQHRFind
import Derived.Test.YtdppnmfljfdhaaaQXlotsSingle
import Derived.Test.YtdppnmfljfdhaaaQXL
import Derived.Test.YtdppnmfljfdhaaaQXLO
set_option linter.unusedVariables false
set_option linter.unusedSimpArgs false
namespace Go.Proofs.Ytdppnmfljfdhaaa.X
open Go.RowKit Go.Proofs.YtdppnmfljfdhaaaW.PrintWords Go.Proofs.YtdppnmfljfdhaaaW.PrintLast Go.Proofs.YtdppnmfljfdhaaaW.PrintMore
attribute [local go_sem] max2_int min2_int max_two min_two max_three min_three max_four min_four
attribute [local go_sem] Oper.semAt_some

/-- Two variables of two cells, and what lay before. -/
def CE (g : Nat) (u0 u1 : Value) (g' : Nat) (u2 u3 : Value) (w w7 W : World) : Prop := W.cell? ⟨g, 0, none⟩ = some u0 ∧ W.cell? ⟨g, 1, none⟩ = some u1 ∧ W.cell? ⟨g', 0, none⟩ = some u2 ∧ W.cell? ⟨g', 1, none⟩ = some u3 ∧ Below w.heap.size w W ∧ Below w7.heap.size w7 W
section
variable {g g' : Nat} {u0 u1 u2 u3 : Value} {w w7 W W1 : World}
theorem CE.below (h : CE g u0 u1 g' u2 u3 w w7 W) (hb : Below W.heap.size W W1) : CE g u0 u1 g' u2 u3 w w7 W1 := by
  obtain ⟨h0, h1, h2, h3, h4, h5⟩ := h
  exact ⟨cell_keep3 h0 hb, cell_keep3 h1 hb, cell_keep3 h2 hb, cell_keep3 h3 hb, below_step h4 hb, below_step h5 hb⟩
theorem ce_of {t0 t1 : TypeId} {x0 x1 : World} (h0 : Box x0 g #[u0, u1] t0 W) (h1 : Box x1 g' #[u2, u3] t1 W) (hb : Below w.heap.size w W) (hw : Below W.heap.size W W1) : CE g u0 u1 g' u2 u3 w W W1 :=
  ⟨(h0.below hw).cell 0 rfl, (h0.below hw).cell 1 rfl, (h1.below hw).cell 0 rfl, (h1.below hw).cell 1 rfl, below_step hb hw, hw⟩
end
def enoT.T4 : Bool × List (List Nat × List Nat) := (true, [([], []), ([], []), ([1], [1]), ([0, 2, 2], [0, 2]), ([3], [3]), ([4], [4]), ([4], [4]), ([], []), ([7, 5, 3, 0, 1, 2, 3, 4, 5, 7], [5, 7]), ([6, 8, 0, 1, 2, 3, 4, 5, 6, 7, 8], [6])])
def enoT.B4 : List Nat := [0, 0, 2, 7, 15, 31, 31, 0, 191, 511]
theorem enoT.tab4 : rtab .any (opsOf Try.f52 4) = enoT.T4 := by kernel_rfl
theorem enoT.bits4 : waitsOk enoT.T4.2 enoT.B4 = true := by kernel_rfl
def enoT.T5 : Bool × List (List Nat × List Nat) := (true, [([], []), ([0], [0]), ([1, 1], [1]), ([], []), ([3, 2], [3]), ([2, 4, 4], [2, 4]), ([5], [5]), ([6], [6]), ([6], [6]), ([], []), ([9, 7, 5, 0, 1, 2, 3, 4, 5, 6, 7, 9], [7, 9]), ([8, 10, 0, 1, 2, 3, 4, 5, 6, 7, 8, 9, 10], [8])])
def enoT.B5 : List Nat := [0, 1, 3, 0, 15, 31, 63, 127, 127, 0, 767, 2047]
theorem enoT.tab5 : rtab .any (opsOf Try.f52 5) = enoT.T5 := by kernel_rfl
theorem enoT.bits5 : waitsOk enoT.T5.2 enoT.B5 = true := by kernel_rfl
set_option maxRecDepth 100000 in
set_option maxHeartbeats 16000000 in
theorem enough_calls (k : Nat) (n c gy go by_ bo ry ro ay ao : Int) (T L : List Int) (P Q : List Int) (x1 x2 y1 y2 : Int) (g2 g3 g4 g5 : Nat) (w0 w : World)
    (b2 : Box w0 g2 #[.int .i64 gy, .int .i64 go] 26 w) (b3 : Box w0 g3 #[.int .i64 by_, .int .i64 bo] 26 w) (b4 : Box w0 g4 #[.int .i64 ry, .int .i64 ro] 26 w) (b5 : Box w0 g5 #[.int .i64 ay, .int .i64 ao] 26 w)
    (hs : lots_Single.f n c = some (T, L, 0)) (hof : comfitlaw02_Of.f T L = some (P, Q)) (hta : lots_Taken.f k T L gy go = some (x1, x2, 0)) (htb : lots_Taken.f k P Q by_ bo = some (y1, y2, 0))
    (hua : comfitlaw02_unit.f x1 x2 = some true) (hub : comfitlaw02_unit.f y1 y2 = some true) :
    Calls Try.prog 52 #[.int .i64 n, .int .i64 c, .pointer (some ⟨g2, 0, none⟩), .pointer (some ⟨g3, 0, none⟩), .pointer (some ⟨g4, 0, none⟩), .pointer (some ⟨g5, 0, none⟩)] w fun e w' => e = .returned (.tuple #[.bool (fOk (x1, x2) (y1, y2) ry ro ay ao), .bool true]) ∧ Below w.heap.size w w' := by
  have hu26 := Try.underlying26
  have hu34 := Try.underlying34
  have hu28 := Try.underlying28
  have hu24 := Try.underlying24
  have hu32 := Try.underlying32
  have B2 := Aside0.mk b2
  have B3 := Aside0.mk b3
  have B4 := Aside0.mk b4
  have B5 := Aside0.mk b5
  have HS := Aside0.mk hs
  have HOF := Aside0.mk hof
  have HTA := Aside0.mk hta
  have HTB := Aside0.mk htb
  have HUA := Aside0.mk hua
  have HUB := Aside0.mk hub
  have HC1 : Aside0 (comfitlaw02_chance.f gy go = some (gy, go)) := ⟨rfl⟩
  have HC2 : Aside0 (comfitlaw02_chance.f by_ bo = some (by_, bo)) := ⟨rfl⟩
  have HB := Aside0.mk (Below.refl w.heap.size w)
  clear b2 b3 b4 b5 hs hof hta htb hua hub
  go_enter Try.func52, Try.ntmps52
  go_wp2_with fail
  refine (lots_Single.calls n c T L 0 _ HS.out).mono ?_
  rintro e w1 ⟨v1, v2, rfl, ho0, ho1, hb⟩
  obtain ⟨AT, cT, rfl⟩ := Kd.R_slice ho0
  obtain ⟨AL, cL, rfl⟩ := Kd.R_slice ho1
  have HTR := Aside0.mk (Kd.R_reads' ho0).2
  have HLR := Aside0.mk (Kd.R_reads' ho1).2
  clear ho0 ho1 HS
  replace B2 := Aside0.mk (B2.out.below hb)
  replace B3 := Aside0.mk (B3.out.below hb)
  replace B4 := Aside0.mk (B4.out.below hb)
  replace B5 := Aside0.mk (B5.out.below hb)
  replace HB := Aside0.mk (below_step HB.out hb)
  clear hb
  have BPn := Aside0.mk (Box.new HB.out #[.slice none 0 0, .slice none 0 0] 32)
  have z0_ := BPn.out.cell 0 rfl
  have z1_ := BPn.out.cell 1 rfl
  have y0_ := BPn.out.frozen 0
  have y1_ := BPn.out.frozen 1
  have HN := Aside0.mk (box2 HB.out (.slice AT T.length cT) (.slice AL L.length cL) 32)
  go_wp2_with fail
  have B10 := Aside0.mk HN.out.2
  have hba := HN.out.1
  clear z0_ z1_ y0_ y1_ BPn HN
  generalize (w1.alloc _) = w2 at B10 hba ⊢
  replace B2 := Aside0.mk (B2.out.below hba)
  replace B3 := Aside0.mk (B3.out.below hba)
  replace B4 := Aside0.mk (B4.out.below hba)
  replace B5 := Aside0.mk (B5.out.below hba)
  replace HTR := Aside0.mk (And.intro HTR.out.1 (Kd.C_below HTR.out.2 hba))
  replace HLR := Aside0.mk (And.intro HLR.out.1 (Kd.C_below HLR.out.2 hba))
  replace HB := Aside0.mk (below_step HB.out hba)
  clear hba
  refine start_ (n := 10) (S := CE w1.heap.size (.slice AT T.length cT) (.slice AL L.length cL) g2 (.int .i64 gy) (.int .i64 go) w w2) (ds := []) #[false, false, false, false, false, false, false, false, false, false] (by kernel_rfl) rfl rfl (ce_of B10.out B2.out HB.out (below_drew (Below.refl _ _))) (fun hHeld => ?_)
  refine with_tabW enoT.tab4 enoT.bits4 (fun HT_ HW_ => ?_)
  generalize (World.drew _) = w3 at hHeld ⊢
  refine take_ (i := 0) (N := some 25) (v := ?_) (a' := ?_) #[true, false, false, false, false, false, false, false, false, false] rfl rfl (take_ofW HT_.out HW_.out (by kernel_rfl)) (fun _ _ _ h => h) (Or.inl ⟨by rfl, ?_⟩) hHeld ?_ ?_
  rotate_left
  · rintro w' ⟨s0, s1, s2, s3, s4, s5⟩
    go_simp
    with_reducible rfl
  rotate_left
  · simp only [Act.put, List.setIfInBounds_toArray, List.set_cons_zero, List.set_cons_succ, i64_w, i32_w]
    rfl
  refine take_ (i := 1) (N := some 26) (v := ?_) (a' := ?_) #[true, true, false, false, false, false, false, false, false, false] rfl rfl (take_ofW HT_.out HW_.out (by kernel_rfl)) (fun _ _ _ h => h) (Or.inl ⟨by rfl, ?_⟩) hHeld ?_ ?_
  rotate_left
  · rintro w' ⟨s0, s1, s2, s3, s4, s5⟩
    go_simp
    with_reducible rfl
  rotate_left
  · simp only [Act.put, List.setIfInBounds_toArray, List.set_cons_zero, List.set_cons_succ, i64_w, i32_w]
    rfl
  refine join_ (σ := Value × Nat) 2 #[true, true, true, true, true, true, true, true, false, false] (fun s_ => [(27, .agg #[.int .i64 gy, .int .i64 go]), (28, .tuple #[.agg #[.int .i64 x1, .int .i64 x2], .int .i64 0]), (12, .pointer (some ⟨s_.2, 0, none⟩)), (24, .tuple #[.agg #[.int .i64 x1, .int .i64 x2], .int .i64 0]), (29, .agg #[.int .i64 x1, .int .i64 x2]), (30, .int .i64 0)]) (fun s_ w' => CE w1.heap.size (.slice AT T.length cT) (.slice AL L.length cL) g2 (.int .i64 gy) (.int .i64 go) w w2 w' ∧ Box w2 s_.2 #[.int .i64 0, .int .i64 0] 28 w') ?_ ?_
  rotate_left
  · intro hCont
    refine two_ (i := 2) (j := 7) (Ni := some 27) (Nj := some 12) #[true, true, true, false, false, false, false, false, false, false] #[true, true, false, false, false, false, false, true, false, false] rfl rfl rfl rfl (two_of HT_.out (by kernel_rfl)) (by decide) (by decide) (fun K hK => ?_) (fun K hK => ?_)
    · skip
      refine goes_ Try.func21 (by kernel_rfl) rfl #[.agg #[.int .i64 gy, .int .i64 go]] (by rfl) rfl rfl (by (try simp only [List.map_toArray, List.map_cons, List.map_nil]); first | done | rfl | (simp only [List.length_drop, List.length_take]; rfl)) ?_
      refine (comfitlaw02_chance.calls gy go gy go _ HC1.out).mono ?_
      rintro e wr1 ⟨rfl, hb⟩
      refine ⟨_, rfl, ?_⟩
      refine hK.out _ _ (CE.below hHeld hb) (fun hHeld => ?_)
      clear hK K hb
      refine norm_ (a' := ?_) ?_ ?_
      rotate_left
      · show Act.put _ (some 27) _ = _
        simp only [Act.put, List.setIfInBounds_toArray, List.set_cons_zero, List.set_cons_succ, i64_w, i32_w]
        rfl
      refine two_ (i := 3) (j := 7) (Ni := some 28) (Nj := some 12) #[true, true, true, true, false, false, false, false, false, false] #[true, true, true, false, false, false, false, true, false, false] rfl rfl rfl rfl (two_of HT_.out (by kernel_rfl)) (by decide) (by decide) (fun K hK => ?_) (fun K hK => ?_)
      · skip
        refine goes_ Try.func19 (by kernel_rfl) rfl #[.agg #[.slice AT T.length cT, .slice AL L.length cL], .agg #[.int .i64 gy, .int .i64 go]] (by rfl) rfl rfl (by (try simp only [List.map_toArray, List.map_cons, List.map_nil]); first | done | rfl | (simp only [List.length_drop, List.length_take]; rfl)) ?_
        refine (lots_Taken.calls k AT cT T AL cL L gy go x1 x2 0 _ (Kd.C_below HTR.out.2 hHeld.2.2.2.2.2) HTR.out.1 (Kd.C_below HLR.out.2 hHeld.2.2.2.2.2) HLR.out.1 HTA.out).mono ?_
        rintro e wr2 ⟨rfl, hb⟩
        refine ⟨_, rfl, ?_⟩
        refine hK.out _ _ (CE.below hHeld hb) (fun hHeld => ?_)
        clear hK K hb
        refine norm_ (a' := ?_) ?_ ?_
        rotate_left
        · show Act.put _ (some 28) _ = _
          simp only [Act.put, List.setIfInBounds_toArray, List.set_cons_zero, List.set_cons_succ, i64_w, i32_w]
          rfl
        refine pure_ (i := 4) (N := some 24) (v := ?_) (a' := ?_) #[true, true, true, true, true, false, false, false, false, false] rfl rfl (any_of HT_.out (by kernel_rfl)) (fun _ _ _ h => h) (Or.inl ⟨by rfl, ?_⟩) ?_ ?_
        rotate_left
        · intro w'
          go_simp
          with_reducible rfl
        rotate_left
        · simp only [Act.put, List.setIfInBounds_toArray, List.set_cons_zero, List.set_cons_succ, i64_w, i32_w]
          rfl
        refine pure_ (i := 5) (N := some 29) (v := ?_) (a' := ?_) #[true, true, true, true, true, true, false, false, false, false] rfl rfl (any_of HT_.out (by kernel_rfl)) (fun _ _ _ h => h) (Or.inl ⟨by rfl, ?_⟩) ?_ ?_
        rotate_left
        · intro w'
          go_simp
          with_reducible rfl
        rotate_left
        · simp only [Act.put, List.setIfInBounds_toArray, List.set_cons_zero, List.set_cons_succ, i64_w, i32_w]
          rfl
        refine pure_ (i := 6) (N := some 30) (v := ?_) (a' := ?_) #[true, true, true, true, true, true, true, false, false, false] rfl rfl (any_of HT_.out (by kernel_rfl)) (fun _ _ _ h => h) (Or.inl ⟨by rfl, ?_⟩) ?_ ?_
        rotate_left
        · intro w'
          go_simp
          with_reducible rfl
        rotate_left
        · simp only [Act.put, List.setIfInBounds_toArray, List.set_cons_zero, List.set_cons_succ, i64_w, i32_w]
          rfl
        refine one_ (i := 7) (N := some 12) #[true, true, true, true, true, true, true, true, false, false] rfl rfl (one_of HT_.out (by kernel_rfl)) (by decide) (fun K hK => ?_)
        refine box_step ?hg (N := 12) ?hd (cs := #[.int .i64 0, .int .i64 0]) (t := 28) ?hr ?_; (case hd => rfl); (case hg => rfl); (case hr => first | (go_simp; done) | (go_simp; rfl))
        intro gx hg wr3 hbox hb
        have HX : Aside0 (Box w2 gx #[.int .i64 0, .int .i64 0] 28 _) := ⟨⟨by rw [hg]; exact hHeld.2.2.2.2.2.size, hbox⟩⟩
        clear hg hbox
        refine hK.out _ _ (CE.below hHeld hb) (fun hHeld => ?_)
        clear hK K hb
        refine norm_ (a' := ?_) ?_ ?_
        rotate_left
        · show Act.put _ (some 12) _ = _
          simp only [Act.put, List.setIfInBounds_toArray, List.set_cons_zero, List.set_cons_succ, i64_w, i32_w]
          rfl
        exact norm_ (by simp only [putAll, Act.put, List.setIfInBounds_toArray, List.set_cons_zero, List.set_cons_succ]) (hCont (.nilIface, gx) _ ⟨hHeld, HX.out⟩)
      · skip
        refine box_step ?hg (N := 12) ?hd (cs := #[.int .i64 0, .int .i64 0]) (t := 28) ?hr ?_; (case hd => rfl); (case hg => rfl); (case hr => first | (go_simp; done) | (go_simp; rfl))
        intro gx hg wr4 hbox hb
        have HX : Aside0 (Box w2 gx #[.int .i64 0, .int .i64 0] 28 _) := ⟨⟨by rw [hg]; exact hHeld.2.2.2.2.2.size, hbox⟩⟩
        clear hg hbox
        refine hK.out _ _ (CE.below hHeld hb) (fun hHeld => ?_)
        clear hK K hb
        refine norm_ (a' := ?_) ?_ ?_
        rotate_left
        · show Act.put _ (some 12) _ = _
          simp only [Act.put, List.setIfInBounds_toArray, List.set_cons_zero, List.set_cons_succ, i64_w, i32_w]
          rfl
        refine one_ (i := 3) (N := some 28) #[true, true, true, true, false, false, false, true, false, false] rfl rfl (one_of HT_.out (by kernel_rfl)) (by decide) (fun K hK => ?_)
        refine goes_ Try.func19 (by kernel_rfl) rfl #[.agg #[.slice AT T.length cT, .slice AL L.length cL], .agg #[.int .i64 gy, .int .i64 go]] (by rfl) rfl rfl (by (try simp only [List.map_toArray, List.map_cons, List.map_nil]); first | done | rfl | (simp only [List.length_drop, List.length_take]; rfl)) ?_
        refine (lots_Taken.calls k AT cT T AL cL L gy go x1 x2 0 _ (Kd.C_below HTR.out.2 hHeld.2.2.2.2.2) HTR.out.1 (Kd.C_below HLR.out.2 hHeld.2.2.2.2.2) HLR.out.1 HTA.out).mono ?_
        rintro e wr5 ⟨rfl, hb⟩
        refine ⟨_, rfl, ?_⟩
        replace HX := Aside0.mk (HX.out.below hb)
        refine hK.out _ _ (CE.below hHeld hb) (fun hHeld => ?_)
        clear hK K hb
        refine norm_ (a' := ?_) ?_ ?_
        rotate_left
        · show Act.put _ (some 28) _ = _
          simp only [Act.put, List.setIfInBounds_toArray, List.set_cons_zero, List.set_cons_succ, i64_w, i32_w]
          rfl
        refine pure_ (i := 4) (N := some 24) (v := ?_) (a' := ?_) #[true, true, true, true, true, false, false, true, false, false] rfl rfl (any_of HT_.out (by kernel_rfl)) (fun _ _ _ h => h) (Or.inl ⟨by rfl, ?_⟩) ?_ ?_
        rotate_left
        · intro w'
          go_simp
          with_reducible rfl
        rotate_left
        · simp only [Act.put, List.setIfInBounds_toArray, List.set_cons_zero, List.set_cons_succ, i64_w, i32_w]
          rfl
        refine pure_ (i := 5) (N := some 29) (v := ?_) (a' := ?_) #[true, true, true, true, true, true, false, true, false, false] rfl rfl (any_of HT_.out (by kernel_rfl)) (fun _ _ _ h => h) (Or.inl ⟨by rfl, ?_⟩) ?_ ?_
        rotate_left
        · intro w'
          go_simp
          with_reducible rfl
        rotate_left
        · simp only [Act.put, List.setIfInBounds_toArray, List.set_cons_zero, List.set_cons_succ, i64_w, i32_w]
          rfl
        refine pure_ (i := 6) (N := some 30) (v := ?_) (a' := ?_) #[true, true, true, true, true, true, true, true, false, false] rfl rfl (any_of HT_.out (by kernel_rfl)) (fun _ _ _ h => h) (Or.inl ⟨by rfl, ?_⟩) ?_ ?_
        rotate_left
        · intro w'
          go_simp
          with_reducible rfl
        rotate_left
        · simp only [Act.put, List.setIfInBounds_toArray, List.set_cons_zero, List.set_cons_succ, i64_w, i32_w]
          rfl
        exact norm_ (by simp only [putAll, Act.put, List.setIfInBounds_toArray, List.set_cons_zero, List.set_cons_succ]) (hCont (.nilIface, gx) _ ⟨hHeld, HX.out⟩)
    · skip
      refine box_step ?hg (N := 12) ?hd (cs := #[.int .i64 0, .int .i64 0]) (t := 28) ?hr ?_; (case hd => rfl); (case hg => rfl); (case hr => first | (go_simp; done) | (go_simp; rfl))
      intro gx hg wr6 hbox hb
      have HX : Aside0 (Box w2 gx #[.int .i64 0, .int .i64 0] 28 _) := ⟨⟨by rw [hg]; exact hHeld.2.2.2.2.2.size, hbox⟩⟩
      clear hg hbox
      refine hK.out _ _ (CE.below hHeld hb) (fun hHeld => ?_)
      clear hK K hb
      refine norm_ (a' := ?_) ?_ ?_
      rotate_left
      · show Act.put _ (some 12) _ = _
        simp only [Act.put, List.setIfInBounds_toArray, List.set_cons_zero, List.set_cons_succ, i64_w, i32_w]
        rfl
      refine one_ (i := 2) (N := some 27) #[true, true, true, false, false, false, false, true, false, false] rfl rfl (one_of HT_.out (by kernel_rfl)) (by decide) (fun K hK => ?_)
      refine goes_ Try.func21 (by kernel_rfl) rfl #[.agg #[.int .i64 gy, .int .i64 go]] (by rfl) rfl rfl (by (try simp only [List.map_toArray, List.map_cons, List.map_nil]); first | done | rfl | (simp only [List.length_drop, List.length_take]; rfl)) ?_
      refine (comfitlaw02_chance.calls gy go gy go _ HC1.out).mono ?_
      rintro e wr7 ⟨rfl, hb⟩
      refine ⟨_, rfl, ?_⟩
      replace HX := Aside0.mk (HX.out.below hb)
      refine hK.out _ _ (CE.below hHeld hb) (fun hHeld => ?_)
      clear hK K hb
      refine norm_ (a' := ?_) ?_ ?_
      rotate_left
      · show Act.put _ (some 27) _ = _
        simp only [Act.put, List.setIfInBounds_toArray, List.set_cons_zero, List.set_cons_succ, i64_w, i32_w]
        rfl
      refine one_ (i := 3) (N := some 28) #[true, true, true, true, false, false, false, true, false, false] rfl rfl (one_of HT_.out (by kernel_rfl)) (by decide) (fun K hK => ?_)
      refine goes_ Try.func19 (by kernel_rfl) rfl #[.agg #[.slice AT T.length cT, .slice AL L.length cL], .agg #[.int .i64 gy, .int .i64 go]] (by rfl) rfl rfl (by (try simp only [List.map_toArray, List.map_cons, List.map_nil]); first | done | rfl | (simp only [List.length_drop, List.length_take]; rfl)) ?_
      refine (lots_Taken.calls k AT cT T AL cL L gy go x1 x2 0 _ (Kd.C_below HTR.out.2 hHeld.2.2.2.2.2) HTR.out.1 (Kd.C_below HLR.out.2 hHeld.2.2.2.2.2) HLR.out.1 HTA.out).mono ?_
      rintro e wr8 ⟨rfl, hb⟩
      refine ⟨_, rfl, ?_⟩
      replace HX := Aside0.mk (HX.out.below hb)
      refine hK.out _ _ (CE.below hHeld hb) (fun hHeld => ?_)
      clear hK K hb
      refine norm_ (a' := ?_) ?_ ?_
      rotate_left
      · show Act.put _ (some 28) _ = _
        simp only [Act.put, List.setIfInBounds_toArray, List.set_cons_zero, List.set_cons_succ, i64_w, i32_w]
        rfl
      refine pure_ (i := 4) (N := some 24) (v := ?_) (a' := ?_) #[true, true, true, true, true, false, false, true, false, false] rfl rfl (any_of HT_.out (by kernel_rfl)) (fun _ _ _ h => h) (Or.inl ⟨by rfl, ?_⟩) ?_ ?_
      rotate_left
      · intro w'
        go_simp
        with_reducible rfl
      rotate_left
      · simp only [Act.put, List.setIfInBounds_toArray, List.set_cons_zero, List.set_cons_succ, i64_w, i32_w]
        rfl
      refine pure_ (i := 5) (N := some 29) (v := ?_) (a' := ?_) #[true, true, true, true, true, true, false, true, false, false] rfl rfl (any_of HT_.out (by kernel_rfl)) (fun _ _ _ h => h) (Or.inl ⟨by rfl, ?_⟩) ?_ ?_
      rotate_left
      · intro w'
        go_simp
        with_reducible rfl
      rotate_left
      · simp only [Act.put, List.setIfInBounds_toArray, List.set_cons_zero, List.set_cons_succ, i64_w, i32_w]
        rfl
      refine pure_ (i := 6) (N := some 30) (v := ?_) (a' := ?_) #[true, true, true, true, true, true, true, true, false, false] rfl rfl (any_of HT_.out (by kernel_rfl)) (fun _ _ _ h => h) (Or.inl ⟨by rfl, ?_⟩) ?_ ?_
      rotate_left
      · intro w'
        go_simp
        with_reducible rfl
      rotate_left
      · simp only [Act.put, List.setIfInBounds_toArray, List.set_cons_zero, List.set_cons_succ, i64_w, i32_w]
        rfl
      exact norm_ (by simp only [putAll, Act.put, List.setIfInBounds_toArray, List.set_cons_zero, List.set_cons_succ]) (hCont (.nilIface, gx) _ ⟨hHeld, HX.out⟩)
  rintro ⟨va, gx_BA⟩ wt ⟨hHeld, hbx⟩
  have HX := Aside0.mk hbx
  clear hbx
  refine norm_ (a' := ?_) ?_ ?_
  rotate_left
  · simp only [putAll, Act.put, List.setIfInBounds_toArray, List.set_cons_zero, List.set_cons_succ]
    rfl
  refine one_ (i := 8) (N := none) #[true, true, true, true, true, true, true, true, true, false] rfl rfl (one_of HT_.out (by kernel_rfl)) (by decide) (fun K hK => ?_)
  have hs0_ := HX.out.cell 0 rfl
  have hs1_ := HX.out.cell 1 rfl
  have fs0_ := HX.out.frozen 0
  have fs1_ := HX.out.frozen 1
  refine skip_ (w1 := ?_) (by rfl) rfl ?_ ?_
  rotate_left
  · go_simp
    rfl
  have HL := Aside0.mk (below_set' (below_set' hHeld.2.2.2.2.2 (p := ⟨gx_BA, 0, none⟩) HX.out.1 (.int .i64 x1)) (p := ⟨gx_BA, 1, none⟩) HX.out.1 (.int .i64 x2))
  refine hK.out _ _ (ce_of B10.out B2.out HB.out HL.out) (fun hHeld => ?_)
  clear hK K hHeld
  have BA : Aside0 (Box w2 gx_BA #[.int .i64 x1, .int .i64 x2] 28 _) := ⟨(HX.out.put 0 (.int .i64 x1)).put 1 (.int .i64 x2)⟩
  clear hs0_ hs1_ fs0_ fs1_ HX
  refine pure_ (i := 9) (N := some 13) (v := ?_) (a' := ?_) #[true, true, true, true, true, true, true, true, true, true] rfl rfl (any_of HT_.out (by kernel_rfl)) (fun _ _ _ h => h) (Or.inl ⟨by rfl, ?_⟩) ?_ ?_
  rotate_left
  · intro w'
    go_simp
    with_reducible rfl
  rotate_left
  · simp only [Act.put, List.setIfInBounds_toArray, List.set_cons_zero, List.set_cons_succ, i64_w, i32_w]
    rfl
  refine done_ (done_of HT_.out (by kernel_rfl)) ?_
  clear HT_ HW_
  generalize ((wt.setCell _ _).setCell _ _) = w4 at BA HL ⊢
  replace B2 := Aside0.mk (B2.out.below HL.out)
  replace B3 := Aside0.mk (B3.out.below HL.out)
  replace B4 := Aside0.mk (B4.out.below HL.out)
  replace B5 := Aside0.mk (B5.out.below HL.out)
  replace B10 := Aside0.mk (B10.out.below HL.out)
  replace HTR := Aside0.mk (And.intro HTR.out.1 (Kd.C_below HTR.out.2 HL.out))
  replace HLR := Aside0.mk (And.intro HLR.out.1 (Kd.C_below HLR.out.2 HL.out))
  replace HB := Aside0.mk (below_step HB.out HL.out)
  clear HL HTA
  go_wp2_with fail
  refine start_ (n := 12) (S := CE w1.heap.size (.slice AT T.length cT) (.slice AL L.length cL) g3 (.int .i64 by_) (.int .i64 bo) w w4) (ds := []) #[false, false, false, false, false, false, false, false, false, false, false, false] (by kernel_rfl) rfl rfl (ce_of B10.out B3.out HB.out (below_drew (Below.refl _ _))) (fun hHeld => ?_)
  refine with_tabW enoT.tab5 enoT.bits5 (fun HT_ HW_ => ?_)
  generalize (World.drew _) = w5 at hHeld ⊢
  refine take_ (i := 0) (N := some 32) (v := ?_) (a' := ?_) #[true, false, false, false, false, false, false, false, false, false, false, false] rfl rfl (take_ofW HT_.out HW_.out (by kernel_rfl)) (fun _ _ _ h => h) (Or.inl ⟨by rfl, ?_⟩) hHeld ?_ ?_
  rotate_left
  · rintro w' ⟨s0, s1, s2, s3, s4, s5⟩
    go_simp
    with_reducible rfl
  rotate_left
  · simp only [Act.put, List.setIfInBounds_toArray, List.set_cons_zero, List.set_cons_succ, i64_w, i32_w]
    rfl
  refine take_ (i := 3) (N := some 35) (v := ?_) (a' := ?_) #[true, false, false, true, false, false, false, false, false, false, false, false] rfl rfl (take_ofW HT_.out HW_.out (by kernel_rfl)) (fun _ _ _ h => h) (Or.inl ⟨by rfl, ?_⟩) hHeld ?_ ?_
  rotate_left
  · rintro w' ⟨s0, s1, s2, s3, s4, s5⟩
    go_simp
    with_reducible rfl
  rotate_left
  · simp only [Act.put, List.setIfInBounds_toArray, List.set_cons_zero, List.set_cons_succ, i64_w, i32_w]
    rfl
  refine join_ (σ := Value × Nat) 2 #[true, true, true, true, true, true, true, true, true, true, false, false] (fun s_ => [(33, .agg #[.slice AT T.length cT, .slice AL L.length cL]), (34, s_.1), (36, .agg #[.int .i64 by_, .int .i64 bo]), (37, .tuple #[.agg #[.int .i64 y1, .int .i64 y2], .int .i64 0]), (14, .pointer (some ⟨s_.2, 0, none⟩)), (31, .tuple #[.agg #[.int .i64 y1, .int .i64 y2], .int .i64 0]), (38, .agg #[.int .i64 y1, .int .i64 y2]), (39, .int .i64 0)]) (fun s_ w' => CE w1.heap.size (.slice AT T.length cT) (.slice AL L.length cL) g3 (.int .i64 by_) (.int .i64 bo) w w4 w' ∧ Box w4 s_.2 #[.int .i64 0, .int .i64 0] 28 w') ?_ ?_
  rotate_left
  · intro hCont
    refine two_ (i := 1) (j := 9) (Ni := some 33) (Nj := some 14) #[true, true, false, true, false, false, false, false, false, false, false, false] #[true, false, false, true, false, false, false, false, false, true, false, false] rfl rfl rfl rfl (two_of HT_.out (by kernel_rfl)) (by decide) (by decide) (fun K hK => ?_) (fun K hK => ?_)
    · skip
      refine goes_ Try.func38 (by kernel_rfl) rfl #[.agg #[.slice AT T.length cT, .slice AL L.length cL]] (by rfl) rfl rfl (by (try simp only [List.map_toArray, List.map_cons, List.map_nil]); first | done | rfl | (simp only [List.length_drop, List.length_take]; rfl)) ?_
      refine (own_calls AT AL T.length cT L.length cL _).mono ?_
      rintro e wr1 ⟨rfl, hb⟩
      refine ⟨_, rfl, ?_⟩
      refine hK.out _ _ (CE.below hHeld hb) (fun hHeld => ?_)
      clear hK K hb
      refine norm_ (a' := ?_) ?_ ?_
      rotate_left
      · show Act.put _ (some 33) _ = _
        simp only [Act.put, List.setIfInBounds_toArray, List.set_cons_zero, List.set_cons_succ, i64_w, i32_w]
        rfl
      refine two_ (i := 2) (j := 9) (Ni := some 34) (Nj := some 14) #[true, true, true, true, false, false, false, false, false, false, false, false] #[true, true, false, true, false, false, false, false, false, true, false, false] rfl rfl rfl rfl (two_of HT_.out (by kernel_rfl)) (by decide) (by decide) (fun K hK => ?_) (fun K hK => ?_)
      · skip
        refine goes_ Try.func20 (by kernel_rfl) rfl #[.agg #[.slice AT T.length cT, .slice AL L.length cL]] (by rfl) rfl rfl (by (try simp only [List.map_toArray, List.map_cons, List.map_nil]); first | done | rfl | (simp only [List.length_drop, List.length_take]; rfl)) ?_
        refine (comfitlaw02_Of.calls AT cT T AL cL L P Q _ (Kd.C_below HTR.out.2 hHeld.2.2.2.2.2) HTR.out.1 (Kd.C_below HLR.out.2 hHeld.2.2.2.2.2) HLR.out.1 HOF.out).mono ?_
        rintro e wr2 ⟨v1, v2, rfl, ho0, ho1, hb⟩
        refine ⟨_, rfl, ?_⟩
        obtain ⟨Ap, cp, rfl⟩ := Kd.R_slice ho0
        obtain ⟨Aq, cq, rfl⟩ := Kd.R_slice ho1
        have HP0 := Aside0.mk (Kd.R_reads' ho0).2
        have HP1 := Aside0.mk (Kd.R_reads' ho1).2
        clear ho0 ho1
        refine hK.out _ _ (CE.below hHeld hb) (fun hHeld => ?_)
        clear hK K hb
        refine norm_ (a' := ?_) ?_ ?_
        rotate_left
        · show Act.put _ (some 34) _ = _
          simp only [Act.put, List.setIfInBounds_toArray, List.set_cons_zero, List.set_cons_succ, i64_w, i32_w]
          rfl
        refine two_ (i := 4) (j := 9) (Ni := some 36) (Nj := some 14) #[true, true, true, true, true, false, false, false, false, false, false, false] #[true, true, true, true, false, false, false, false, false, true, false, false] rfl rfl rfl rfl (two_of HT_.out (by kernel_rfl)) (by decide) (by decide) (fun K hK => ?_) (fun K hK => ?_)
        · skip
          refine goes_ Try.func21 (by kernel_rfl) rfl #[.agg #[.int .i64 by_, .int .i64 bo]] (by rfl) rfl rfl (by (try simp only [List.map_toArray, List.map_cons, List.map_nil]); first | done | rfl | (simp only [List.length_drop, List.length_take]; rfl)) ?_
          refine (comfitlaw02_chance.calls by_ bo by_ bo _ HC2.out).mono ?_
          rintro e wr3 ⟨rfl, hb⟩
          refine ⟨_, rfl, ?_⟩
          replace HP0 := Aside0.mk (And.intro HP0.out.1 (Kd.C_below HP0.out.2 hb))
          replace HP1 := Aside0.mk (And.intro HP1.out.1 (Kd.C_below HP1.out.2 hb))
          refine hK.out _ _ (CE.below hHeld hb) (fun hHeld => ?_)
          clear hK K hb
          refine norm_ (a' := ?_) ?_ ?_
          rotate_left
          · show Act.put _ (some 36) _ = _
            simp only [Act.put, List.setIfInBounds_toArray, List.set_cons_zero, List.set_cons_succ, i64_w, i32_w]
            rfl
          refine two_ (i := 5) (j := 9) (Ni := some 37) (Nj := some 14) #[true, true, true, true, true, true, false, false, false, false, false, false] #[true, true, true, true, true, false, false, false, false, true, false, false] rfl rfl rfl rfl (two_of HT_.out (by kernel_rfl)) (by decide) (by decide) (fun K hK => ?_) (fun K hK => ?_)
          · skip
            refine goes_ Try.func19 (by kernel_rfl) rfl #[.agg #[.slice Ap P.length cp, .slice Aq Q.length cq], .agg #[.int .i64 by_, .int .i64 bo]] (by rfl) rfl rfl (by (try simp only [List.map_toArray, List.map_cons, List.map_nil]); first | done | rfl | (simp only [List.length_drop, List.length_take]; rfl)) ?_
            refine (lots_Taken.calls k Ap cp P Aq cq Q by_ bo y1 y2 0 _ HP0.out.2 HP0.out.1 HP1.out.2 HP1.out.1 HTB.out).mono ?_
            rintro e wr4 ⟨rfl, hb⟩
            refine ⟨_, rfl, ?_⟩
            replace HP0 := Aside0.mk (And.intro HP0.out.1 (Kd.C_below HP0.out.2 hb))
            replace HP1 := Aside0.mk (And.intro HP1.out.1 (Kd.C_below HP1.out.2 hb))
            refine hK.out _ _ (CE.below hHeld hb) (fun hHeld => ?_)
            clear hK K hb
            refine norm_ (a' := ?_) ?_ ?_
            rotate_left
            · show Act.put _ (some 37) _ = _
              simp only [Act.put, List.setIfInBounds_toArray, List.set_cons_zero, List.set_cons_succ, i64_w, i32_w]
              rfl
            refine pure_ (i := 6) (N := some 31) (v := ?_) (a' := ?_) #[true, true, true, true, true, true, true, false, false, false, false, false] rfl rfl (any_of HT_.out (by kernel_rfl)) (fun _ _ _ h => h) (Or.inl ⟨by rfl, ?_⟩) ?_ ?_
            rotate_left
            · intro w'
              go_simp
              with_reducible rfl
            rotate_left
            · simp only [Act.put, List.setIfInBounds_toArray, List.set_cons_zero, List.set_cons_succ, i64_w, i32_w]
              rfl
            refine pure_ (i := 7) (N := some 38) (v := ?_) (a' := ?_) #[true, true, true, true, true, true, true, true, false, false, false, false] rfl rfl (any_of HT_.out (by kernel_rfl)) (fun _ _ _ h => h) (Or.inl ⟨by rfl, ?_⟩) ?_ ?_
            rotate_left
            · intro w'
              go_simp
              with_reducible rfl
            rotate_left
            · simp only [Act.put, List.setIfInBounds_toArray, List.set_cons_zero, List.set_cons_succ, i64_w, i32_w]
              rfl
            refine pure_ (i := 8) (N := some 39) (v := ?_) (a' := ?_) #[true, true, true, true, true, true, true, true, true, false, false, false] rfl rfl (any_of HT_.out (by kernel_rfl)) (fun _ _ _ h => h) (Or.inl ⟨by rfl, ?_⟩) ?_ ?_
            rotate_left
            · intro w'
              go_simp
              with_reducible rfl
            rotate_left
            · simp only [Act.put, List.setIfInBounds_toArray, List.set_cons_zero, List.set_cons_succ, i64_w, i32_w]
              rfl
            refine one_ (i := 9) (N := some 14) #[true, true, true, true, true, true, true, true, true, true, false, false] rfl rfl (one_of HT_.out (by kernel_rfl)) (by decide) (fun K hK => ?_)
            refine box_step ?hg (N := 14) ?hd (cs := #[.int .i64 0, .int .i64 0]) (t := 28) ?hr ?_; (case hd => rfl); (case hg => rfl); (case hr => first | (go_simp; done) | (go_simp; rfl))
            intro gx hg wr5 hbox hb
            replace HP0 := Aside0.mk (And.intro HP0.out.1 (Kd.C_below HP0.out.2 hb))
            replace HP1 := Aside0.mk (And.intro HP1.out.1 (Kd.C_below HP1.out.2 hb))
            have HX : Aside0 (Box w4 gx #[.int .i64 0, .int .i64 0] 28 _) := ⟨⟨by rw [hg]; exact hHeld.2.2.2.2.2.size, hbox⟩⟩
            clear hg hbox
            refine hK.out _ _ (CE.below hHeld hb) (fun hHeld => ?_)
            clear hK K hb
            refine norm_ (a' := ?_) ?_ ?_
            rotate_left
            · show Act.put _ (some 14) _ = _
              simp only [Act.put, List.setIfInBounds_toArray, List.set_cons_zero, List.set_cons_succ, i64_w, i32_w]
              rfl
            exact norm_ (by simp only [putAll, Act.put, List.setIfInBounds_toArray, List.set_cons_zero, List.set_cons_succ]) (hCont (.agg #[.slice Ap P.length cp, .slice Aq Q.length cq], gx) _ ⟨hHeld, HX.out⟩)
          · skip
            refine box_step ?hg (N := 14) ?hd (cs := #[.int .i64 0, .int .i64 0]) (t := 28) ?hr ?_; (case hd => rfl); (case hg => rfl); (case hr => first | (go_simp; done) | (go_simp; rfl))
            intro gx hg wr6 hbox hb
            replace HP0 := Aside0.mk (And.intro HP0.out.1 (Kd.C_below HP0.out.2 hb))
            replace HP1 := Aside0.mk (And.intro HP1.out.1 (Kd.C_below HP1.out.2 hb))
            have HX : Aside0 (Box w4 gx #[.int .i64 0, .int .i64 0] 28 _) := ⟨⟨by rw [hg]; exact hHeld.2.2.2.2.2.size, hbox⟩⟩
            clear hg hbox
            refine hK.out _ _ (CE.below hHeld hb) (fun hHeld => ?_)
            clear hK K hb
            refine norm_ (a' := ?_) ?_ ?_
            rotate_left
            · show Act.put _ (some 14) _ = _
              simp only [Act.put, List.setIfInBounds_toArray, List.set_cons_zero, List.set_cons_succ, i64_w, i32_w]
              rfl
            refine one_ (i := 5) (N := some 37) #[true, true, true, true, true, true, false, false, false, true, false, false] rfl rfl (one_of HT_.out (by kernel_rfl)) (by decide) (fun K hK => ?_)
            refine goes_ Try.func19 (by kernel_rfl) rfl #[.agg #[.slice Ap P.length cp, .slice Aq Q.length cq], .agg #[.int .i64 by_, .int .i64 bo]] (by rfl) rfl rfl (by (try simp only [List.map_toArray, List.map_cons, List.map_nil]); first | done | rfl | (simp only [List.length_drop, List.length_take]; rfl)) ?_
            refine (lots_Taken.calls k Ap cp P Aq cq Q by_ bo y1 y2 0 _ HP0.out.2 HP0.out.1 HP1.out.2 HP1.out.1 HTB.out).mono ?_
            rintro e wr7 ⟨rfl, hb⟩
            refine ⟨_, rfl, ?_⟩
            replace HP0 := Aside0.mk (And.intro HP0.out.1 (Kd.C_below HP0.out.2 hb))
            replace HP1 := Aside0.mk (And.intro HP1.out.1 (Kd.C_below HP1.out.2 hb))
            replace HX := Aside0.mk (HX.out.below hb)
            refine hK.out _ _ (CE.below hHeld hb) (fun hHeld => ?_)
            clear hK K hb
            refine norm_ (a' := ?_) ?_ ?_
            rotate_left
            · show Act.put _ (some 37) _ = _
              simp only [Act.put, List.setIfInBounds_toArray, List.set_cons_zero, List.set_cons_succ, i64_w, i32_w]
              rfl
            refine pure_ (i := 6) (N := some 31) (v := ?_) (a' := ?_) #[true, true, true, true, true, true, true, false, false, true, false, false] rfl rfl (any_of HT_.out (by kernel_rfl)) (fun _ _ _ h => h) (Or.inl ⟨by rfl, ?_⟩) ?_ ?_
            rotate_left
            · intro w'
              go_simp
              with_reducible rfl
            rotate_left
            · simp only [Act.put, List.setIfInBounds_toArray, List.set_cons_zero, List.set_cons_succ, i64_w, i32_w]
              rfl
            refine pure_ (i := 7) (N := some 38) (v := ?_) (a' := ?_) #[true, true, true, true, true, true, true, true, false, true, false, false] rfl rfl (any_of HT_.out (by kernel_rfl)) (fun _ _ _ h => h) (Or.inl ⟨by rfl, ?_⟩) ?_ ?_
            rotate_left
            · intro w'
              go_simp
              with_reducible rfl
            rotate_left
            · simp only [Act.put, List.setIfInBounds_toArray, List.set_cons_zero, List.set_cons_succ, i64_w, i32_w]
              rfl
            refine pure_ (i := 8) (N := some 39) (v := ?_) (a' := ?_) #[true, true, true, true, true, true, true, true, true, true, false, false] rfl rfl (any_of HT_.out (by kernel_rfl)) (fun _ _ _ h => h) (Or.inl ⟨by rfl, ?_⟩) ?_ ?_
            rotate_left
            · intro w'
              go_simp
              with_reducible rfl
            rotate_left
            · simp only [Act.put, List.setIfInBounds_toArray, List.set_cons_zero, List.set_cons_succ, i64_w, i32_w]
              rfl
            exact norm_ (by simp only [putAll, Act.put, List.setIfInBounds_toArray, List.set_cons_zero, List.set_cons_succ]) (hCont (.agg #[.slice Ap P.length cp, .slice Aq Q.length cq], gx) _ ⟨hHeld, HX.out⟩)
        · skip
          refine box_step ?hg (N := 14) ?hd (cs := #[.int .i64 0, .int .i64 0]) (t := 28) ?hr ?_; (case hd => rfl); (case hg => rfl); (case hr => first | (go_simp; done) | (go_simp; rfl))
          intro gx hg wr8 hbox hb
          replace HP0 := Aside0.mk (And.intro HP0.out.1 (Kd.C_below HP0.out.2 hb))
          replace HP1 := Aside0.mk (And.intro HP1.out.1 (Kd.C_below HP1.out.2 hb))
          have HX : Aside0 (Box w4 gx #[.int .i64 0, .int .i64 0] 28 _) := ⟨⟨by rw [hg]; exact hHeld.2.2.2.2.2.size, hbox⟩⟩
          clear hg hbox
          refine hK.out _ _ (CE.below hHeld hb) (fun hHeld => ?_)
          clear hK K hb
          refine norm_ (a' := ?_) ?_ ?_
          rotate_left
          · show Act.put _ (some 14) _ = _
            simp only [Act.put, List.setIfInBounds_toArray, List.set_cons_zero, List.set_cons_succ, i64_w, i32_w]
            rfl
          refine one_ (i := 4) (N := some 36) #[true, true, true, true, true, false, false, false, false, true, false, false] rfl rfl (one_of HT_.out (by kernel_rfl)) (by decide) (fun K hK => ?_)
          refine goes_ Try.func21 (by kernel_rfl) rfl #[.agg #[.int .i64 by_, .int .i64 bo]] (by rfl) rfl rfl (by (try simp only [List.map_toArray, List.map_cons, List.map_nil]); first | done | rfl | (simp only [List.length_drop, List.length_take]; rfl)) ?_
          refine (comfitlaw02_chance.calls by_ bo by_ bo _ HC2.out).mono ?_
          rintro e wr9 ⟨rfl, hb⟩
          refine ⟨_, rfl, ?_⟩
          replace HP0 := Aside0.mk (And.intro HP0.out.1 (Kd.C_below HP0.out.2 hb))
          replace HP1 := Aside0.mk (And.intro HP1.out.1 (Kd.C_below HP1.out.2 hb))
          replace HX := Aside0.mk (HX.out.below hb)
          refine hK.out _ _ (CE.below hHeld hb) (fun hHeld => ?_)
          clear hK K hb
          refine norm_ (a' := ?_) ?_ ?_
          rotate_left
          · show Act.put _ (some 36) _ = _
            simp only [Act.put, List.setIfInBounds_toArray, List.set_cons_zero, List.set_cons_succ, i64_w, i32_w]
            rfl
          refine one_ (i := 5) (N := some 37) #[true, true, true, true, true, true, false, false, false, true, false, false] rfl rfl (one_of HT_.out (by kernel_rfl)) (by decide) (fun K hK => ?_)
          refine goes_ Try.func19 (by kernel_rfl) rfl #[.agg #[.slice Ap P.length cp, .slice Aq Q.length cq], .agg #[.int .i64 by_, .int .i64 bo]] (by rfl) rfl rfl (by (try simp only [List.map_toArray, List.map_cons, List.map_nil]); first | done | rfl | (simp only [List.length_drop, List.length_take]; rfl)) ?_
          refine (lots_Taken.calls k Ap cp P Aq cq Q by_ bo y1 y2 0 _ HP0.out.2 HP0.out.1 HP1.out.2 HP1.out.1 HTB.out).mono ?_
          rintro e wr10 ⟨rfl, hb⟩
          refine ⟨_, rfl, ?_⟩
          replace HP0 := Aside0.mk (And.intro HP0.out.1 (Kd.C_below HP0.out.2 hb))
          replace HP1 := Aside0.mk (And.intro HP1.out.1 (Kd.C_below HP1.out.2 hb))
          replace HX := Aside0.mk (HX.out.below hb)
          refine hK.out _ _ (CE.below hHeld hb) (fun hHeld => ?_)
          clear hK K hb
          refine norm_ (a' := ?_) ?_ ?_
          rotate_left
          · show Act.put _ (some 37) _ = _
            simp only [Act.put, List.setIfInBounds_toArray, List.set_cons_zero, List.set_cons_succ, i64_w, i32_w]
            rfl
          refine pure_ (i := 6) (N := some 31) (v := ?_) (a' := ?_) #[true, true, true, true, true, true, true, false, false, true, false, false] rfl rfl (any_of HT_.out (by kernel_rfl)) (fun _ _ _ h => h) (Or.inl ⟨by rfl, ?_⟩) ?_ ?_
          rotate_left
          · intro w'
            go_simp
            with_reducible rfl
          rotate_left
          · simp only [Act.put, List.setIfInBounds_toArray, List.set_cons_zero, List.set_cons_succ, i64_w, i32_w]
            rfl
          refine pure_ (i := 7) (N := some 38) (v := ?_) (a' := ?_) #[true, true, true, true, true, true, true, true, false, true, false, false] rfl rfl (any_of HT_.out (by kernel_rfl)) (fun _ _ _ h => h) (Or.inl ⟨by rfl, ?_⟩) ?_ ?_
          rotate_left
          · intro w'
            go_simp
            with_reducible rfl
          rotate_left
          · simp only [Act.put, List.setIfInBounds_toArray, List.set_cons_zero, List.set_cons_succ, i64_w, i32_w]
            rfl
          refine pure_ (i := 8) (N := some 39) (v := ?_) (a' := ?_) #[true, true, true, true, true, true, true, true, true, true, false, false] rfl rfl (any_of HT_.out (by kernel_rfl)) (fun _ _ _ h => h) (Or.inl ⟨by rfl, ?_⟩) ?_ ?_
          rotate_left
          · intro w'
            go_simp
            with_reducible rfl
          rotate_left
          · simp only [Act.put, List.setIfInBounds_toArray, List.set_cons_zero, List.set_cons_succ, i64_w, i32_w]
            rfl
          exact norm_ (by simp only [putAll, Act.put, List.setIfInBounds_toArray, List.set_cons_zero, List.set_cons_succ]) (hCont (.agg #[.slice Ap P.length cp, .slice Aq Q.length cq], gx) _ ⟨hHeld, HX.out⟩)
      · skip
        refine box_step ?hg (N := 14) ?hd (cs := #[.int .i64 0, .int .i64 0]) (t := 28) ?hr ?_; (case hd => rfl); (case hg => rfl); (case hr => first | (go_simp; done) | (go_simp; rfl))
        intro gx hg wr11 hbox hb
        have HX : Aside0 (Box w4 gx #[.int .i64 0, .int .i64 0] 28 _) := ⟨⟨by rw [hg]; exact hHeld.2.2.2.2.2.size, hbox⟩⟩
        clear hg hbox
        refine hK.out _ _ (CE.below hHeld hb) (fun hHeld => ?_)
        clear hK K hb
        refine norm_ (a' := ?_) ?_ ?_
        rotate_left
        · show Act.put _ (some 14) _ = _
          simp only [Act.put, List.setIfInBounds_toArray, List.set_cons_zero, List.set_cons_succ, i64_w, i32_w]
          rfl
        refine one_ (i := 2) (N := some 34) #[true, true, true, true, false, false, false, false, false, true, false, false] rfl rfl (one_of HT_.out (by kernel_rfl)) (by decide) (fun K hK => ?_)
        refine goes_ Try.func20 (by kernel_rfl) rfl #[.agg #[.slice AT T.length cT, .slice AL L.length cL]] (by rfl) rfl rfl (by (try simp only [List.map_toArray, List.map_cons, List.map_nil]); first | done | rfl | (simp only [List.length_drop, List.length_take]; rfl)) ?_
        refine (comfitlaw02_Of.calls AT cT T AL cL L P Q _ (Kd.C_below HTR.out.2 hHeld.2.2.2.2.2) HTR.out.1 (Kd.C_below HLR.out.2 hHeld.2.2.2.2.2) HLR.out.1 HOF.out).mono ?_
        rintro e wr12 ⟨v1, v2, rfl, ho0, ho1, hb⟩
        refine ⟨_, rfl, ?_⟩
        replace HX := Aside0.mk (HX.out.below hb)
        obtain ⟨Ap, cp, rfl⟩ := Kd.R_slice ho0
        obtain ⟨Aq, cq, rfl⟩ := Kd.R_slice ho1
        have HP0 := Aside0.mk (Kd.R_reads' ho0).2
        have HP1 := Aside0.mk (Kd.R_reads' ho1).2
        clear ho0 ho1
        refine hK.out _ _ (CE.below hHeld hb) (fun hHeld => ?_)
        clear hK K hb
        refine norm_ (a' := ?_) ?_ ?_
        rotate_left
        · show Act.put _ (some 34) _ = _
          simp only [Act.put, List.setIfInBounds_toArray, List.set_cons_zero, List.set_cons_succ, i64_w, i32_w]
          rfl
        refine one_ (i := 4) (N := some 36) #[true, true, true, true, true, false, false, false, false, true, false, false] rfl rfl (one_of HT_.out (by kernel_rfl)) (by decide) (fun K hK => ?_)
        refine goes_ Try.func21 (by kernel_rfl) rfl #[.agg #[.int .i64 by_, .int .i64 bo]] (by rfl) rfl rfl (by (try simp only [List.map_toArray, List.map_cons, List.map_nil]); first | done | rfl | (simp only [List.length_drop, List.length_take]; rfl)) ?_
        refine (comfitlaw02_chance.calls by_ bo by_ bo _ HC2.out).mono ?_
        rintro e wr13 ⟨rfl, hb⟩
        refine ⟨_, rfl, ?_⟩
        replace HP0 := Aside0.mk (And.intro HP0.out.1 (Kd.C_below HP0.out.2 hb))
        replace HP1 := Aside0.mk (And.intro HP1.out.1 (Kd.C_below HP1.out.2 hb))
        replace HX := Aside0.mk (HX.out.below hb)
        refine hK.out _ _ (CE.below hHeld hb) (fun hHeld => ?_)
        clear hK K hb
        refine norm_ (a' := ?_) ?_ ?_
        rotate_left
        · show Act.put _ (some 36) _ = _
          simp only [Act.put, List.setIfInBounds_toArray, List.set_cons_zero, List.set_cons_succ, i64_w, i32_w]
          rfl
        refine one_ (i := 5) (N := some 37) #[true, true, true, true, true, true, false, false, false, true, false, false] rfl rfl (one_of HT_.out (by kernel_rfl)) (by decide) (fun K hK => ?_)
        refine goes_ Try.func19 (by kernel_rfl) rfl #[.agg #[.slice Ap P.length cp, .slice Aq Q.length cq], .agg #[.int .i64 by_, .int .i64 bo]] (by rfl) rfl rfl (by (try simp only [List.map_toArray, List.map_cons, List.map_nil]); first | done | rfl | (simp only [List.length_drop, List.length_take]; rfl)) ?_
        refine (lots_Taken.calls k Ap cp P Aq cq Q by_ bo y1 y2 0 _ HP0.out.2 HP0.out.1 HP1.out.2 HP1.out.1 HTB.out).mono ?_
        rintro e wr14 ⟨rfl, hb⟩
        refine ⟨_, rfl, ?_⟩
        replace HP0 := Aside0.mk (And.intro HP0.out.1 (Kd.C_below HP0.out.2 hb))
        replace HP1 := Aside0.mk (And.intro HP1.out.1 (Kd.C_below HP1.out.2 hb))
        replace HX := Aside0.mk (HX.out.below hb)
        refine hK.out _ _ (CE.below hHeld hb) (fun hHeld => ?_)
        clear hK K hb
        refine norm_ (a' := ?_) ?_ ?_
        rotate_left
        · show Act.put _ (some 37) _ = _
          simp only [Act.put, List.setIfInBounds_toArray, List.set_cons_zero, List.set_cons_succ, i64_w, i32_w]
          rfl
        refine pure_ (i := 6) (N := some 31) (v := ?_) (a' := ?_) #[true, true, true, true, true, true, true, false, false, true, false, false] rfl rfl (any_of HT_.out (by kernel_rfl)) (fun _ _ _ h => h) (Or.inl ⟨by rfl, ?_⟩) ?_ ?_
        rotate_left
        · intro w'
          go_simp
          with_reducible rfl
        rotate_left
        · simp only [Act.put, List.setIfInBounds_toArray, List.set_cons_zero, List.set_cons_succ, i64_w, i32_w]
          rfl
        refine pure_ (i := 7) (N := some 38) (v := ?_) (a' := ?_) #[true, true, true, true, true, true, true, true, false, true, false, false] rfl rfl (any_of HT_.out (by kernel_rfl)) (fun _ _ _ h => h) (Or.inl ⟨by rfl, ?_⟩) ?_ ?_
        rotate_left
        · intro w'
          go_simp
          with_reducible rfl
        rotate_left
        · simp only [Act.put, List.setIfInBounds_toArray, List.set_cons_zero, List.set_cons_succ, i64_w, i32_w]
          rfl
        refine pure_ (i := 8) (N := some 39) (v := ?_) (a' := ?_) #[true, true, true, true, true, true, true, true, true, true, false, false] rfl rfl (any_of HT_.out (by kernel_rfl)) (fun _ _ _ h => h) (Or.inl ⟨by rfl, ?_⟩) ?_ ?_
        rotate_left
        · intro w'
          go_simp
          with_reducible rfl
        rotate_left
        · simp only [Act.put, List.setIfInBounds_toArray, List.set_cons_zero, List.set_cons_succ, i64_w, i32_w]
          rfl
        exact norm_ (by simp only [putAll, Act.put, List.setIfInBounds_toArray, List.set_cons_zero, List.set_cons_succ]) (hCont (.agg #[.slice Ap P.length cp, .slice Aq Q.length cq], gx) _ ⟨hHeld, HX.out⟩)
    · skip
      refine box_step ?hg (N := 14) ?hd (cs := #[.int .i64 0, .int .i64 0]) (t := 28) ?hr ?_; (case hd => rfl); (case hg => rfl); (case hr => first | (go_simp; done) | (go_simp; rfl))
      intro gx hg wr15 hbox hb
      have HX : Aside0 (Box w4 gx #[.int .i64 0, .int .i64 0] 28 _) := ⟨⟨by rw [hg]; exact hHeld.2.2.2.2.2.size, hbox⟩⟩
      clear hg hbox
      refine hK.out _ _ (CE.below hHeld hb) (fun hHeld => ?_)
      clear hK K hb
      refine norm_ (a' := ?_) ?_ ?_
      rotate_left
      · show Act.put _ (some 14) _ = _
        simp only [Act.put, List.setIfInBounds_toArray, List.set_cons_zero, List.set_cons_succ, i64_w, i32_w]
        rfl
      refine one_ (i := 1) (N := some 33) #[true, true, false, true, false, false, false, false, false, true, false, false] rfl rfl (one_of HT_.out (by kernel_rfl)) (by decide) (fun K hK => ?_)
      refine goes_ Try.func38 (by kernel_rfl) rfl #[.agg #[.slice AT T.length cT, .slice AL L.length cL]] (by rfl) rfl rfl (by (try simp only [List.map_toArray, List.map_cons, List.map_nil]); first | done | rfl | (simp only [List.length_drop, List.length_take]; rfl)) ?_
      refine (own_calls AT AL T.length cT L.length cL _).mono ?_
      rintro e wr16 ⟨rfl, hb⟩
      refine ⟨_, rfl, ?_⟩
      replace HX := Aside0.mk (HX.out.below hb)
      refine hK.out _ _ (CE.below hHeld hb) (fun hHeld => ?_)
      clear hK K hb
      refine norm_ (a' := ?_) ?_ ?_
      rotate_left
      · show Act.put _ (some 33) _ = _
        simp only [Act.put, List.setIfInBounds_toArray, List.set_cons_zero, List.set_cons_succ, i64_w, i32_w]
        rfl
      refine one_ (i := 2) (N := some 34) #[true, true, true, true, false, false, false, false, false, true, false, false] rfl rfl (one_of HT_.out (by kernel_rfl)) (by decide) (fun K hK => ?_)
      refine goes_ Try.func20 (by kernel_rfl) rfl #[.agg #[.slice AT T.length cT, .slice AL L.length cL]] (by rfl) rfl rfl (by (try simp only [List.map_toArray, List.map_cons, List.map_nil]); first | done | rfl | (simp only [List.length_drop, List.length_take]; rfl)) ?_
      refine (comfitlaw02_Of.calls AT cT T AL cL L P Q _ (Kd.C_below HTR.out.2 hHeld.2.2.2.2.2) HTR.out.1 (Kd.C_below HLR.out.2 hHeld.2.2.2.2.2) HLR.out.1 HOF.out).mono ?_
      rintro e wr17 ⟨v1, v2, rfl, ho0, ho1, hb⟩
      refine ⟨_, rfl, ?_⟩
      replace HX := Aside0.mk (HX.out.below hb)
      obtain ⟨Ap, cp, rfl⟩ := Kd.R_slice ho0
      obtain ⟨Aq, cq, rfl⟩ := Kd.R_slice ho1
      have HP0 := Aside0.mk (Kd.R_reads' ho0).2
      have HP1 := Aside0.mk (Kd.R_reads' ho1).2
      clear ho0 ho1
      refine hK.out _ _ (CE.below hHeld hb) (fun hHeld => ?_)
      clear hK K hb
      refine norm_ (a' := ?_) ?_ ?_
      rotate_left
      · show Act.put _ (some 34) _ = _
        simp only [Act.put, List.setIfInBounds_toArray, List.set_cons_zero, List.set_cons_succ, i64_w, i32_w]
        rfl
      refine one_ (i := 4) (N := some 36) #[true, true, true, true, true, false, false, false, false, true, false, false] rfl rfl (one_of HT_.out (by kernel_rfl)) (by decide) (fun K hK => ?_)
      refine goes_ Try.func21 (by kernel_rfl) rfl #[.agg #[.int .i64 by_, .int .i64 bo]] (by rfl) rfl rfl (by (try simp only [List.map_toArray, List.map_cons, List.map_nil]); first | done | rfl | (simp only [List.length_drop, List.length_take]; rfl)) ?_
      refine (comfitlaw02_chance.calls by_ bo by_ bo _ HC2.out).mono ?_
      rintro e wr18 ⟨rfl, hb⟩
      refine ⟨_, rfl, ?_⟩
      replace HP0 := Aside0.mk (And.intro HP0.out.1 (Kd.C_below HP0.out.2 hb))
      replace HP1 := Aside0.mk (And.intro HP1.out.1 (Kd.C_below HP1.out.2 hb))
      replace HX := Aside0.mk (HX.out.below hb)
      refine hK.out _ _ (CE.below hHeld hb) (fun hHeld => ?_)
      clear hK K hb
      refine norm_ (a' := ?_) ?_ ?_
      rotate_left
      · show Act.put _ (some 36) _ = _
        simp only [Act.put, List.setIfInBounds_toArray, List.set_cons_zero, List.set_cons_succ, i64_w, i32_w]
        rfl
      refine one_ (i := 5) (N := some 37) #[true, true, true, true, true, true, false, false, false, true, false, false] rfl rfl (one_of HT_.out (by kernel_rfl)) (by decide) (fun K hK => ?_)
      refine goes_ Try.func19 (by kernel_rfl) rfl #[.agg #[.slice Ap P.length cp, .slice Aq Q.length cq], .agg #[.int .i64 by_, .int .i64 bo]] (by rfl) rfl rfl (by (try simp only [List.map_toArray, List.map_cons, List.map_nil]); first | done | rfl | (simp only [List.length_drop, List.length_take]; rfl)) ?_
      refine (lots_Taken.calls k Ap cp P Aq cq Q by_ bo y1 y2 0 _ HP0.out.2 HP0.out.1 HP1.out.2 HP1.out.1 HTB.out).mono ?_
      rintro e wr19 ⟨rfl, hb⟩
      refine ⟨_, rfl, ?_⟩
      replace HP0 := Aside0.mk (And.intro HP0.out.1 (Kd.C_below HP0.out.2 hb))
      replace HP1 := Aside0.mk (And.intro HP1.out.1 (Kd.C_below HP1.out.2 hb))
      replace HX := Aside0.mk (HX.out.below hb)
      refine hK.out _ _ (CE.below hHeld hb) (fun hHeld => ?_)
      clear hK K hb
      refine norm_ (a' := ?_) ?_ ?_
      rotate_left
      · show Act.put _ (some 37) _ = _
        simp only [Act.put, List.setIfInBounds_toArray, List.set_cons_zero, List.set_cons_succ, i64_w, i32_w]
        rfl
      refine pure_ (i := 6) (N := some 31) (v := ?_) (a' := ?_) #[true, true, true, true, true, true, true, false, false, true, false, false] rfl rfl (any_of HT_.out (by kernel_rfl)) (fun _ _ _ h => h) (Or.inl ⟨by rfl, ?_⟩) ?_ ?_
      rotate_left
      · intro w'
        go_simp
        with_reducible rfl
      rotate_left
      · simp only [Act.put, List.setIfInBounds_toArray, List.set_cons_zero, List.set_cons_succ, i64_w, i32_w]
        rfl
      refine pure_ (i := 7) (N := some 38) (v := ?_) (a' := ?_) #[true, true, true, true, true, true, true, true, false, true, false, false] rfl rfl (any_of HT_.out (by kernel_rfl)) (fun _ _ _ h => h) (Or.inl ⟨by rfl, ?_⟩) ?_ ?_
      rotate_left
      · intro w'
        go_simp
        with_reducible rfl
      rotate_left
      · simp only [Act.put, List.setIfInBounds_toArray, List.set_cons_zero, List.set_cons_succ, i64_w, i32_w]
        rfl
      refine pure_ (i := 8) (N := some 39) (v := ?_) (a' := ?_) #[true, true, true, true, true, true, true, true, true, true, false, false] rfl rfl (any_of HT_.out (by kernel_rfl)) (fun _ _ _ h => h) (Or.inl ⟨by rfl, ?_⟩) ?_ ?_
      rotate_left
      · intro w'
        go_simp
        with_reducible rfl
      rotate_left
      · simp only [Act.put, List.setIfInBounds_toArray, List.set_cons_zero, List.set_cons_succ, i64_w, i32_w]
        rfl
      exact norm_ (by simp only [putAll, Act.put, List.setIfInBounds_toArray, List.set_cons_zero, List.set_cons_succ]) (hCont (.agg #[.slice Ap P.length cp, .slice Aq Q.length cq], gx) _ ⟨hHeld, HX.out⟩)
  rintro ⟨va, gx_BB⟩ wt ⟨hHeld, hbx⟩
  have HX := Aside0.mk hbx
  clear hbx
  refine norm_ (a' := ?_) ?_ ?_
  rotate_left
  · simp only [putAll, Act.put, List.setIfInBounds_toArray, List.set_cons_zero, List.set_cons_succ]
    rfl
  refine one_ (i := 10) (N := none) #[true, true, true, true, true, true, true, true, true, true, true, false] rfl rfl (one_of HT_.out (by kernel_rfl)) (by decide) (fun K hK => ?_)
  have hs0_ := HX.out.cell 0 rfl
  have hs1_ := HX.out.cell 1 rfl
  have fs0_ := HX.out.frozen 0
  have fs1_ := HX.out.frozen 1
  refine skip_ (w1 := ?_) (by rfl) rfl ?_ ?_
  rotate_left
  · go_simp
    rfl
  have HL := Aside0.mk (below_set' (below_set' hHeld.2.2.2.2.2 (p := ⟨gx_BB, 0, none⟩) HX.out.1 (.int .i64 y1)) (p := ⟨gx_BB, 1, none⟩) HX.out.1 (.int .i64 y2))
  refine hK.out _ _ (ce_of B10.out B3.out HB.out HL.out) (fun hHeld => ?_)
  clear hK K hHeld
  have BB : Aside0 (Box w4 gx_BB #[.int .i64 y1, .int .i64 y2] 28 _) := ⟨(HX.out.put 0 (.int .i64 y1)).put 1 (.int .i64 y2)⟩
  clear hs0_ hs1_ fs0_ fs1_ HX
  refine pure_ (i := 11) (N := some 15) (v := ?_) (a' := ?_) #[true, true, true, true, true, true, true, true, true, true, true, true] rfl rfl (any_of HT_.out (by kernel_rfl)) (fun _ _ _ h => h) (Or.inl ⟨by rfl, ?_⟩) ?_ ?_
  rotate_left
  · intro w'
    go_simp
    with_reducible rfl
  rotate_left
  · simp only [Act.put, List.setIfInBounds_toArray, List.set_cons_zero, List.set_cons_succ, i64_w, i32_w]
    rfl
  refine done_ (done_of HT_.out (by kernel_rfl)) ?_
  clear HT_ HW_
  generalize ((wt.setCell _ _).setCell _ _) = w6 at BB HL ⊢
  replace B2 := Aside0.mk (B2.out.below HL.out)
  replace B3 := Aside0.mk (B3.out.below HL.out)
  replace B4 := Aside0.mk (B4.out.below HL.out)
  replace B5 := Aside0.mk (B5.out.below HL.out)
  replace BA := Aside0.mk (BA.out.below HL.out)
  replace HB := Aside0.mk (below_step HB.out HL.out)
  clear HL HTB HTR HLR HOF B10
  have fBA0_ := BA.out.cell 0 rfl
  have fBA1_ := BA.out.cell 1 rfl
  have fBB0_ := BB.out.cell 0 rfl
  have fBB1_ := BB.out.cell 1 rfl
  go_wp2_with fail
  refine (comfitlaw02_unit.calls x1 x2 true _ HUA.out).mono ?_
  rintro e w7 ⟨rfl, hb⟩
  clear fBA0_ fBA1_ fBB0_ fBB1_
  replace B2 := Aside0.mk (B2.out.below hb)
  replace B3 := Aside0.mk (B3.out.below hb)
  replace B4 := Aside0.mk (B4.out.below hb)
  replace B5 := Aside0.mk (B5.out.below hb)
  replace BA := Aside0.mk (BA.out.below hb)
  replace BB := Aside0.mk (BB.out.below hb)
  replace HB := Aside0.mk (below_step HB.out hb)
  clear hb
  have fBA0_ := BA.out.cell 0 rfl
  have fBA1_ := BA.out.cell 1 rfl
  have fBB0_ := BB.out.cell 0 rfl
  have fBB1_ := BB.out.cell 1 rfl
  go_wp2_with fail
  refine (comfitlaw02_unit.calls y1 y2 true _ HUB.out).mono ?_
  rintro e w8 ⟨rfl, hb⟩
  clear fBA0_ fBA1_ fBB0_ fBB1_
  replace B2 := Aside0.mk (B2.out.below hb)
  replace B3 := Aside0.mk (B3.out.below hb)
  replace B4 := Aside0.mk (B4.out.below hb)
  replace B5 := Aside0.mk (B5.out.below hb)
  replace BA := Aside0.mk (BA.out.below hb)
  replace BB := Aside0.mk (BB.out.below hb)
  replace HB := Aside0.mk (below_step HB.out hb)
  clear hb
  have fBA0_ := BA.out.cell 0 rfl
  have fBA1_ := BA.out.cell 1 rfl
  have fBB0_ := BB.out.cell 0 rfl
  have fBB1_ := BB.out.cell 1 rfl
  have fB40_ := B4.out.cell 0 rfl
  have fB41_ := B4.out.cell 1 rfl
  have fB50_ := B5.out.cell 0 rfl
  have fB51_ := B5.out.cell 1 rfl
  by_cases h1 : wrap64 (wrap64 (x2 - x1) * ro) ≤ wrap64 (ry * x2)
  · have h1b := decide_eq_true h1
    by_cases h2 : wrap64 (y1 * ao) ≤ wrap64 (ay * y2)
    · have h2b := decide_eq_true h2
      have hf : fOk (x1, x2) (y1, y2) ry ro ay ao = true := by unfold fOk; dsimp only; rw [h1b, h2b]; rfl
      go_wp2_with fail
      go_ret2
      exact ⟨by rw [hf]; rfl, HB.out⟩
    · have h2b := decide_eq_false h2
      have hf : fOk (x1, x2) (y1, y2) ry ro ay ao = false := by unfold fOk; dsimp only; rw [h2b, Bool.and_false]
      go_wp2_with fail
      go_ret2
      exact ⟨by rw [hf]; rfl, HB.out⟩
  · have h1b := decide_eq_false h1
    have hf : fOk (x1, x2) (y1, y2) ry ro ay ao = false := by unfold fOk; dsimp only; rw [h1b, Bool.false_and]
    go_wp2_with fail
    go_ret2
    exact ⟨by rw [hf]; rfl, HB.out⟩
end Go.Proofs.Ytdppnmfljfdhaaa.X
