/- The walk through the law LotsAll: told by the results that its calls are known to have. -/
import Derived.Test.YtdppnmfljfdhaaaQHTwice
import Derived.Test.YtdppnmfljfdhaaaQHTaken
import Derived.Test.YtdppnmfljfdhaaaQXL
import Derived.Test.YtdppnmfljfdhaaaQXLO
import Derived.Test.YtdppnmfljfdhaaaQXR
import Derived.Test.YtdppnmfljfdhaaaQXlotsRun
import Derived.Test.YtdppnmfljfdhaaaQXcomfitlaw02awake
set_option linter.unusedVariables false
set_option linter.unusedSimpArgs false
namespace Go.Proofs.Ytdppnmfljfdhaaa.X
open Go.RowKit Go.Proofs.YtdppnmfljfdhaaaW.PrintWords Go.Proofs.YtdppnmfljfdhaaaW.PrintLast Go.Proofs.YtdppnmfljfdhaaaW.PrintMore
attribute [local go_sem] max2_int min2_int max_two min_two max_three min_three max_four min_four
attribute [local go_sem] Oper.semAt_some

/-- Two variables of two cells, and what lay before. -/
def CA (g : Nat) (u0 u1 : Value) (g' : Nat) (u2 u3 : Value) (w w7 W : World) : Prop := W.cell? ⟨g, 0, none⟩ = some u0 ∧ W.cell? ⟨g, 1, none⟩ = some u1 ∧ W.cell? ⟨g', 0, none⟩ = some u2 ∧ W.cell? ⟨g', 1, none⟩ = some u3 ∧ Below w.heap.size w W ∧ Below w7.heap.size w7 W
section
variable {g g' : Nat} {u0 u1 u2 u3 : Value} {w w7 W W1 : World}
theorem cell_keep5 {a : Addr} {u : Value} (h : W.cell? a = some u) (hb : Below W.heap.size W W1) : W1.cell? a = some u := (hb.cell (World.block_lt_of_cell? W _ h)).trans h
theorem CA.below (h : CA g u0 u1 g' u2 u3 w w7 W) (hb : Below W.heap.size W W1) : CA g u0 u1 g' u2 u3 w w7 W1 := by
  obtain ⟨h0, h1, h2, h3, h4, h5⟩ := h
  exact ⟨cell_keep5 h0 hb, cell_keep5 h1 hb, cell_keep5 h2 hb, cell_keep5 h3 hb, below_step h4 hb, below_step h5 hb⟩
theorem ca_of {t0 t1 : TypeId} {x0 x1 : World} (h0 : Box x0 g #[u0, u1] t0 W) (h1 : Box x1 g' #[u2, u3] t1 W) (hb : Below w.heap.size w W) (hw : Below W.heap.size W W1) : CA g u0 u1 g' u2 u3 w W W1 :=
  ⟨(h0.below hw).cell 0 rfl, (h0.below hw).cell 1 rfl, (h1.below hw).cell 0 rfl, (h1.below hw).cell 1 rfl, below_step hb hw, hw⟩
end
theorem meas_j (n j : Nat) (x : Int) (hx : x = ((j + 1 : Nat) : Int)) (h : j < n) : n - (intOf (.int .i64 x)).toNat < n - (intOf (.int .i64 (j : Int))).toNat := by
  subst hx
  simp only [intOf, Int.toNat_natCast]
  omega
/-- A power, round by round. -/
def powA (o : Int) : Nat → Int
  | 0 => 1
  | j + 1 => wrap64 (powA o j * o)
theorem powA_succ (o : Int) (j : Nat) : wrap64 (powA o j * o) = powA o (j + 1) := rfl
/-- Is the i-th item of a set bad? -/
def bitA (s i : Nat) : Bool := Go.bits .and .i64 (shr .i64 (s : Int) (i : Int)) 1 == 1
/-- The items of a set, as far as they are filled in. -/
def itA (s n i : Nat) : List Bool := (List.range n).map fun j => if j < i then bitA s j else false
/-- How often these items come. -/
def tmA (y o : Int) (s : Nat) : Nat → Int
  | 0 => 1
  | i + 1 => wrap64 (tmA y o s i * (if bitA s i = true then y else wrap64 (o - y)))
theorem tmA_yes (y o : Int) (s i : Nat) (h : bitA s i = true) : wrap64 (tmA y o s i * y) = tmA y o s (i + 1) := by rw [tmA, if_pos h]
theorem tmA_no (y o : Int) (s i : Nat) (h : bitA s i = false) : wrap64 (tmA y o s i * wrap64 (o - y)) = tmA y o s (i + 1) := by rw [tmA, if_neg (by rw [h]; decide)]
theorem itA_length (s n i : Nat) : (itA s n i).length = n := by simp [itA]
theorem itA_zero (s n : Nat) : List.replicate n false = itA s n 0 := by
  refine List.ext_getElem (by simp [itA]) (fun i h1 h2 => ?_)
  simp [itA]
theorem itA_set (s n i : Nat) (h : i < n) : (itA s n i).set i (bitA s i) = itA s n (i + 1) := by
  refine List.ext_getElem (by simp [itA]) (fun j h1 h2 => ?_)
  rw [List.getElem_set]
  simp only [itA, List.getElem_map, List.getElem_range]
  by_cases h3 : i = j
  · subst h3; simp
  · rw [if_neg h3]
    by_cases h4 : j < i
    · rw [if_pos h4, if_pos (by omega)]
    · rw [if_neg h4, if_neg (by omega)]
/-- What was taken of the first s sets. -/
def tkS (y o : Int) (n : Nat) (ok : Nat → Bool) : Nat → Int
  | 0 => 0
  | s + 1 => if ok s = true then wrap64 (tkS y o n ok s + tmA y o s n) else tkS y o n ok s
/-- What was looked at. -/
def lkS (y o : Int) (n : Nat) (kf : Nat → Int) : Nat → Int
  | 0 => 0
  | s + 1 => wrap64 (lkS y o n kf s + wrap64 (tmA y o s n * kf s))
theorem lkS_succ (y o : Int) (n : Nat) (kf : Nat → Int) (s : Nat) : wrap64 (lkS y o n kf s + wrap64 (tmA y o s n * kf s)) = lkS y o n kf (s + 1) := rfl
def allT.T1 : Bool × List (List Nat × List Nat) := (true, [([], []), ([0], [0]), ([], []), ([2, 1], [2]), ([1, 3, 3], [1, 3]), ([4], [4]), ([5], [5]), ([5], [5]), ([], []), ([8, 6, 4, 0, 1, 2, 3, 4, 5, 6, 8], [6, 8]), ([7, 9, 0, 1, 2, 3, 4, 5, 6, 7, 8, 9], [7])])
def allT.B1 : List Nat := [0, 1, 0, 7, 15, 31, 63, 63, 0, 383, 1023]
theorem allT.tab1 : rtab .any (opsOf Try.f7 1) = allT.T1 := by kernel_rfl
theorem allT.bits1 : waitsOk allT.T1.2 allT.B1 = true := by kernel_rfl
def allT.T2 : Bool × List (List Nat × List Nat) := (true, [([], []), ([0], [0]), ([], []), ([2, 1], [2]), ([1, 3, 3], [1, 3]), ([4], [4]), ([5], [5]), ([5], [5]), ([], []), ([8, 6, 4, 0, 1, 2, 3, 4, 5, 6, 8], [6, 8]), ([7, 9, 0, 1, 2, 3, 4, 5, 6, 7, 8, 9], [7])])
def allT.B2 : List Nat := [0, 1, 0, 7, 15, 31, 63, 63, 0, 383, 1023]
theorem allT.tab2 : rtab .any (opsOf Try.f7 2) = allT.T2 := by kernel_rfl
theorem allT.bits2 : waitsOk allT.T2.2 allT.B2 = true := by kernel_rfl
set_option maxRecDepth 100000 in
set_option maxHeartbeats 16000000 in
theorem LotsAll_calls (k : Nat) (A0 : Option Addr) (c0 : Nat) (l0 : List Int) (A1 : Option Addr) (c1 : Nat) (l1 : List Int) (y o : Int) (t0 t1 : List Int) (x1 x2 y1 y2 e0 : Int) (w : World)
    (hr0 : Kd.C (Kd.int .i64) w A0 l0.length l0) (hc0 : l0.length ≤ c0) (hr1 : Kd.C (Kd.int .i64) w A1 l1.length l1) (hc1 : l1.length ≤ c1)
    (hof : comfitlaw02_Of.f l0 l1 = some (t0, t1)) (hta : lots_Taken.f k t0 t1 y o = some (x1, x2, e0)) (hlo : lots_Looks.f k t0 t1 y o = some (y1, y2, e0)) (haw : comfitlaw02_awake.f k = some true)
    (h : e0 = 2 ∨ (e0 = 0 ∧ comfitref02_Valid.f k l0 l1 = some true ∧ comfitref02_Is.f y o = some true ∧ (8 < l0.length ∨ (l0.length ≤ 8 ∧ 1 ≤ l0.length ∧ ∃ (pw : Nat) (kf : Nat → Int) (ok : Nat → Bool), shl .i64 1 (l0.length : Int) = (pw : Int) ∧ pw ≤ 256 ∧
      (∀ s : Nat, s < pw → lots_Run.f k t0 t1 (itA s l0.length l0.length) = some (kf s, ok s, 0) ∧ 1 ≤ kf s ∧ kf s ≤ (l0.length : Int)) ∧
      1 ≤ x2 ∧ x2 ≤ powA o l0.length ∧ 1 ≤ y2 ∧ y2 ≤ powA o l0.length ∧ 0 ≤ x1 ∧ x1 ≤ x2 ∧ 0 ≤ y1 ∧ y1 ≤ wrap64 ((l0.length : Int) * y2) ∧
      wrap64 (x1 * powA o l0.length) = wrap64 (tkS y o l0.length ok pw * x2) ∧ wrap64 (y1 * powA o l0.length) = wrap64 (lkS y o l0.length kf pw * y2))))) :
    Calls Try.prog 7 #[.agg #[.slice A0 l0.length c0, .slice A1 l1.length c1], .agg #[.int .i64 y, .int .i64 o]] w fun e w' => e = .returned (.bool true) ∧ Below w.heap.size w w' := by
  have hu26 := Try.underlying26
  have hu34 := Try.underlying34
  have hu28 := Try.underlying28
  have hu24 := Try.underlying24
  have hu32 := Try.underlying32
  have HR0 := Aside0.mk hr0
  have HC0 := Aside0.mk hc0
  have HR1 := Aside0.mk hr1
  have HC1 := Aside0.mk hc1
  have HOF := Aside0.mk hof
  have HTA := Aside0.mk hta
  have HLO := Aside0.mk hlo
  have HAW := Aside0.mk haw
  have HH := Aside0.mk h
  have HCN : Aside0 (comfitlaw02_chance.f y o = some (y, o)) := ⟨rfl⟩
  clear hr0 hc0 hr1 hc1 hof hta hlo haw h
  have HB := Aside0.mk (below_alloc (below_alloc (Below.refl w.heap.size w) (.cells #[.slice A0 l0.length c0, .slice A1 l1.length c1] 24)) (.cells #[.int .i64 y, .int .i64 o] 26))
  have B2 := Aside0.mk ((Box.new (Below.refl w.heap.size w) #[.slice A0 l0.length c0, .slice A1 l1.length c1] 24).alloc (.cells #[.int .i64 y, .int .i64 o] 26))
  have B3 := Aside0.mk (Box.new (below_alloc (Below.refl w.heap.size w) (.cells #[.slice A0 l0.length c0, .slice A1 l1.length c1] 24)) #[.int .i64 y, .int .i64 o] 26)
  rw [World.size_alloc] at B3
  go_enter Try.func7, Try.ntmps7
  go_wp2_with fail
  generalize ((w.alloc (.cells #[.slice A0 l0.length c0, .slice A1 l1.length c1] 24)).alloc (.cells #[.int .i64 y, .int .i64 o] 26)) = w1 at B2 B3 HB ⊢
  refine start_ (n := 11) (S := CA w.heap.size (.slice A0 l0.length c0) (.slice A1 l1.length c1) (w.heap.size + 1) (.int .i64 y) (.int .i64 o) w w1) (ds := []) #[false, false, false, false, false, false, false, false, false, false, false] (by kernel_rfl) rfl rfl (ca_of B2.out B3.out HB.out (below_drew (Below.refl _ _))) (fun hHeld => ?_)
  refine with_tabW allT.tab1 allT.bits1 (fun HT_ HW_ => ?_)
  generalize (World.drew _) = w2 at hHeld ⊢
  refine take_ (i := 0) (N := some 21) (v := ?_) (a' := ?_) #[true, false, false, false, false, false, false, false, false, false, false] rfl rfl (take_ofW HT_.out HW_.out (by kernel_rfl)) (fun _ _ _ h => h) (Or.inl ⟨by rfl, ?_⟩) hHeld ?_ ?_
  rotate_left
  · rintro w' ⟨s0, s1, s2, s3, s4, s5⟩
    go_simp
    with_reducible rfl
  rotate_left
  · simp only [Act.put, List.setIfInBounds_toArray, List.set_cons_zero, List.set_cons_succ, i64_w, i32_w]
    rfl
  refine take_ (i := 2) (N := some 23) (v := ?_) (a' := ?_) #[true, false, true, false, false, false, false, false, false, false, false] rfl rfl (take_ofW HT_.out HW_.out (by kernel_rfl)) (fun _ _ _ h => h) (Or.inl ⟨by rfl, ?_⟩) hHeld ?_ ?_
  rotate_left
  · rintro w' ⟨s0, s1, s2, s3, s4, s5⟩
    go_simp
    with_reducible rfl
  rotate_left
  · simp only [Act.put, List.setIfInBounds_toArray, List.set_cons_zero, List.set_cons_succ, i64_w, i32_w]
    rfl
  refine join_ (σ := Value × Nat) 2 #[true, true, true, true, true, true, true, true, true, false, false] (fun s_ => [(22, s_.1), (24, .agg #[.int .i64 y, .int .i64 o]), (25, .tuple #[.agg #[.int .i64 x1, .int .i64 x2], .int .i64 e0]), (5, .pointer (some ⟨s_.2, 0, none⟩)), (20, .tuple #[.agg #[.int .i64 x1, .int .i64 x2], .int .i64 e0]), (26, .agg #[.int .i64 x1, .int .i64 x2]), (27, .int .i64 e0)]) (fun s_ w' => CA w.heap.size (.slice A0 l0.length c0) (.slice A1 l1.length c1) (w.heap.size + 1) (.int .i64 y) (.int .i64 o) w w1 w' ∧ Box w1 s_.2 #[.int .i64 0, .int .i64 0] 28 w') ?_ ?_
  rotate_left
  · intro hCont
    refine two_ (i := 1) (j := 8) (Ni := some 22) (Nj := some 5) #[true, true, true, false, false, false, false, false, false, false, false] #[true, false, true, false, false, false, false, false, true, false, false] rfl rfl rfl rfl (two_of HT_.out (by kernel_rfl)) (by decide) (by decide) (fun K hK => ?_) (fun K hK => ?_)
    · skip
      refine goes_ Try.func20 (by kernel_rfl) rfl #[.agg #[.slice A0 l0.length c0, .slice A1 l1.length c1]] (by rfl) rfl rfl (by (try simp only [List.map_toArray, List.map_cons, List.map_nil]); first | done | rfl | (simp only [List.length_drop, List.length_take]; rfl)) ?_
      refine (comfitlaw02_Of.calls A0 c0 l0 A1 c1 l1 t0 t1 _ (Kd.C_below HR0.out hHeld.2.2.2.2.1) HC0.out (Kd.C_below HR1.out hHeld.2.2.2.2.1) HC1.out HOF.out).mono ?_
      rintro e wr1 ⟨v1, v2, rfl, ho0, ho1, hb⟩
      refine ⟨_, rfl, ?_⟩
      obtain ⟨Ap, cp, rfl⟩ := Kd.R_slice ho0
      obtain ⟨Aq, cq, rfl⟩ := Kd.R_slice ho1
      have HP0 := Aside0.mk (Kd.R_reads' ho0).2
      have HP1 := Aside0.mk (Kd.R_reads' ho1).2
      clear ho0 ho1
      refine hK.out _ _ (CA.below hHeld hb) (fun hHeld => ?_)
      clear hK K hb
      refine norm_ (a' := ?_) ?_ ?_
      rotate_left
      · show Act.put _ (some 22) _ = _
        simp only [Act.put, List.setIfInBounds_toArray, List.set_cons_zero, List.set_cons_succ, i64_w, i32_w]
        rfl
      refine two_ (i := 3) (j := 8) (Ni := some 24) (Nj := some 5) #[true, true, true, true, false, false, false, false, false, false, false] #[true, true, true, false, false, false, false, false, true, false, false] rfl rfl rfl rfl (two_of HT_.out (by kernel_rfl)) (by decide) (by decide) (fun K hK => ?_) (fun K hK => ?_)
      · skip
        refine goes_ Try.func21 (by kernel_rfl) rfl #[.agg #[.int .i64 y, .int .i64 o]] (by rfl) rfl rfl (by (try simp only [List.map_toArray, List.map_cons, List.map_nil]); first | done | rfl | (simp only [List.length_drop, List.length_take]; rfl)) ?_
        refine (comfitlaw02_chance.calls y o y o _ HCN.out).mono ?_
        rintro e wr2 ⟨rfl, hb⟩
        refine ⟨_, rfl, ?_⟩
        replace HP0 := Aside0.mk (And.intro HP0.out.1 (Kd.C_below HP0.out.2 hb))
        replace HP1 := Aside0.mk (And.intro HP1.out.1 (Kd.C_below HP1.out.2 hb))
        refine hK.out _ _ (CA.below hHeld hb) (fun hHeld => ?_)
        clear hK K hb
        refine norm_ (a' := ?_) ?_ ?_
        rotate_left
        · show Act.put _ (some 24) _ = _
          simp only [Act.put, List.setIfInBounds_toArray, List.set_cons_zero, List.set_cons_succ, i64_w, i32_w]
          rfl
        refine two_ (i := 4) (j := 8) (Ni := some 25) (Nj := some 5) #[true, true, true, true, true, false, false, false, false, false, false] #[true, true, true, true, false, false, false, false, true, false, false] rfl rfl rfl rfl (two_of HT_.out (by kernel_rfl)) (by decide) (by decide) (fun K hK => ?_) (fun K hK => ?_)
        · skip
          refine goes_ Try.func19 (by kernel_rfl) rfl #[.agg #[.slice Ap t0.length cp, .slice Aq t1.length cq], .agg #[.int .i64 y, .int .i64 o]] (by rfl) rfl rfl (by (try simp only [List.map_toArray, List.map_cons, List.map_nil]); first | done | rfl | (simp only [List.length_drop, List.length_take]; rfl)) ?_
          refine (lots_Taken.calls k Ap cp t0 Aq cq t1 y o x1 x2 e0 _ HP0.out.2 HP0.out.1 HP1.out.2 HP1.out.1 HTA.out).mono ?_
          rintro e wr3 ⟨rfl, hb⟩
          refine ⟨_, rfl, ?_⟩
          replace HP0 := Aside0.mk (And.intro HP0.out.1 (Kd.C_below HP0.out.2 hb))
          replace HP1 := Aside0.mk (And.intro HP1.out.1 (Kd.C_below HP1.out.2 hb))
          refine hK.out _ _ (CA.below hHeld hb) (fun hHeld => ?_)
          clear hK K hb
          refine norm_ (a' := ?_) ?_ ?_
          rotate_left
          · show Act.put _ (some 25) _ = _
            simp only [Act.put, List.setIfInBounds_toArray, List.set_cons_zero, List.set_cons_succ, i64_w, i32_w]
            rfl
          refine pure_ (i := 5) (N := some 20) (v := ?_) (a' := ?_) #[true, true, true, true, true, true, false, false, false, false, false] rfl rfl (any_of HT_.out (by kernel_rfl)) (fun _ _ _ h => h) (Or.inl ⟨by rfl, ?_⟩) ?_ ?_
          rotate_left
          · intro w'
            go_simp
            with_reducible rfl
          rotate_left
          · simp only [Act.put, List.setIfInBounds_toArray, List.set_cons_zero, List.set_cons_succ, i64_w, i32_w]
            rfl
          refine pure_ (i := 6) (N := some 26) (v := ?_) (a' := ?_) #[true, true, true, true, true, true, true, false, false, false, false] rfl rfl (any_of HT_.out (by kernel_rfl)) (fun _ _ _ h => h) (Or.inl ⟨by rfl, ?_⟩) ?_ ?_
          rotate_left
          · intro w'
            go_simp
            with_reducible rfl
          rotate_left
          · simp only [Act.put, List.setIfInBounds_toArray, List.set_cons_zero, List.set_cons_succ, i64_w, i32_w]
            rfl
          refine pure_ (i := 7) (N := some 27) (v := ?_) (a' := ?_) #[true, true, true, true, true, true, true, true, false, false, false] rfl rfl (any_of HT_.out (by kernel_rfl)) (fun _ _ _ h => h) (Or.inl ⟨by rfl, ?_⟩) ?_ ?_
          rotate_left
          · intro w'
            go_simp
            with_reducible rfl
          rotate_left
          · simp only [Act.put, List.setIfInBounds_toArray, List.set_cons_zero, List.set_cons_succ, i64_w, i32_w]
            rfl
          refine one_ (i := 8) (N := some 5) #[true, true, true, true, true, true, true, true, true, false, false] rfl rfl (one_of HT_.out (by kernel_rfl)) (by decide) (fun K hK => ?_)
          refine box_step ?hg (N := 5) ?hd (cs := #[.int .i64 0, .int .i64 0]) (t := 28) ?hr ?_; (case hd => rfl); (case hg => rfl); (case hr => first | (go_simp; done) | (go_simp; rfl))
          intro gx hg wr4 hbox hb
          replace HP0 := Aside0.mk (And.intro HP0.out.1 (Kd.C_below HP0.out.2 hb))
          replace HP1 := Aside0.mk (And.intro HP1.out.1 (Kd.C_below HP1.out.2 hb))
          have HX : Aside0 (Box w1 gx #[.int .i64 0, .int .i64 0] 28 _) := ⟨⟨by rw [hg]; exact hHeld.2.2.2.2.2.size, hbox⟩⟩
          clear hg hbox
          refine hK.out _ _ (CA.below hHeld hb) (fun hHeld => ?_)
          clear hK K hb
          refine norm_ (a' := ?_) ?_ ?_
          rotate_left
          · show Act.put _ (some 5) _ = _
            simp only [Act.put, List.setIfInBounds_toArray, List.set_cons_zero, List.set_cons_succ, i64_w, i32_w]
            rfl
          exact norm_ (by simp only [putAll, Act.put, List.setIfInBounds_toArray, List.set_cons_zero, List.set_cons_succ]) (hCont (.agg #[.slice Ap t0.length cp, .slice Aq t1.length cq], gx) _ ⟨hHeld, HX.out⟩)
        · skip
          refine box_step ?hg (N := 5) ?hd (cs := #[.int .i64 0, .int .i64 0]) (t := 28) ?hr ?_; (case hd => rfl); (case hg => rfl); (case hr => first | (go_simp; done) | (go_simp; rfl))
          intro gx hg wr5 hbox hb
          replace HP0 := Aside0.mk (And.intro HP0.out.1 (Kd.C_below HP0.out.2 hb))
          replace HP1 := Aside0.mk (And.intro HP1.out.1 (Kd.C_below HP1.out.2 hb))
          have HX : Aside0 (Box w1 gx #[.int .i64 0, .int .i64 0] 28 _) := ⟨⟨by rw [hg]; exact hHeld.2.2.2.2.2.size, hbox⟩⟩
          clear hg hbox
          refine hK.out _ _ (CA.below hHeld hb) (fun hHeld => ?_)
          clear hK K hb
          refine norm_ (a' := ?_) ?_ ?_
          rotate_left
          · show Act.put _ (some 5) _ = _
            simp only [Act.put, List.setIfInBounds_toArray, List.set_cons_zero, List.set_cons_succ, i64_w, i32_w]
            rfl
          refine one_ (i := 4) (N := some 25) #[true, true, true, true, true, false, false, false, true, false, false] rfl rfl (one_of HT_.out (by kernel_rfl)) (by decide) (fun K hK => ?_)
          refine goes_ Try.func19 (by kernel_rfl) rfl #[.agg #[.slice Ap t0.length cp, .slice Aq t1.length cq], .agg #[.int .i64 y, .int .i64 o]] (by rfl) rfl rfl (by (try simp only [List.map_toArray, List.map_cons, List.map_nil]); first | done | rfl | (simp only [List.length_drop, List.length_take]; rfl)) ?_
          refine (lots_Taken.calls k Ap cp t0 Aq cq t1 y o x1 x2 e0 _ HP0.out.2 HP0.out.1 HP1.out.2 HP1.out.1 HTA.out).mono ?_
          rintro e wr6 ⟨rfl, hb⟩
          refine ⟨_, rfl, ?_⟩
          replace HP0 := Aside0.mk (And.intro HP0.out.1 (Kd.C_below HP0.out.2 hb))
          replace HP1 := Aside0.mk (And.intro HP1.out.1 (Kd.C_below HP1.out.2 hb))
          replace HX := Aside0.mk (HX.out.below hb)
          refine hK.out _ _ (CA.below hHeld hb) (fun hHeld => ?_)
          clear hK K hb
          refine norm_ (a' := ?_) ?_ ?_
          rotate_left
          · show Act.put _ (some 25) _ = _
            simp only [Act.put, List.setIfInBounds_toArray, List.set_cons_zero, List.set_cons_succ, i64_w, i32_w]
            rfl
          refine pure_ (i := 5) (N := some 20) (v := ?_) (a' := ?_) #[true, true, true, true, true, true, false, false, true, false, false] rfl rfl (any_of HT_.out (by kernel_rfl)) (fun _ _ _ h => h) (Or.inl ⟨by rfl, ?_⟩) ?_ ?_
          rotate_left
          · intro w'
            go_simp
            with_reducible rfl
          rotate_left
          · simp only [Act.put, List.setIfInBounds_toArray, List.set_cons_zero, List.set_cons_succ, i64_w, i32_w]
            rfl
          refine pure_ (i := 6) (N := some 26) (v := ?_) (a' := ?_) #[true, true, true, true, true, true, true, false, true, false, false] rfl rfl (any_of HT_.out (by kernel_rfl)) (fun _ _ _ h => h) (Or.inl ⟨by rfl, ?_⟩) ?_ ?_
          rotate_left
          · intro w'
            go_simp
            with_reducible rfl
          rotate_left
          · simp only [Act.put, List.setIfInBounds_toArray, List.set_cons_zero, List.set_cons_succ, i64_w, i32_w]
            rfl
          refine pure_ (i := 7) (N := some 27) (v := ?_) (a' := ?_) #[true, true, true, true, true, true, true, true, true, false, false] rfl rfl (any_of HT_.out (by kernel_rfl)) (fun _ _ _ h => h) (Or.inl ⟨by rfl, ?_⟩) ?_ ?_
          rotate_left
          · intro w'
            go_simp
            with_reducible rfl
          rotate_left
          · simp only [Act.put, List.setIfInBounds_toArray, List.set_cons_zero, List.set_cons_succ, i64_w, i32_w]
            rfl
          exact norm_ (by simp only [putAll, Act.put, List.setIfInBounds_toArray, List.set_cons_zero, List.set_cons_succ]) (hCont (.agg #[.slice Ap t0.length cp, .slice Aq t1.length cq], gx) _ ⟨hHeld, HX.out⟩)
      · skip
        refine box_step ?hg (N := 5) ?hd (cs := #[.int .i64 0, .int .i64 0]) (t := 28) ?hr ?_; (case hd => rfl); (case hg => rfl); (case hr => first | (go_simp; done) | (go_simp; rfl))
        intro gx hg wr7 hbox hb
        replace HP0 := Aside0.mk (And.intro HP0.out.1 (Kd.C_below HP0.out.2 hb))
        replace HP1 := Aside0.mk (And.intro HP1.out.1 (Kd.C_below HP1.out.2 hb))
        have HX : Aside0 (Box w1 gx #[.int .i64 0, .int .i64 0] 28 _) := ⟨⟨by rw [hg]; exact hHeld.2.2.2.2.2.size, hbox⟩⟩
        clear hg hbox
        refine hK.out _ _ (CA.below hHeld hb) (fun hHeld => ?_)
        clear hK K hb
        refine norm_ (a' := ?_) ?_ ?_
        rotate_left
        · show Act.put _ (some 5) _ = _
          simp only [Act.put, List.setIfInBounds_toArray, List.set_cons_zero, List.set_cons_succ, i64_w, i32_w]
          rfl
        refine one_ (i := 3) (N := some 24) #[true, true, true, true, false, false, false, false, true, false, false] rfl rfl (one_of HT_.out (by kernel_rfl)) (by decide) (fun K hK => ?_)
        refine goes_ Try.func21 (by kernel_rfl) rfl #[.agg #[.int .i64 y, .int .i64 o]] (by rfl) rfl rfl (by (try simp only [List.map_toArray, List.map_cons, List.map_nil]); first | done | rfl | (simp only [List.length_drop, List.length_take]; rfl)) ?_
        refine (comfitlaw02_chance.calls y o y o _ HCN.out).mono ?_
        rintro e wr8 ⟨rfl, hb⟩
        refine ⟨_, rfl, ?_⟩
        replace HP0 := Aside0.mk (And.intro HP0.out.1 (Kd.C_below HP0.out.2 hb))
        replace HP1 := Aside0.mk (And.intro HP1.out.1 (Kd.C_below HP1.out.2 hb))
        replace HX := Aside0.mk (HX.out.below hb)
        refine hK.out _ _ (CA.below hHeld hb) (fun hHeld => ?_)
        clear hK K hb
        refine norm_ (a' := ?_) ?_ ?_
        rotate_left
        · show Act.put _ (some 24) _ = _
          simp only [Act.put, List.setIfInBounds_toArray, List.set_cons_zero, List.set_cons_succ, i64_w, i32_w]
          rfl
        refine one_ (i := 4) (N := some 25) #[true, true, true, true, true, false, false, false, true, false, false] rfl rfl (one_of HT_.out (by kernel_rfl)) (by decide) (fun K hK => ?_)
        refine goes_ Try.func19 (by kernel_rfl) rfl #[.agg #[.slice Ap t0.length cp, .slice Aq t1.length cq], .agg #[.int .i64 y, .int .i64 o]] (by rfl) rfl rfl (by (try simp only [List.map_toArray, List.map_cons, List.map_nil]); first | done | rfl | (simp only [List.length_drop, List.length_take]; rfl)) ?_
        refine (lots_Taken.calls k Ap cp t0 Aq cq t1 y o x1 x2 e0 _ HP0.out.2 HP0.out.1 HP1.out.2 HP1.out.1 HTA.out).mono ?_
        rintro e wr9 ⟨rfl, hb⟩
        refine ⟨_, rfl, ?_⟩
        replace HP0 := Aside0.mk (And.intro HP0.out.1 (Kd.C_below HP0.out.2 hb))
        replace HP1 := Aside0.mk (And.intro HP1.out.1 (Kd.C_below HP1.out.2 hb))
        replace HX := Aside0.mk (HX.out.below hb)
        refine hK.out _ _ (CA.below hHeld hb) (fun hHeld => ?_)
        clear hK K hb
        refine norm_ (a' := ?_) ?_ ?_
        rotate_left
        · show Act.put _ (some 25) _ = _
          simp only [Act.put, List.setIfInBounds_toArray, List.set_cons_zero, List.set_cons_succ, i64_w, i32_w]
          rfl
        refine pure_ (i := 5) (N := some 20) (v := ?_) (a' := ?_) #[true, true, true, true, true, true, false, false, true, false, false] rfl rfl (any_of HT_.out (by kernel_rfl)) (fun _ _ _ h => h) (Or.inl ⟨by rfl, ?_⟩) ?_ ?_
        rotate_left
        · intro w'
          go_simp
          with_reducible rfl
        rotate_left
        · simp only [Act.put, List.setIfInBounds_toArray, List.set_cons_zero, List.set_cons_succ, i64_w, i32_w]
          rfl
        refine pure_ (i := 6) (N := some 26) (v := ?_) (a' := ?_) #[true, true, true, true, true, true, true, false, true, false, false] rfl rfl (any_of HT_.out (by kernel_rfl)) (fun _ _ _ h => h) (Or.inl ⟨by rfl, ?_⟩) ?_ ?_
        rotate_left
        · intro w'
          go_simp
          with_reducible rfl
        rotate_left
        · simp only [Act.put, List.setIfInBounds_toArray, List.set_cons_zero, List.set_cons_succ, i64_w, i32_w]
          rfl
        refine pure_ (i := 7) (N := some 27) (v := ?_) (a' := ?_) #[true, true, true, true, true, true, true, true, true, false, false] rfl rfl (any_of HT_.out (by kernel_rfl)) (fun _ _ _ h => h) (Or.inl ⟨by rfl, ?_⟩) ?_ ?_
        rotate_left
        · intro w'
          go_simp
          with_reducible rfl
        rotate_left
        · simp only [Act.put, List.setIfInBounds_toArray, List.set_cons_zero, List.set_cons_succ, i64_w, i32_w]
          rfl
        exact norm_ (by simp only [putAll, Act.put, List.setIfInBounds_toArray, List.set_cons_zero, List.set_cons_succ]) (hCont (.agg #[.slice Ap t0.length cp, .slice Aq t1.length cq], gx) _ ⟨hHeld, HX.out⟩)
    · skip
      refine box_step ?hg (N := 5) ?hd (cs := #[.int .i64 0, .int .i64 0]) (t := 28) ?hr ?_; (case hd => rfl); (case hg => rfl); (case hr => first | (go_simp; done) | (go_simp; rfl))
      intro gx hg wr10 hbox hb
      have HX : Aside0 (Box w1 gx #[.int .i64 0, .int .i64 0] 28 _) := ⟨⟨by rw [hg]; exact hHeld.2.2.2.2.2.size, hbox⟩⟩
      clear hg hbox
      refine hK.out _ _ (CA.below hHeld hb) (fun hHeld => ?_)
      clear hK K hb
      refine norm_ (a' := ?_) ?_ ?_
      rotate_left
      · show Act.put _ (some 5) _ = _
        simp only [Act.put, List.setIfInBounds_toArray, List.set_cons_zero, List.set_cons_succ, i64_w, i32_w]
        rfl
      refine one_ (i := 1) (N := some 22) #[true, true, true, false, false, false, false, false, true, false, false] rfl rfl (one_of HT_.out (by kernel_rfl)) (by decide) (fun K hK => ?_)
      refine goes_ Try.func20 (by kernel_rfl) rfl #[.agg #[.slice A0 l0.length c0, .slice A1 l1.length c1]] (by rfl) rfl rfl (by (try simp only [List.map_toArray, List.map_cons, List.map_nil]); first | done | rfl | (simp only [List.length_drop, List.length_take]; rfl)) ?_
      refine (comfitlaw02_Of.calls A0 c0 l0 A1 c1 l1 t0 t1 _ (Kd.C_below HR0.out hHeld.2.2.2.2.1) HC0.out (Kd.C_below HR1.out hHeld.2.2.2.2.1) HC1.out HOF.out).mono ?_
      rintro e wr11 ⟨v1, v2, rfl, ho0, ho1, hb⟩
      refine ⟨_, rfl, ?_⟩
      replace HX := Aside0.mk (HX.out.below hb)
      obtain ⟨Ap, cp, rfl⟩ := Kd.R_slice ho0
      obtain ⟨Aq, cq, rfl⟩ := Kd.R_slice ho1
      have HP0 := Aside0.mk (Kd.R_reads' ho0).2
      have HP1 := Aside0.mk (Kd.R_reads' ho1).2
      clear ho0 ho1
      refine hK.out _ _ (CA.below hHeld hb) (fun hHeld => ?_)
      clear hK K hb
      refine norm_ (a' := ?_) ?_ ?_
      rotate_left
      · show Act.put _ (some 22) _ = _
        simp only [Act.put, List.setIfInBounds_toArray, List.set_cons_zero, List.set_cons_succ, i64_w, i32_w]
        rfl
      refine one_ (i := 3) (N := some 24) #[true, true, true, true, false, false, false, false, true, false, false] rfl rfl (one_of HT_.out (by kernel_rfl)) (by decide) (fun K hK => ?_)
      refine goes_ Try.func21 (by kernel_rfl) rfl #[.agg #[.int .i64 y, .int .i64 o]] (by rfl) rfl rfl (by (try simp only [List.map_toArray, List.map_cons, List.map_nil]); first | done | rfl | (simp only [List.length_drop, List.length_take]; rfl)) ?_
      refine (comfitlaw02_chance.calls y o y o _ HCN.out).mono ?_
      rintro e wr12 ⟨rfl, hb⟩
      refine ⟨_, rfl, ?_⟩
      replace HP0 := Aside0.mk (And.intro HP0.out.1 (Kd.C_below HP0.out.2 hb))
      replace HP1 := Aside0.mk (And.intro HP1.out.1 (Kd.C_below HP1.out.2 hb))
      replace HX := Aside0.mk (HX.out.below hb)
      refine hK.out _ _ (CA.below hHeld hb) (fun hHeld => ?_)
      clear hK K hb
      refine norm_ (a' := ?_) ?_ ?_
      rotate_left
      · show Act.put _ (some 24) _ = _
        simp only [Act.put, List.setIfInBounds_toArray, List.set_cons_zero, List.set_cons_succ, i64_w, i32_w]
        rfl
      refine one_ (i := 4) (N := some 25) #[true, true, true, true, true, false, false, false, true, false, false] rfl rfl (one_of HT_.out (by kernel_rfl)) (by decide) (fun K hK => ?_)
      refine goes_ Try.func19 (by kernel_rfl) rfl #[.agg #[.slice Ap t0.length cp, .slice Aq t1.length cq], .agg #[.int .i64 y, .int .i64 o]] (by rfl) rfl rfl (by (try simp only [List.map_toArray, List.map_cons, List.map_nil]); first | done | rfl | (simp only [List.length_drop, List.length_take]; rfl)) ?_
      refine (lots_Taken.calls k Ap cp t0 Aq cq t1 y o x1 x2 e0 _ HP0.out.2 HP0.out.1 HP1.out.2 HP1.out.1 HTA.out).mono ?_
      rintro e wr13 ⟨rfl, hb⟩
      refine ⟨_, rfl, ?_⟩
      replace HP0 := Aside0.mk (And.intro HP0.out.1 (Kd.C_below HP0.out.2 hb))
      replace HP1 := Aside0.mk (And.intro HP1.out.1 (Kd.C_below HP1.out.2 hb))
      replace HX := Aside0.mk (HX.out.below hb)
      refine hK.out _ _ (CA.below hHeld hb) (fun hHeld => ?_)
      clear hK K hb
      refine norm_ (a' := ?_) ?_ ?_
      rotate_left
      · show Act.put _ (some 25) _ = _
        simp only [Act.put, List.setIfInBounds_toArray, List.set_cons_zero, List.set_cons_succ, i64_w, i32_w]
        rfl
      refine pure_ (i := 5) (N := some 20) (v := ?_) (a' := ?_) #[true, true, true, true, true, true, false, false, true, false, false] rfl rfl (any_of HT_.out (by kernel_rfl)) (fun _ _ _ h => h) (Or.inl ⟨by rfl, ?_⟩) ?_ ?_
      rotate_left
      · intro w'
        go_simp
        with_reducible rfl
      rotate_left
      · simp only [Act.put, List.setIfInBounds_toArray, List.set_cons_zero, List.set_cons_succ, i64_w, i32_w]
        rfl
      refine pure_ (i := 6) (N := some 26) (v := ?_) (a' := ?_) #[true, true, true, true, true, true, true, false, true, false, false] rfl rfl (any_of HT_.out (by kernel_rfl)) (fun _ _ _ h => h) (Or.inl ⟨by rfl, ?_⟩) ?_ ?_
      rotate_left
      · intro w'
        go_simp
        with_reducible rfl
      rotate_left
      · simp only [Act.put, List.setIfInBounds_toArray, List.set_cons_zero, List.set_cons_succ, i64_w, i32_w]
        rfl
      refine pure_ (i := 7) (N := some 27) (v := ?_) (a' := ?_) #[true, true, true, true, true, true, true, true, true, false, false] rfl rfl (any_of HT_.out (by kernel_rfl)) (fun _ _ _ h => h) (Or.inl ⟨by rfl, ?_⟩) ?_ ?_
      rotate_left
      · intro w'
        go_simp
        with_reducible rfl
      rotate_left
      · simp only [Act.put, List.setIfInBounds_toArray, List.set_cons_zero, List.set_cons_succ, i64_w, i32_w]
        rfl
      exact norm_ (by simp only [putAll, Act.put, List.setIfInBounds_toArray, List.set_cons_zero, List.set_cons_succ]) (hCont (.agg #[.slice Ap t0.length cp, .slice Aq t1.length cq], gx) _ ⟨hHeld, HX.out⟩)
  rintro ⟨va, gx_BX⟩ wt ⟨hHeld, hbx⟩
  have HX := Aside0.mk hbx
  clear hbx
  refine norm_ (a' := ?_) ?_ ?_
  rotate_left
  · simp only [putAll, Act.put, List.setIfInBounds_toArray, List.set_cons_zero, List.set_cons_succ]
    rfl
  refine one_ (i := 9) (N := none) #[true, true, true, true, true, true, true, true, true, true, false] rfl rfl (one_of HT_.out (by kernel_rfl)) (by decide) (fun K hK => ?_)
  have hs0_ := HX.out.cell 0 rfl
  have hs1_ := HX.out.cell 1 rfl
  have fs0_ := HX.out.frozen 0
  have fs1_ := HX.out.frozen 1
  refine skip_ (w1 := ?_) (by rfl) rfl ?_ ?_
  rotate_left
  · go_simp
    rfl
  have HL := Aside0.mk (below_set' (below_set' hHeld.2.2.2.2.2 (p := ⟨gx_BX, 0, none⟩) HX.out.1 (.int .i64 x1)) (p := ⟨gx_BX, 1, none⟩) HX.out.1 (.int .i64 x2))
  refine hK.out _ _ (ca_of B2.out B3.out HB.out HL.out) (fun hHeld => ?_)
  clear hK K hHeld
  have BX : Aside0 (Box w1 gx_BX #[.int .i64 x1, .int .i64 x2] 28 _) := ⟨(HX.out.put 0 (.int .i64 x1)).put 1 (.int .i64 x2)⟩
  clear hs0_ hs1_ fs0_ fs1_ HX
  refine pure_ (i := 10) (N := some 6) (v := ?_) (a' := ?_) #[true, true, true, true, true, true, true, true, true, true, true] rfl rfl (any_of HT_.out (by kernel_rfl)) (fun _ _ _ h => h) (Or.inl ⟨by rfl, ?_⟩) ?_ ?_
  rotate_left
  · intro w'
    go_simp
    with_reducible rfl
  rotate_left
  · simp only [Act.put, List.setIfInBounds_toArray, List.set_cons_zero, List.set_cons_succ, i64_w, i32_w]
    rfl
  refine done_ (done_of HT_.out (by kernel_rfl)) ?_
  clear HT_ HW_
  generalize ((wt.setCell _ _).setCell _ _) = w3 at BX HL ⊢
  replace B2 := Aside0.mk (B2.out.below HL.out)
  replace B3 := Aside0.mk (B3.out.below HL.out)
  replace HB := Aside0.mk (below_step HB.out HL.out)
  clear HL HTA
  go_wp2_with fail
  refine start_ (n := 11) (S := CA w.heap.size (.slice A0 l0.length c0) (.slice A1 l1.length c1) (w.heap.size + 1) (.int .i64 y) (.int .i64 o) w w3) (ds := []) #[false, false, false, false, false, false, false, false, false, false, false] (by kernel_rfl) rfl rfl (ca_of B2.out B3.out HB.out (below_drew (Below.refl _ _))) (fun hHeld => ?_)
  refine with_tabW allT.tab2 allT.bits2 (fun HT_ HW_ => ?_)
  generalize (World.drew _) = w4 at hHeld ⊢
  refine take_ (i := 0) (N := some 29) (v := ?_) (a' := ?_) #[true, false, false, false, false, false, false, false, false, false, false] rfl rfl (take_ofW HT_.out HW_.out (by kernel_rfl)) (fun _ _ _ h => h) (Or.inl ⟨by rfl, ?_⟩) hHeld ?_ ?_
  rotate_left
  · rintro w' ⟨s0, s1, s2, s3, s4, s5⟩
    go_simp
    with_reducible rfl
  rotate_left
  · simp only [Act.put, List.setIfInBounds_toArray, List.set_cons_zero, List.set_cons_succ, i64_w, i32_w]
    rfl
  refine take_ (i := 2) (N := some 31) (v := ?_) (a' := ?_) #[true, false, true, false, false, false, false, false, false, false, false] rfl rfl (take_ofW HT_.out HW_.out (by kernel_rfl)) (fun _ _ _ h => h) (Or.inl ⟨by rfl, ?_⟩) hHeld ?_ ?_
  rotate_left
  · rintro w' ⟨s0, s1, s2, s3, s4, s5⟩
    go_simp
    with_reducible rfl
  rotate_left
  · simp only [Act.put, List.setIfInBounds_toArray, List.set_cons_zero, List.set_cons_succ, i64_w, i32_w]
    rfl
  refine join_ (σ := Value × Nat) 2 #[true, true, true, true, true, true, true, true, true, false, false] (fun s_ => [(30, s_.1), (32, .agg #[.int .i64 y, .int .i64 o]), (33, .tuple #[.agg #[.int .i64 y1, .int .i64 y2], .int .i64 e0]), (7, .pointer (some ⟨s_.2, 0, none⟩)), (28, .tuple #[.agg #[.int .i64 y1, .int .i64 y2], .int .i64 e0]), (34, .agg #[.int .i64 y1, .int .i64 y2]), (35, .int .i64 e0)]) (fun s_ w' => CA w.heap.size (.slice A0 l0.length c0) (.slice A1 l1.length c1) (w.heap.size + 1) (.int .i64 y) (.int .i64 o) w w3 w' ∧ Box w3 s_.2 #[.int .i64 0, .int .i64 0] 28 w') ?_ ?_
  rotate_left
  · intro hCont
    refine two_ (i := 1) (j := 8) (Ni := some 30) (Nj := some 7) #[true, true, true, false, false, false, false, false, false, false, false] #[true, false, true, false, false, false, false, false, true, false, false] rfl rfl rfl rfl (two_of HT_.out (by kernel_rfl)) (by decide) (by decide) (fun K hK => ?_) (fun K hK => ?_)
    · skip
      refine goes_ Try.func20 (by kernel_rfl) rfl #[.agg #[.slice A0 l0.length c0, .slice A1 l1.length c1]] (by rfl) rfl rfl (by (try simp only [List.map_toArray, List.map_cons, List.map_nil]); first | done | rfl | (simp only [List.length_drop, List.length_take]; rfl)) ?_
      refine (comfitlaw02_Of.calls A0 c0 l0 A1 c1 l1 t0 t1 _ (Kd.C_below HR0.out hHeld.2.2.2.2.1) HC0.out (Kd.C_below HR1.out hHeld.2.2.2.2.1) HC1.out HOF.out).mono ?_
      rintro e wr1 ⟨v1, v2, rfl, ho0, ho1, hb⟩
      refine ⟨_, rfl, ?_⟩
      obtain ⟨Ap, cp, rfl⟩ := Kd.R_slice ho0
      obtain ⟨Aq, cq, rfl⟩ := Kd.R_slice ho1
      have HP0 := Aside0.mk (Kd.R_reads' ho0).2
      have HP1 := Aside0.mk (Kd.R_reads' ho1).2
      clear ho0 ho1
      refine hK.out _ _ (CA.below hHeld hb) (fun hHeld => ?_)
      clear hK K hb
      refine norm_ (a' := ?_) ?_ ?_
      rotate_left
      · show Act.put _ (some 30) _ = _
        simp only [Act.put, List.setIfInBounds_toArray, List.set_cons_zero, List.set_cons_succ, i64_w, i32_w]
        rfl
      refine two_ (i := 3) (j := 8) (Ni := some 32) (Nj := some 7) #[true, true, true, true, false, false, false, false, false, false, false] #[true, true, true, false, false, false, false, false, true, false, false] rfl rfl rfl rfl (two_of HT_.out (by kernel_rfl)) (by decide) (by decide) (fun K hK => ?_) (fun K hK => ?_)
      · skip
        refine goes_ Try.func21 (by kernel_rfl) rfl #[.agg #[.int .i64 y, .int .i64 o]] (by rfl) rfl rfl (by (try simp only [List.map_toArray, List.map_cons, List.map_nil]); first | done | rfl | (simp only [List.length_drop, List.length_take]; rfl)) ?_
        refine (comfitlaw02_chance.calls y o y o _ HCN.out).mono ?_
        rintro e wr2 ⟨rfl, hb⟩
        refine ⟨_, rfl, ?_⟩
        replace HP0 := Aside0.mk (And.intro HP0.out.1 (Kd.C_below HP0.out.2 hb))
        replace HP1 := Aside0.mk (And.intro HP1.out.1 (Kd.C_below HP1.out.2 hb))
        refine hK.out _ _ (CA.below hHeld hb) (fun hHeld => ?_)
        clear hK K hb
        refine norm_ (a' := ?_) ?_ ?_
        rotate_left
        · show Act.put _ (some 32) _ = _
          simp only [Act.put, List.setIfInBounds_toArray, List.set_cons_zero, List.set_cons_succ, i64_w, i32_w]
          rfl
        refine two_ (i := 4) (j := 8) (Ni := some 33) (Nj := some 7) #[true, true, true, true, true, false, false, false, false, false, false] #[true, true, true, true, false, false, false, false, true, false, false] rfl rfl rfl rfl (two_of HT_.out (by kernel_rfl)) (by decide) (by decide) (fun K hK => ?_) (fun K hK => ?_)
        · skip
          refine goes_ Try.func22 (by kernel_rfl) rfl #[.agg #[.slice Ap t0.length cp, .slice Aq t1.length cq], .agg #[.int .i64 y, .int .i64 o]] (by rfl) rfl rfl (by (try simp only [List.map_toArray, List.map_cons, List.map_nil]); first | done | rfl | (simp only [List.length_drop, List.length_take]; rfl)) ?_
          refine (lots_Looks.calls k Ap cp t0 Aq cq t1 y o y1 y2 e0 _ HP0.out.2 HP0.out.1 HP1.out.2 HP1.out.1 HLO.out).mono ?_
          rintro e wr3 ⟨rfl, hb⟩
          refine ⟨_, rfl, ?_⟩
          replace HP0 := Aside0.mk (And.intro HP0.out.1 (Kd.C_below HP0.out.2 hb))
          replace HP1 := Aside0.mk (And.intro HP1.out.1 (Kd.C_below HP1.out.2 hb))
          refine hK.out _ _ (CA.below hHeld hb) (fun hHeld => ?_)
          clear hK K hb
          refine norm_ (a' := ?_) ?_ ?_
          rotate_left
          · show Act.put _ (some 33) _ = _
            simp only [Act.put, List.setIfInBounds_toArray, List.set_cons_zero, List.set_cons_succ, i64_w, i32_w]
            rfl
          refine pure_ (i := 5) (N := some 28) (v := ?_) (a' := ?_) #[true, true, true, true, true, true, false, false, false, false, false] rfl rfl (any_of HT_.out (by kernel_rfl)) (fun _ _ _ h => h) (Or.inl ⟨by rfl, ?_⟩) ?_ ?_
          rotate_left
          · intro w'
            go_simp
            with_reducible rfl
          rotate_left
          · simp only [Act.put, List.setIfInBounds_toArray, List.set_cons_zero, List.set_cons_succ, i64_w, i32_w]
            rfl
          refine pure_ (i := 6) (N := some 34) (v := ?_) (a' := ?_) #[true, true, true, true, true, true, true, false, false, false, false] rfl rfl (any_of HT_.out (by kernel_rfl)) (fun _ _ _ h => h) (Or.inl ⟨by rfl, ?_⟩) ?_ ?_
          rotate_left
          · intro w'
            go_simp
            with_reducible rfl
          rotate_left
          · simp only [Act.put, List.setIfInBounds_toArray, List.set_cons_zero, List.set_cons_succ, i64_w, i32_w]
            rfl
          refine pure_ (i := 7) (N := some 35) (v := ?_) (a' := ?_) #[true, true, true, true, true, true, true, true, false, false, false] rfl rfl (any_of HT_.out (by kernel_rfl)) (fun _ _ _ h => h) (Or.inl ⟨by rfl, ?_⟩) ?_ ?_
          rotate_left
          · intro w'
            go_simp
            with_reducible rfl
          rotate_left
          · simp only [Act.put, List.setIfInBounds_toArray, List.set_cons_zero, List.set_cons_succ, i64_w, i32_w]
            rfl
          refine one_ (i := 8) (N := some 7) #[true, true, true, true, true, true, true, true, true, false, false] rfl rfl (one_of HT_.out (by kernel_rfl)) (by decide) (fun K hK => ?_)
          refine box_step ?hg (N := 7) ?hd (cs := #[.int .i64 0, .int .i64 0]) (t := 28) ?hr ?_; (case hd => rfl); (case hg => rfl); (case hr => first | (go_simp; done) | (go_simp; rfl))
          intro gx hg wr4 hbox hb
          replace HP0 := Aside0.mk (And.intro HP0.out.1 (Kd.C_below HP0.out.2 hb))
          replace HP1 := Aside0.mk (And.intro HP1.out.1 (Kd.C_below HP1.out.2 hb))
          have HX : Aside0 (Box w3 gx #[.int .i64 0, .int .i64 0] 28 _) := ⟨⟨by rw [hg]; exact hHeld.2.2.2.2.2.size, hbox⟩⟩
          clear hg hbox
          refine hK.out _ _ (CA.below hHeld hb) (fun hHeld => ?_)
          clear hK K hb
          refine norm_ (a' := ?_) ?_ ?_
          rotate_left
          · show Act.put _ (some 7) _ = _
            simp only [Act.put, List.setIfInBounds_toArray, List.set_cons_zero, List.set_cons_succ, i64_w, i32_w]
            rfl
          exact norm_ (by simp only [putAll, Act.put, List.setIfInBounds_toArray, List.set_cons_zero, List.set_cons_succ]) (hCont (.agg #[.slice Ap t0.length cp, .slice Aq t1.length cq], gx) _ ⟨hHeld, HX.out⟩)
        · skip
          refine box_step ?hg (N := 7) ?hd (cs := #[.int .i64 0, .int .i64 0]) (t := 28) ?hr ?_; (case hd => rfl); (case hg => rfl); (case hr => first | (go_simp; done) | (go_simp; rfl))
          intro gx hg wr5 hbox hb
          replace HP0 := Aside0.mk (And.intro HP0.out.1 (Kd.C_below HP0.out.2 hb))
          replace HP1 := Aside0.mk (And.intro HP1.out.1 (Kd.C_below HP1.out.2 hb))
          have HX : Aside0 (Box w3 gx #[.int .i64 0, .int .i64 0] 28 _) := ⟨⟨by rw [hg]; exact hHeld.2.2.2.2.2.size, hbox⟩⟩
          clear hg hbox
          refine hK.out _ _ (CA.below hHeld hb) (fun hHeld => ?_)
          clear hK K hb
          refine norm_ (a' := ?_) ?_ ?_
          rotate_left
          · show Act.put _ (some 7) _ = _
            simp only [Act.put, List.setIfInBounds_toArray, List.set_cons_zero, List.set_cons_succ, i64_w, i32_w]
            rfl
          refine one_ (i := 4) (N := some 33) #[true, true, true, true, true, false, false, false, true, false, false] rfl rfl (one_of HT_.out (by kernel_rfl)) (by decide) (fun K hK => ?_)
          refine goes_ Try.func22 (by kernel_rfl) rfl #[.agg #[.slice Ap t0.length cp, .slice Aq t1.length cq], .agg #[.int .i64 y, .int .i64 o]] (by rfl) rfl rfl (by (try simp only [List.map_toArray, List.map_cons, List.map_nil]); first | done | rfl | (simp only [List.length_drop, List.length_take]; rfl)) ?_
          refine (lots_Looks.calls k Ap cp t0 Aq cq t1 y o y1 y2 e0 _ HP0.out.2 HP0.out.1 HP1.out.2 HP1.out.1 HLO.out).mono ?_
          rintro e wr6 ⟨rfl, hb⟩
          refine ⟨_, rfl, ?_⟩
          replace HP0 := Aside0.mk (And.intro HP0.out.1 (Kd.C_below HP0.out.2 hb))
          replace HP1 := Aside0.mk (And.intro HP1.out.1 (Kd.C_below HP1.out.2 hb))
          replace HX := Aside0.mk (HX.out.below hb)
          refine hK.out _ _ (CA.below hHeld hb) (fun hHeld => ?_)
          clear hK K hb
          refine norm_ (a' := ?_) ?_ ?_
          rotate_left
          · show Act.put _ (some 33) _ = _
            simp only [Act.put, List.setIfInBounds_toArray, List.set_cons_zero, List.set_cons_succ, i64_w, i32_w]
            rfl
          refine pure_ (i := 5) (N := some 28) (v := ?_) (a' := ?_) #[true, true, true, true, true, true, false, false, true, false, false] rfl rfl (any_of HT_.out (by kernel_rfl)) (fun _ _ _ h => h) (Or.inl ⟨by rfl, ?_⟩) ?_ ?_
          rotate_left
          · intro w'
            go_simp
            with_reducible rfl
          rotate_left
          · simp only [Act.put, List.setIfInBounds_toArray, List.set_cons_zero, List.set_cons_succ, i64_w, i32_w]
            rfl
          refine pure_ (i := 6) (N := some 34) (v := ?_) (a' := ?_) #[true, true, true, true, true, true, true, false, true, false, false] rfl rfl (any_of HT_.out (by kernel_rfl)) (fun _ _ _ h => h) (Or.inl ⟨by rfl, ?_⟩) ?_ ?_
          rotate_left
          · intro w'
            go_simp
            with_reducible rfl
          rotate_left
          · simp only [Act.put, List.setIfInBounds_toArray, List.set_cons_zero, List.set_cons_succ, i64_w, i32_w]
            rfl
          refine pure_ (i := 7) (N := some 35) (v := ?_) (a' := ?_) #[true, true, true, true, true, true, true, true, true, false, false] rfl rfl (any_of HT_.out (by kernel_rfl)) (fun _ _ _ h => h) (Or.inl ⟨by rfl, ?_⟩) ?_ ?_
          rotate_left
          · intro w'
            go_simp
            with_reducible rfl
          rotate_left
          · simp only [Act.put, List.setIfInBounds_toArray, List.set_cons_zero, List.set_cons_succ, i64_w, i32_w]
            rfl
          exact norm_ (by simp only [putAll, Act.put, List.setIfInBounds_toArray, List.set_cons_zero, List.set_cons_succ]) (hCont (.agg #[.slice Ap t0.length cp, .slice Aq t1.length cq], gx) _ ⟨hHeld, HX.out⟩)
      · skip
        refine box_step ?hg (N := 7) ?hd (cs := #[.int .i64 0, .int .i64 0]) (t := 28) ?hr ?_; (case hd => rfl); (case hg => rfl); (case hr => first | (go_simp; done) | (go_simp; rfl))
        intro gx hg wr7 hbox hb
        replace HP0 := Aside0.mk (And.intro HP0.out.1 (Kd.C_below HP0.out.2 hb))
        replace HP1 := Aside0.mk (And.intro HP1.out.1 (Kd.C_below HP1.out.2 hb))
        have HX : Aside0 (Box w3 gx #[.int .i64 0, .int .i64 0] 28 _) := ⟨⟨by rw [hg]; exact hHeld.2.2.2.2.2.size, hbox⟩⟩
        clear hg hbox
        refine hK.out _ _ (CA.below hHeld hb) (fun hHeld => ?_)
        clear hK K hb
        refine norm_ (a' := ?_) ?_ ?_
        rotate_left
        · show Act.put _ (some 7) _ = _
          simp only [Act.put, List.setIfInBounds_toArray, List.set_cons_zero, List.set_cons_succ, i64_w, i32_w]
          rfl
        refine one_ (i := 3) (N := some 32) #[true, true, true, true, false, false, false, false, true, false, false] rfl rfl (one_of HT_.out (by kernel_rfl)) (by decide) (fun K hK => ?_)
        refine goes_ Try.func21 (by kernel_rfl) rfl #[.agg #[.int .i64 y, .int .i64 o]] (by rfl) rfl rfl (by (try simp only [List.map_toArray, List.map_cons, List.map_nil]); first | done | rfl | (simp only [List.length_drop, List.length_take]; rfl)) ?_
        refine (comfitlaw02_chance.calls y o y o _ HCN.out).mono ?_
        rintro e wr8 ⟨rfl, hb⟩
        refine ⟨_, rfl, ?_⟩
        replace HP0 := Aside0.mk (And.intro HP0.out.1 (Kd.C_below HP0.out.2 hb))
        replace HP1 := Aside0.mk (And.intro HP1.out.1 (Kd.C_below HP1.out.2 hb))
        replace HX := Aside0.mk (HX.out.below hb)
        refine hK.out _ _ (CA.below hHeld hb) (fun hHeld => ?_)
        clear hK K hb
        refine norm_ (a' := ?_) ?_ ?_
        rotate_left
        · show Act.put _ (some 32) _ = _
          simp only [Act.put, List.setIfInBounds_toArray, List.set_cons_zero, List.set_cons_succ, i64_w, i32_w]
          rfl
        refine one_ (i := 4) (N := some 33) #[true, true, true, true, true, false, false, false, true, false, false] rfl rfl (one_of HT_.out (by kernel_rfl)) (by decide) (fun K hK => ?_)
        refine goes_ Try.func22 (by kernel_rfl) rfl #[.agg #[.slice Ap t0.length cp, .slice Aq t1.length cq], .agg #[.int .i64 y, .int .i64 o]] (by rfl) rfl rfl (by (try simp only [List.map_toArray, List.map_cons, List.map_nil]); first | done | rfl | (simp only [List.length_drop, List.length_take]; rfl)) ?_
        refine (lots_Looks.calls k Ap cp t0 Aq cq t1 y o y1 y2 e0 _ HP0.out.2 HP0.out.1 HP1.out.2 HP1.out.1 HLO.out).mono ?_
        rintro e wr9 ⟨rfl, hb⟩
        refine ⟨_, rfl, ?_⟩
        replace HP0 := Aside0.mk (And.intro HP0.out.1 (Kd.C_below HP0.out.2 hb))
        replace HP1 := Aside0.mk (And.intro HP1.out.1 (Kd.C_below HP1.out.2 hb))
        replace HX := Aside0.mk (HX.out.below hb)
        refine hK.out _ _ (CA.below hHeld hb) (fun hHeld => ?_)
        clear hK K hb
        refine norm_ (a' := ?_) ?_ ?_
        rotate_left
        · show Act.put _ (some 33) _ = _
          simp only [Act.put, List.setIfInBounds_toArray, List.set_cons_zero, List.set_cons_succ, i64_w, i32_w]
          rfl
        refine pure_ (i := 5) (N := some 28) (v := ?_) (a' := ?_) #[true, true, true, true, true, true, false, false, true, false, false] rfl rfl (any_of HT_.out (by kernel_rfl)) (fun _ _ _ h => h) (Or.inl ⟨by rfl, ?_⟩) ?_ ?_
        rotate_left
        · intro w'
          go_simp
          with_reducible rfl
        rotate_left
        · simp only [Act.put, List.setIfInBounds_toArray, List.set_cons_zero, List.set_cons_succ, i64_w, i32_w]
          rfl
        refine pure_ (i := 6) (N := some 34) (v := ?_) (a' := ?_) #[true, true, true, true, true, true, true, false, true, false, false] rfl rfl (any_of HT_.out (by kernel_rfl)) (fun _ _ _ h => h) (Or.inl ⟨by rfl, ?_⟩) ?_ ?_
        rotate_left
        · intro w'
          go_simp
          with_reducible rfl
        rotate_left
        · simp only [Act.put, List.setIfInBounds_toArray, List.set_cons_zero, List.set_cons_succ, i64_w, i32_w]
          rfl
        refine pure_ (i := 7) (N := some 35) (v := ?_) (a' := ?_) #[true, true, true, true, true, true, true, true, true, false, false] rfl rfl (any_of HT_.out (by kernel_rfl)) (fun _ _ _ h => h) (Or.inl ⟨by rfl, ?_⟩) ?_ ?_
        rotate_left
        · intro w'
          go_simp
          with_reducible rfl
        rotate_left
        · simp only [Act.put, List.setIfInBounds_toArray, List.set_cons_zero, List.set_cons_succ, i64_w, i32_w]
          rfl
        exact norm_ (by simp only [putAll, Act.put, List.setIfInBounds_toArray, List.set_cons_zero, List.set_cons_succ]) (hCont (.agg #[.slice Ap t0.length cp, .slice Aq t1.length cq], gx) _ ⟨hHeld, HX.out⟩)
    · skip
      refine box_step ?hg (N := 7) ?hd (cs := #[.int .i64 0, .int .i64 0]) (t := 28) ?hr ?_; (case hd => rfl); (case hg => rfl); (case hr => first | (go_simp; done) | (go_simp; rfl))
      intro gx hg wr10 hbox hb
      have HX : Aside0 (Box w3 gx #[.int .i64 0, .int .i64 0] 28 _) := ⟨⟨by rw [hg]; exact hHeld.2.2.2.2.2.size, hbox⟩⟩
      clear hg hbox
      refine hK.out _ _ (CA.below hHeld hb) (fun hHeld => ?_)
      clear hK K hb
      refine norm_ (a' := ?_) ?_ ?_
      rotate_left
      · show Act.put _ (some 7) _ = _
        simp only [Act.put, List.setIfInBounds_toArray, List.set_cons_zero, List.set_cons_succ, i64_w, i32_w]
        rfl
      refine one_ (i := 1) (N := some 30) #[true, true, true, false, false, false, false, false, true, false, false] rfl rfl (one_of HT_.out (by kernel_rfl)) (by decide) (fun K hK => ?_)
      refine goes_ Try.func20 (by kernel_rfl) rfl #[.agg #[.slice A0 l0.length c0, .slice A1 l1.length c1]] (by rfl) rfl rfl (by (try simp only [List.map_toArray, List.map_cons, List.map_nil]); first | done | rfl | (simp only [List.length_drop, List.length_take]; rfl)) ?_
      refine (comfitlaw02_Of.calls A0 c0 l0 A1 c1 l1 t0 t1 _ (Kd.C_below HR0.out hHeld.2.2.2.2.1) HC0.out (Kd.C_below HR1.out hHeld.2.2.2.2.1) HC1.out HOF.out).mono ?_
      rintro e wr11 ⟨v1, v2, rfl, ho0, ho1, hb⟩
      refine ⟨_, rfl, ?_⟩
      replace HX := Aside0.mk (HX.out.below hb)
      obtain ⟨Ap, cp, rfl⟩ := Kd.R_slice ho0
      obtain ⟨Aq, cq, rfl⟩ := Kd.R_slice ho1
      have HP0 := Aside0.mk (Kd.R_reads' ho0).2
      have HP1 := Aside0.mk (Kd.R_reads' ho1).2
      clear ho0 ho1
      refine hK.out _ _ (CA.below hHeld hb) (fun hHeld => ?_)
      clear hK K hb
      refine norm_ (a' := ?_) ?_ ?_
      rotate_left
      · show Act.put _ (some 30) _ = _
        simp only [Act.put, List.setIfInBounds_toArray, List.set_cons_zero, List.set_cons_succ, i64_w, i32_w]
        rfl
      refine one_ (i := 3) (N := some 32) #[true, true, true, true, false, false, false, false, true, false, false] rfl rfl (one_of HT_.out (by kernel_rfl)) (by decide) (fun K hK => ?_)
      refine goes_ Try.func21 (by kernel_rfl) rfl #[.agg #[.int .i64 y, .int .i64 o]] (by rfl) rfl rfl (by (try simp only [List.map_toArray, List.map_cons, List.map_nil]); first | done | rfl | (simp only [List.length_drop, List.length_take]; rfl)) ?_
      refine (comfitlaw02_chance.calls y o y o _ HCN.out).mono ?_
      rintro e wr12 ⟨rfl, hb⟩
      refine ⟨_, rfl, ?_⟩
      replace HP0 := Aside0.mk (And.intro HP0.out.1 (Kd.C_below HP0.out.2 hb))
      replace HP1 := Aside0.mk (And.intro HP1.out.1 (Kd.C_below HP1.out.2 hb))
      replace HX := Aside0.mk (HX.out.below hb)
      refine hK.out _ _ (CA.below hHeld hb) (fun hHeld => ?_)
      clear hK K hb
      refine norm_ (a' := ?_) ?_ ?_
      rotate_left
      · show Act.put _ (some 32) _ = _
        simp only [Act.put, List.setIfInBounds_toArray, List.set_cons_zero, List.set_cons_succ, i64_w, i32_w]
        rfl
      refine one_ (i := 4) (N := some 33) #[true, true, true, true, true, false, false, false, true, false, false] rfl rfl (one_of HT_.out (by kernel_rfl)) (by decide) (fun K hK => ?_)
      refine goes_ Try.func22 (by kernel_rfl) rfl #[.agg #[.slice Ap t0.length cp, .slice Aq t1.length cq], .agg #[.int .i64 y, .int .i64 o]] (by rfl) rfl rfl (by (try simp only [List.map_toArray, List.map_cons, List.map_nil]); first | done | rfl | (simp only [List.length_drop, List.length_take]; rfl)) ?_
      refine (lots_Looks.calls k Ap cp t0 Aq cq t1 y o y1 y2 e0 _ HP0.out.2 HP0.out.1 HP1.out.2 HP1.out.1 HLO.out).mono ?_
      rintro e wr13 ⟨rfl, hb⟩
      refine ⟨_, rfl, ?_⟩
      replace HP0 := Aside0.mk (And.intro HP0.out.1 (Kd.C_below HP0.out.2 hb))
      replace HP1 := Aside0.mk (And.intro HP1.out.1 (Kd.C_below HP1.out.2 hb))
      replace HX := Aside0.mk (HX.out.below hb)
      refine hK.out _ _ (CA.below hHeld hb) (fun hHeld => ?_)
      clear hK K hb
      refine norm_ (a' := ?_) ?_ ?_
      rotate_left
      · show Act.put _ (some 33) _ = _
        simp only [Act.put, List.setIfInBounds_toArray, List.set_cons_zero, List.set_cons_succ, i64_w, i32_w]
        rfl
      refine pure_ (i := 5) (N := some 28) (v := ?_) (a' := ?_) #[true, true, true, true, true, true, false, false, true, false, false] rfl rfl (any_of HT_.out (by kernel_rfl)) (fun _ _ _ h => h) (Or.inl ⟨by rfl, ?_⟩) ?_ ?_
      rotate_left
      · intro w'
        go_simp
        with_reducible rfl
      rotate_left
      · simp only [Act.put, List.setIfInBounds_toArray, List.set_cons_zero, List.set_cons_succ, i64_w, i32_w]
        rfl
      refine pure_ (i := 6) (N := some 34) (v := ?_) (a' := ?_) #[true, true, true, true, true, true, true, false, true, false, false] rfl rfl (any_of HT_.out (by kernel_rfl)) (fun _ _ _ h => h) (Or.inl ⟨by rfl, ?_⟩) ?_ ?_
      rotate_left
      · intro w'
        go_simp
        with_reducible rfl
      rotate_left
      · simp only [Act.put, List.setIfInBounds_toArray, List.set_cons_zero, List.set_cons_succ, i64_w, i32_w]
        rfl
      refine pure_ (i := 7) (N := some 35) (v := ?_) (a' := ?_) #[true, true, true, true, true, true, true, true, true, false, false] rfl rfl (any_of HT_.out (by kernel_rfl)) (fun _ _ _ h => h) (Or.inl ⟨by rfl, ?_⟩) ?_ ?_
      rotate_left
      · intro w'
        go_simp
        with_reducible rfl
      rotate_left
      · simp only [Act.put, List.setIfInBounds_toArray, List.set_cons_zero, List.set_cons_succ, i64_w, i32_w]
        rfl
      exact norm_ (by simp only [putAll, Act.put, List.setIfInBounds_toArray, List.set_cons_zero, List.set_cons_succ]) (hCont (.agg #[.slice Ap t0.length cp, .slice Aq t1.length cq], gx) _ ⟨hHeld, HX.out⟩)
  rintro ⟨va, gx_BY⟩ wt ⟨hHeld, hbx⟩
  have HX := Aside0.mk hbx
  clear hbx
  refine norm_ (a' := ?_) ?_ ?_
  rotate_left
  · simp only [putAll, Act.put, List.setIfInBounds_toArray, List.set_cons_zero, List.set_cons_succ]
    rfl
  refine one_ (i := 9) (N := none) #[true, true, true, true, true, true, true, true, true, true, false] rfl rfl (one_of HT_.out (by kernel_rfl)) (by decide) (fun K hK => ?_)
  have hs0_ := HX.out.cell 0 rfl
  have hs1_ := HX.out.cell 1 rfl
  have fs0_ := HX.out.frozen 0
  have fs1_ := HX.out.frozen 1
  refine skip_ (w1 := ?_) (by rfl) rfl ?_ ?_
  rotate_left
  · go_simp
    rfl
  have HL := Aside0.mk (below_set' (below_set' hHeld.2.2.2.2.2 (p := ⟨gx_BY, 0, none⟩) HX.out.1 (.int .i64 y1)) (p := ⟨gx_BY, 1, none⟩) HX.out.1 (.int .i64 y2))
  refine hK.out _ _ (ca_of B2.out B3.out HB.out HL.out) (fun hHeld => ?_)
  clear hK K hHeld
  have BY : Aside0 (Box w3 gx_BY #[.int .i64 y1, .int .i64 y2] 28 _) := ⟨(HX.out.put 0 (.int .i64 y1)).put 1 (.int .i64 y2)⟩
  clear hs0_ hs1_ fs0_ fs1_ HX
  refine pure_ (i := 10) (N := some 8) (v := ?_) (a' := ?_) #[true, true, true, true, true, true, true, true, true, true, true] rfl rfl (any_of HT_.out (by kernel_rfl)) (fun _ _ _ h => h) (Or.inl ⟨by rfl, ?_⟩) ?_ ?_
  rotate_left
  · intro w'
    go_simp
    with_reducible rfl
  rotate_left
  · simp only [Act.put, List.setIfInBounds_toArray, List.set_cons_zero, List.set_cons_succ, i64_w, i32_w]
    rfl
  refine done_ (done_of HT_.out (by kernel_rfl)) ?_
  clear HT_ HW_
  generalize ((wt.setCell _ _).setCell _ _) = w5 at BY HL ⊢
  replace B2 := Aside0.mk (B2.out.below HL.out)
  replace B3 := Aside0.mk (B3.out.below HL.out)
  replace BX := Aside0.mk (BX.out.below HL.out)
  replace HB := Aside0.mk (below_step HB.out HL.out)
  clear HL HLO
  have fB20_ := B2.out.cell 0 rfl
  have fB21_ := B2.out.cell 1 rfl
  have fB30_ := B3.out.cell 0 rfl
  have fB31_ := B3.out.cell 1 rfl
  have fBX0_ := BX.out.cell 0 rfl
  have fBX1_ := BX.out.cell 1 rfl
  have fBY0_ := BY.out.cell 0 rfl
  have fBY1_ := BY.out.cell 1 rfl
  rcases HH.out with rfl | ⟨rfl, hv, hi, hcase⟩
  · clear HH
    go_wp2_with fail
    refine (comfitlaw02_awake.calls k true _ HAW.out).mono ?_
    rintro e w6 ⟨rfl, hb⟩
    go_wp2_with fail
    go_ret
    exact ⟨rfl, below_step HB.out hb⟩
  have HV := Aside0.mk hv
  have HI := Aside0.mk hi
  have HCA := Aside0.mk hcase
  clear hv hi hcase HH
  go_wp2_with fail
  refine (comfitref02_Valid.calls k A0 c0 l0 A1 c1 l1 true _ (Kd.C_below HR0.out HB.out) HC0.out (Kd.C_below HR1.out HB.out) HC1.out HV.out).mono ?_
  rintro e w6 ⟨rfl, hb⟩
  clear fB20_ fB21_ fB30_ fB31_ fBX0_ fBX1_ fBY0_ fBY1_
  replace B2 := Aside0.mk (B2.out.below hb)
  replace B3 := Aside0.mk (B3.out.below hb)
  replace BX := Aside0.mk (BX.out.below hb)
  replace BY := Aside0.mk (BY.out.below hb)
  replace HB := Aside0.mk (below_step HB.out hb)
  clear hb HV
  have fB20_ := B2.out.cell 0 rfl
  have fB21_ := B2.out.cell 1 rfl
  have fB30_ := B3.out.cell 0 rfl
  have fB31_ := B3.out.cell 1 rfl
  have fBX0_ := BX.out.cell 0 rfl
  have fBX1_ := BX.out.cell 1 rfl
  have fBY0_ := BY.out.cell 0 rfl
  have fBY1_ := BY.out.cell 1 rfl
  go_wp2_with fail
  refine (comfitref02_Is.calls y o true _ HI.out).mono ?_
  rintro e w7 ⟨rfl, hb⟩
  clear fB20_ fB21_ fB30_ fB31_ fBX0_ fBX1_ fBY0_ fBY1_
  replace B2 := Aside0.mk (B2.out.below hb)
  replace B3 := Aside0.mk (B3.out.below hb)
  replace BX := Aside0.mk (BX.out.below hb)
  replace BY := Aside0.mk (BY.out.below hb)
  replace HB := Aside0.mk (below_step HB.out hb)
  clear hb HI
  have fB20_ := B2.out.cell 0 rfl
  have fB21_ := B2.out.cell 1 rfl
  have fB30_ := B3.out.cell 0 rfl
  have fB31_ := B3.out.cell 1 rfl
  have fBX0_ := BX.out.cell 0 rfl
  have fBX1_ := BX.out.cell 1 rfl
  have fBY0_ := BY.out.cell 0 rfl
  have fBY1_ := BY.out.cell 1 rfl
  rcases HCA.out with h8 | ⟨h8, h1, pw, kf, ok, hsh, h256, hrun, ha1, ha2, ha3, ha4, ha5, ha6, ha7, ha8, ha9, ha10⟩
  · clear HCA
    have h8b : decide ((l0.length : Int) > 8) = true := decide_eq_true (by omega)
    have h8p : ((8 : Int) < (l0.length : Int)) = True := eq_true (by omega)
    go_wp2_with fail
    refine (comfitlaw02_awake.calls k true _ HAW.out).mono ?_
    rintro e w8 ⟨rfl, hb⟩
    go_wp2_with fail
    go_ret
    exact ⟨rfl, below_step HB.out hb⟩
  clear HCA
  have h8b : decide ((l0.length : Int) > 8) = false := decide_eq_false (by omega)
  have h8p : ((8 : Int) < (l0.length : Int)) = False := eq_false (by omega)
  have H8 := Aside0.mk h8
  have H1 := Aside0.mk h1
  have HSH := Aside0.mk hsh
  have H256 := Aside0.mk h256
  have HRUN := Aside0.mk hrun
  have HA1 := Aside0.mk ha1
  have HA2 := Aside0.mk ha2
  have HA3 := Aside0.mk ha3
  have HA4 := Aside0.mk ha4
  have HA5 := Aside0.mk ha5
  have HA6 := Aside0.mk ha6
  have HA7 := Aside0.mk ha7
  have HA8 := Aside0.mk ha8
  have HA9 := Aside0.mk ha9
  have HA10 := Aside0.mk ha10
  clear hrun ha1 ha2 ha3 ha4 ha5 ha6 ha7 ha8 ha9 ha10 h8 h1 hsh h256
  go_wp2_with fail
  clear h8b h8p
  go_loopw [10, 69] (fun v10 v69 W => ∃ j : Nat, v69 = .int .i64 (j : Int) ∧ v10 = .int .i64 (powA o j) ∧ j ≤ l0.length ∧ W = w7) (fun _ v69 _ => l0.length - (intOf v69).toNat)
  case atStart => exact ⟨0, rfl, rfl, Nat.zero_le _, rfl⟩
  case round =>
    obtain ⟨j, rfl, rfl, hj, hWW⟩ := hrel
    have hWW' := hWW.symm
    clear hWW
    subst hWW'
    by_cases hjl : j < l0.length
    · as_aux_lemma =>
      have hjb : decide ((j : Int) < (l0.length : Int)) = true := decide_eq_true (by omega)
      have hjp : ((j : Int) < (l0.length : Int)) = True := eq_true (by omega)
      have HWR : Aside0 (wrap64 ((j : Int) + 1) = ((j + 1 : Nat) : Int)) := ⟨by have := H8.out; unfold wrap64; omega⟩
      have hpo := powA_succ o j
      go_wp2_with fail
      exact ⟨⟨j + 1, by first | rw [HWR.out] | (congr 1 <;> omega), rfl, hjl, by first | trivial | rfl⟩, meas_j l0.length j _ (by first | exact HWR.out | omega) hjl⟩
    · have hjb : decide ((j : Int) < (l0.length : Int)) = false := decide_eq_false (by omega)
      have hjp : ((j : Int) < (l0.length : Int)) = False := eq_false (by omega)
      obtain rfl : j = l0.length := by omega
      have hsh := HSH.out
      have hle64 : (l0.length : Int) ≤ 64 := by have := H8.out; omega
      have hs_ : (IntKind.i64.wrap (1 * 2 ^ min (l0.length : Int).toNat 64)) = (pw : Int) := hsh
      have hsz : (IntKind.i64.wrap (1 * 2 ^ (l0.length : Int).toNat)) = (pw : Int) := shl_small hsh hle64
      have hsp : (IntKind.i64.wrap (1 * 2 ^ min l0.length 64)) = (pw : Int) := hs_
      have hsq : (IntKind.i64.wrap (1 * 2 ^ l0.length)) = (pw : Int) := hsz
      have hsu : (IntKind.i64.wrap (2 ^ min (l0.length : Int).toNat 64)) = (pw : Int) := by have h_ := hs_; rw [Int.one_mul] at h_; exact h_
      have hsv : (IntKind.i64.wrap (2 ^ (l0.length : Int).toNat)) = (pw : Int) := by have h_ := hsz; rw [Int.one_mul] at h_; exact h_
      have hsw : (IntKind.i64.wrap (2 ^ min l0.length 64)) = (pw : Int) := hsu
      have hsx : (IntKind.i64.wrap (2 ^ l0.length)) = (pw : Int) := hsv
      have hsy : (wrap64 (1 * 2 ^ min (l0.length : Int).toNat 64)) = (pw : Int) := (i64_w _).symm.trans hs_
      have hsy1 : (wrap64 (1 * 2 ^ (l0.length : Int).toNat)) = (pw : Int) := (i64_w _).symm.trans hsz
      have hsy2 : (wrap64 (2 ^ min (l0.length : Int).toNat 64)) = (pw : Int) := (i64_w _).symm.trans hsu
      have hsy3 : (wrap64 (2 ^ (l0.length : Int).toNat)) = (pw : Int) := (i64_w _).symm.trans hsv
      have hsy4 : (wrap64 (2 ^ l0.length)) = (pw : Int) := hsy3
      have hsy5 : (wrap64 (2 ^ min l0.length 64)) = (pw : Int) := hsy2
      have hle64p := eq_true hle64
      go_wp2_with fail
      first | rw [hsh] | rw [hsy4] | rw [hsy5] | rw [hsy3] | rw [hsy2] | rw [hsx] | rw [hsw] | rw [hsv] | rw [hsu] | rw [hs_] | skip
      clear hjb hjp hjl hj hsh hle64 hs_ hsz hsp hsq hsu hsv hsw hsx hsy hsy1 hsy2 hsy3 hsy4 hsy5 hle64p
      go_loopw [11, 12, 78] (fun v11 v12 v78 W => ∃ s : Nat, v78 = .int .i64 (s : Int) ∧ v11 = .int .i64 (tkS y o l0.length ok s) ∧ v12 = .int .i64 (lkS y o l0.length kf s) ∧ s ≤ pw ∧ Aside0 (Below w7.heap.size w7 W)) (fun _ _ v78 _ => pw - (intOf v78).toNat)
      case atStart => exact ⟨0, rfl, rfl, rfl, Nat.zero_le _, ⟨Below.refl _ _⟩⟩
      case round =>
        obtain ⟨s, rfl, rfl, rfl, hs, HW⟩ := hrel
        clear fB20_ fB21_ fB30_ fB31_ fBX0_ fBX1_ fBY0_ fBY1_
        replace B2 := Aside0.mk (B2.out.below HW.out)
        replace B3 := Aside0.mk (B3.out.below HW.out)
        replace BX := Aside0.mk (BX.out.below HW.out)
        replace BY := Aside0.mk (BY.out.below HW.out)
        replace HB := Aside0.mk (below_step HB.out HW.out)
        by_cases hsl : s < pw
        · have hsb : decide ((s : Int) < (pw : Int)) = true := decide_eq_true (by omega)
          have hsp : ((s : Int) < (pw : Int)) = True := eq_true (by omega)
          have hn0 : (0 ≤ (l0.length : Int)) = True := eq_true (by omega)
          go_wp2_with (first | ((with_reducible refine gate_dst (N := 82) rfl ?_); refine Kd.R_make Kd.bool (w0 := wr) wr.heap.size 4 rfl (N := 82) rfl 45 (.tmp 81) (.tmp 81) rfl (l0.length : Int) (by rfl) (by rfl) Try.underlying45 (.bool false) 1 info4 rfl (by decide) (by omega) false (ok := fun _ => True) (okp := fun _ => True) rfl (fun _ h => h) trivial (by omega) (by have h_ := H8.out; rw [Int.toNat_natCast]; omega) (Below.refl _ _) (Nat.le_refl _) ?_; intro v82 w8 ho hb hg hnew; obtain ⟨g, cap, e82, hge, _⟩ := Kd.R_form ho (by rw [List.length_replicate, Int.toNat_natCast]; exact H1.out); rw [List.length_replicate, Int.toNat_natCast] at e82; rw [Int.toNat_natCast, itA_zero s] at ho; subst e82; have HO0 := Aside0.mk ho; have HN := Aside0.mk hb; have HGE := Aside0.mk hge; clear ho hb hg hnew hge))
          clear hsb hsp
          go_loopw [15, 85] (fun v15 v85 W => ∃ i : Nat, v85 = .int .i64 (i : Int) ∧ v15 = .int .i64 (tmA y o s i) ∧ i ≤ l0.length ∧ Aside0 (Kd.R Kd.bool 4 W wr.heap.size (fun _ => True) (.slice (some ⟨g, 0, none⟩) l0.length cap) (itA s l0.length i)) ∧ Aside0 (Below wr.heap.size wr W)) (fun _ v85 _ => l0.length - (intOf v85).toNat)
          case atStart => exact ⟨0, rfl, rfl, Nat.zero_le _, HO0, HN⟩
          case round =>
            clear HO0 HN
            obtain ⟨i, rfl, rfl, hi, HO, HI⟩ := hrel
            by_cases hil : i < l0.length
            · have hib : decide ((i : Int) < (l0.length : Int)) = true := decide_eq_true (by omega)
              have hip : ((i : Int) < (l0.length : Int)) = True := eq_true (by omega)
              have hi0 : (0 ≤ (i : Int)) = True := eq_true (by omega)
              have hi64 : ((i : Int) ≤ 64) = True := eq_true (by have := H8.out; omega)
              obtain ⟨hxc, hxf⟩ := Kd.R_celln false HO.out (i : Int) (by omega) (by omega)
              have HP := Kd.R_putg HO.out (i : Int) (bitA s i)
              rw [Int.toNat_natCast] at hxc hxf HP
              rw [itA_set s l0.length i hil] at HP
              have HWR : Aside0 (wrap64 ((i : Int) + 1) = ((i + 1 : Nat) : Int)) := ⟨by have := H8.out; unfold wrap64; omega⟩
              have k3_ := B3.out.below HI.out
              have hne3 : w.heap.size + 1 ≠ g := by have h1_ := B3.out.lt; have h2_ := HGE.out; omega
              have c30 : ∀ v : Value, (wr.setCell ⟨g, i, none⟩ v).cell? ⟨w.heap.size + 1, 0, none⟩ = some (.int .i64 y) := fun v => (cell_far (p := ⟨g, i, none⟩) hne3 v).trans (k3_.cell 0 rfl)
              have c31 : ∀ v : Value, (wr.setCell ⟨g, i, none⟩ v).cell? ⟨w.heap.size + 1, 1, none⟩ = some (.int .i64 o) := fun v => (cell_far (p := ⟨g, i, none⟩) hne3 v).trans (k3_.cell 1 rfl)
              have HI2 : ∀ v : Value, Aside0 (Below _ _ (wr.setCell ⟨g, i, none⟩ v)) := fun v => ⟨below_set' HI.out (p := ⟨g, i, none⟩) HGE.out v⟩
              clear k3_
              cases hbit : bitA s i with
              | true =>
                as_aux_lemma =>
                rw [hbit] at HP
                have hbf : (Go.bits .and .i64 ((s : Int) / 2 ^ min i 64) 1 == 1) = true := hbit
                have htm := tmA_yes y o s i hbit
                have HO2 := Aside0.mk HP.1
                clear HP
                go_wp2_with fail
                exact ⟨⟨i + 1, by first | rw [HWR.out] | (congr 1 <;> omega), by rw [htm], hil, HO2, HI2 _⟩, meas_j l0.length i _ (by first | exact HWR.out | omega) hil⟩
              | false =>
                as_aux_lemma =>
                rw [hbit] at HP
                have hbf : (Go.bits .and .i64 ((s : Int) / 2 ^ min i 64) 1 == 1) = false := hbit
                have htm := tmA_no y o s i hbit
                have HO2 := Aside0.mk HP.1
                clear HP
                go_wp2_with fail
                exact ⟨⟨i + 1, by first | rw [HWR.out] | (congr 1 <;> omega), by rw [htm], hil, HO2, HI2 _⟩, meas_j l0.length i _ (by first | exact HWR.out | omega) hil⟩
            · as_aux_lemma =>
              have hib : decide ((i : Int) < (l0.length : Int)) = false := decide_eq_false (by omega)
              have hip : ((i : Int) < (l0.length : Int)) = False := eq_false (by omega)
              obtain rfl : i = l0.length := by omega
              replace B2 := Aside0.mk (B2.out.below HI.out)
              replace B3 := Aside0.mk (B3.out.below HI.out)
              replace BX := Aside0.mk (BX.out.below HI.out)
              replace BY := Aside0.mk (BY.out.below HI.out)
              replace HB := Aside0.mk (below_step HB.out HI.out)
              replace HW := Aside0.mk (below_step HW.out HI.out)
              obtain ⟨hru, hk1, hk2⟩ := HRUN.out s hsl
              have HRU := Aside0.mk hru
              clear hru
              have HIT := Aside0.mk (Kd.R_reads' HO.out).2
              have hlen : (itA s l0.length l0.length).length = l0.length := itA_length _ _ _
              clear HO HI
              have fB20_ := B2.out.cell 0 rfl
              have fB21_ := B2.out.cell 1 rfl
              go_wp2_with fail
              refine (comfitlaw02_Of.calls A0 c0 l0 A1 c1 l1 t0 t1 _ (Kd.C_below HR0.out HB.out) HC0.out (Kd.C_below HR1.out HB.out) HC1.out HOF.out).mono ?_
              rintro e w9 ⟨v1, v2, rfl, ho0, ho1, hb⟩
              obtain ⟨Ap, cp, rfl⟩ := Kd.R_slice ho0
              obtain ⟨Aq, cq, rfl⟩ := Kd.R_slice ho1
              have HU0 := Aside0.mk (Kd.R_reads' ho0).2
              have HU1 := Aside0.mk (Kd.R_reads' ho1).2
              clear ho0 ho1
              clear fB20_ fB21_
              replace HIT := Aside0.mk (And.intro HIT.out.1 (Kd.C_below HIT.out.2 hb))
              replace HB := Aside0.mk (below_step HB.out hb)
              replace HW := Aside0.mk (below_step HW.out hb)
              clear hb
              generalize itA s l0.length l0.length = its at HIT HRU hlen
              go_wp2_with fail
              have hcall := lots_Run.calls k Ap cp t0 Aq cq t1 (some ⟨g, 0, none⟩) cap its (kf s) (ok s) 0 _ HU0.out.2 HU0.out.1 HU1.out.2 HU1.out.1 HIT.out.2 (by rw [hlen]; exact HIT.out.1) HRU.out
              rw [hlen] at hcall
              refine hcall.mono ?_
              clear hcall
              rintro e w10 ⟨rfl, hb⟩
              replace HW := Aside0.mk (below_step HW.out hb)
              clear hb HU0 HU1 HIT HRU HB
              have hkb1 : decide (kf s < 1) = false := decide_eq_false (by omega)
              have hkb2 : decide ((l0.length : Int) < kf s) = false := decide_eq_false (by omega)
              have hlk := lkS_succ y o l0.length kf s
              have HWR : Aside0 (wrap64 ((s : Int) + 1) = ((s + 1 : Nat) : Int)) := ⟨by have := H256.out; unfold wrap64; omega⟩
              cases hok : ok s with
              | true =>
                have htk : wrap64 (tkS y o l0.length ok s + tmA y o s l0.length) = tkS y o l0.length ok (s + 1) := by rw [tkS, if_pos hok]
                go_wp2_with fail
                exact ⟨⟨s + 1, by first | rw [HWR.out] | (congr 1 <;> omega), by rw [htk], by rw [hlk], hsl, HW⟩, meas_j pw s _ (by first | exact HWR.out | omega) hsl⟩
              | false =>
                have htk : tkS y o l0.length ok (s + 1) = tkS y o l0.length ok s := by rw [tkS, if_neg (by rw [hok]; decide)]
                go_wp2_with fail
                exact ⟨⟨s + 1, by first | rw [HWR.out] | (congr 1 <;> omega), by rw [htk], by rw [hlk], hsl, HW⟩, meas_j pw s _ (by first | exact HWR.out | omega) hsl⟩
        · as_aux_lemma =>
          have hsb : decide ((s : Int) < (pw : Int)) = false := decide_eq_false (by omega)
          have hsp : ((s : Int) < (pw : Int)) = False := eq_false (by omega)
          obtain rfl : s = pw := by omega
          generalize powA o l0.length = al at *
          have hb1 : decide (1 ≤ x2) = true := decide_eq_true HA1.out
          have hb2 : decide (x2 ≤ al) = true := decide_eq_true HA2.out
          have hb3 : decide (1 ≤ y2) = true := decide_eq_true HA3.out
          have hb4 : decide (y2 ≤ al) = true := decide_eq_true HA4.out
          have hb5 : decide (0 ≤ x1) = true := decide_eq_true HA5.out
          have hb6 : decide (x1 ≤ x2) = true := decide_eq_true HA6.out
          have hb7 : decide (0 ≤ y1) = true := decide_eq_true HA7.out
          have hb8 : decide (y1 ≤ wrap64 ((l0.length : Int) * y2)) = true := decide_eq_true HA8.out
          have hb9 : (wrap64 (x1 * al) == wrap64 (tkS y o l0.length ok s * x2)) = true := beq_iff_eq.mpr HA9.out
          have hb10 : (wrap64 (y1 * al) == wrap64 (lkS y o l0.length kf s * y2)) = true := beq_iff_eq.mpr HA10.out
          have fBX0_ := BX.out.cell 0 rfl
          have fBX1_ := BX.out.cell 1 rfl
          have fBY0_ := BY.out.cell 0 rfl
          have fBY1_ := BY.out.cell 1 rfl
          go_wp2_with fail
          refine (comfitlaw02_awake.calls k true _ HAW.out).mono ?_
          rintro e w8 ⟨rfl, hb⟩
          go_wp2_with fail
          go_ret
          exact ⟨rfl, below_step HB.out hb⟩
end Go.Proofs.Ytdppnmfljfdhaaa.X
