/- The walk through the law LotsTwice, which hands a plan away and reads it afterwards: told by the results that its calls are known to have. -/
import Derived.Test.YtdppnmfljfdhaaaHBoxes
import Derived.Test.YtdppnmfljfdhaaaXLO
import Derived.Test.YtdppnmfljfdhaaaXR
import Derived.Test.YtdppnmfljfdhaaaXS
import Derived.Test.YtdppnmfljfdhaaaXcomfitlaw02awake
import Derived.Test.YtdppnmfljfdhaaaXlotsRun
import Derived.Test.YtdppnmfljfdhaaaXlotsTurn
set_option linter.unusedVariables false
set_option linter.unusedSimpArgs false
namespace Go.Proofs.Ytdppnmfljfdhaaa.X
open Go.RowKit Go.Proofs.YtdppnmfljfdhaaaW.PrintWords Go.Proofs.YtdppnmfljfdhaaaW.PrintLast Go.Proofs.YtdppnmfljfdhaaaW.PrintMore
attribute [local go_sem] max2_int min2_int max_two min_two max_three min_three max_four min_four
attribute [local go_sem] Oper.semAt_some

/-- A variable of two cells that is made and filled. -/
theorem box2 {w W : World} (hb : Below w.heap.size w W) (u0 u1 : Value) (t : TypeId) :
    Below W.heap.size W (W.alloc (.cells #[u0, u1] t)) ∧ Box w W.heap.size #[u0, u1] t (W.alloc (.cells #[u0, u1] t)) :=
  ⟨below_alloc (Below.refl _ _) _, Box.new hb #[u0, u1] t⟩
set_option maxRecDepth 100000 in
/-- 'own' hands the very rows on. -/
theorem own_calls (A0 A1 : Option Addr) (n0 c0 n1 c1 : Nat) (w : World) :
    Calls Try.prog 38 #[.agg #[.slice A0 n0 c0, .slice A1 n1 c1]] w fun e w' => e = .returned (.agg #[.slice A0 n0 c0, .slice A1 n1 c1]) ∧ Below w.heap.size w w' := by
  have hu32 := Try.underlying32
  have hu24 := Try.underlying24
  have B1 := Aside0.mk ((Box.new (Below.refl w.heap.size w) #[.slice A0 n0 c0, .slice A1 n1 c1] 32).alloc (.cells #[.slice none 0 0, .slice none 0 0] 24))
  have B2 := Aside0.mk (Box.new (below_alloc (Below.refl w.heap.size w) (.cells #[.slice A0 n0 c0, .slice A1 n1 c1] 32)) #[.slice none 0 0, .slice none 0 0] 24)
  have HB := Aside0.mk (below_alloc (below_alloc (Below.refl w.heap.size w) (.cells #[.slice A0 n0 c0, .slice A1 n1 c1] 32)) (.cells #[.slice none 0 0, .slice none 0 0] 24))
  have B3 := Aside0.mk (Box.new (below_alloc (Below.refl w.heap.size w) (.cells #[.slice A0 n0 c0, .slice A1 n1 c1] 32)) #[.slice A0 n0 c0, .slice A1 n1 c1] 24)
  rw [World.size_alloc] at B2 B3
  have p0 := B1.out.cell 0 rfl
  have p1 := B1.out.cell 1 rfl
  have q0 := B2.out.cell 0 rfl
  have q1 := B2.out.cell 1 rfl
  have f0 := B2.out.frozen 0
  have f1 := B2.out.frozen 1
  go_enter Try.func38, Try.ntmps38
  go_wp2_with fail
  refine bodyPost_ret (results_cell_row rfl _ _ (w.heap.size + 1) 24 #[.slice A0 n0 c0, .slice A1 n1 c1] (0, 0) _ rfl B3.out.2 Try.underlying24 rfl (by kernel_rfl)) rfl ⟨rfl, below_alloc (below_alloc (Below.refl _ _) _) _⟩
/-- A variable of two cells, and what lay before. -/
def CS (g : Nat) (u0 u1 : Value) (w w7 W : World) : Prop := W.cell? ⟨g, 0, none⟩ = some u0 ∧ W.cell? ⟨g, 1, none⟩ = some u1 ∧ Below w.heap.size w W ∧ Below w7.heap.size w7 W
theorem CS.below {g : Nat} {u0 u1 : Value} {w w7 W W1 : World} (h : CS g u0 u1 w w7 W) (hb : Below W.heap.size W W1) : CS g u0 u1 w w7 W1 :=
  ⟨(hb.cell (World.block_lt_of_cell? W _ h.1)).trans h.1, (hb.cell (World.block_lt_of_cell? W _ h.2.1)).trans h.2.1, below_step h.2.2.1 hb, below_step h.2.2.2 hb⟩
theorem Box.cs {g : Nat} {u0 u1 : Value} {t : TypeId} {w W : World} (h : Box w g #[u0, u1] t W) (hb : Below w.heap.size w W) : CS g u0 u1 w W W.drew :=
  ⟨h.cell 0 rfl, h.cell 1 rfl, below_drew hb, below_drew (Below.refl _ _)⟩
def twiT.T7 : Bool × List (List Nat × List Nat) := (true, [([], []), ([0], [0]), ([], []), ([], []), ([3], [3]), ([4], [4]), ([2, 5], [2, 5]), ([6, 1], [6]), ([1, 7, 7], [1, 7]), ([8], [8]), ([9], [9]), ([9], [9]), ([9], [9]), ([10, 8, 0, 1, 2, 3, 4, 5, 6, 7, 8, 9, 10], [10]), ([11, 13, 0, 1, 2, 3, 4, 5, 6, 7, 8, 9, 10, 11, 13], [11]), ([12, 14, 0, 1, 2, 3, 4, 5, 6, 7, 8, 9, 10, 11, 12, 13, 14], [12])])
def twiT.B7 : List Nat := [0, 1, 0, 0, 8, 24, 60, 127, 255, 511, 1023, 1023, 1023, 2047, 12287, 32767]
theorem twiT.tab7 : rtab .any (opsOf Try.f10 7) = twiT.T7 := by kernel_rfl
theorem twiT.bits7 : waitsOk twiT.T7.2 twiT.B7 = true := by kernel_rfl
def twiT.T8 : Bool × List (List Nat × List Nat) := (true, [([], []), ([], []), ([], []), ([2], [2]), ([3], [3]), ([1, 4], [1, 4]), ([5], [5]), ([0, 6, 6], [0, 6]), ([7], [7]), ([8], [8]), ([8], [8]), ([8], [8]), ([9, 7, 0, 1, 2, 3, 4, 5, 6, 7, 8, 9], [9]), ([10, 12, 0, 1, 2, 3, 4, 5, 6, 7, 8, 9, 10, 12], [10]), ([11, 13, 0, 1, 2, 3, 4, 5, 6, 7, 8, 9, 10, 11, 12, 13], [11])])
def twiT.B8 : List Nat := [0, 0, 0, 4, 12, 30, 62, 127, 255, 511, 511, 511, 1023, 6143, 16383]
theorem twiT.tab8 : rtab .any (opsOf Try.f10 8) = twiT.T8 := by kernel_rfl
theorem twiT.bits8 : waitsOk twiT.T8.2 twiT.B8 = true := by kernel_rfl
set_option maxRecDepth 100000 in
set_option maxHeartbeats 8000000 in
theorem LotsTwice_calls (k : Nat) (A0 : Option Addr) (c0 : Nat) (l0 : List Int) (A1 : Option Addr) (c1 : Nat) (l1 : List Int) (A2 : Option Addr) (c2 : Nat) (it : List Bool) (t0 t1 : List Int) (t2 : List Bool) (q0 q1 : List Int) (e0 : Int) (w : World)
    (hr0 : Kd.C (Kd.int .i64) w A0 l0.length l0) (hc0 : l0.length ≤ c0) (hr1 : Kd.C (Kd.int .i64) w A1 l1.length l1) (hc1 : l1.length ≤ c1) (hr2 : Kd.C Kd.bool w A2 it.length it) (hc2 : it.length ≤ c2)
    (hof : comfitlaw02_Of.f l0 l1 = some (t0, t1)) (hturn : lots_Turn.f k t0 t1 = some (q0, q1, e0)) (haw : comfitlaw02_awake.f k = some true)
    (h : e0 = 2 ∨ (e0 = 0 ∧ comfitref02_Valid.f k l0 l1 = some true ∧ slices_Clone_bool_bool.f (it.take (mn (it.length : Int) 15).toNat) = some t2 ∧
      ∃ (x0 x1 : List Int) (n : Int) (ok : Bool) (e3 : Int), lots_Turn.f k q0 q1 = some (x0, x1, 0) ∧ comfitref02_Valid.f k x0 x1 = some true ∧ x0.length = l0.length ∧
        lots_Run.f k t0 t1 t2 = some (n, ok, e3) ∧ lots_Run.f k x0 x1 t2 = some (n, ok, e3) ∧ (e3 = 0 ∨ e3 = 2))) :
    Calls Try.prog 10 #[.agg #[.slice A0 l0.length c0, .slice A1 l1.length c1], .slice A2 it.length c2] w fun e w' => e = .returned (.bool true) ∧ Below w.heap.size w w' := by
  have hu24 := Try.underlying24
  have hu32 := Try.underlying32
  have HR0 := Aside0.mk hr0
  have HC0 := Aside0.mk hc0
  have HR1 := Aside0.mk hr1
  have HC1 := Aside0.mk hc1
  have HR2 := Aside0.mk hr2
  have HC2 := Aside0.mk hc2
  have HOF := Aside0.mk hof
  have HT := Aside0.mk hturn
  have HAW := Aside0.mk haw
  clear hr0 hc0 hr1 hc1 hr2 hc2 hof hturn haw
  have HB := Aside0.mk (below_alloc (Below.refl w.heap.size w) (.cells #[.slice A0 l0.length c0, .slice A1 l1.length c1] 24))
  have B2 := Aside0.mk (Box.new (Below.refl w.heap.size w) #[.slice A0 l0.length c0, .slice A1 l1.length c1] 24)
  have p0 := B2.out.cell 0 rfl
  have p1 := B2.out.cell 1 rfl
  go_enter Try.func10, Try.ntmps10
  go_wp2_with fail
  refine (comfitlaw02_Of.calls A0 c0 l0 A1 c1 l1 t0 t1 _ (Kd.C_below HR0.out HB.out) HC0.out (Kd.C_below HR1.out HB.out) HC1.out HOF.out).mono ?_
  rintro e w1 ⟨v1, v2, rfl, ho0, ho1, hb⟩
  obtain ⟨A3, c3, rfl⟩ := Kd.R_slice ho0
  obtain ⟨A4, c4, rfl⟩ := Kd.R_slice ho1
  replace HB := Aside0.mk (below_step HB.out hb)
  replace B2 := Aside0.mk (B2.out.below hb)
  have HO0 := Aside0.mk ho0
  have HO1 := Aside0.mk ho1
  clear p0 p1 hb ho0 ho1
  go_wp2_with fail
  refine (lots_Turn.calls k A3 c3 t0 A4 c4 t1 q0 q1 e0 _ (Kd.R_reads' HO0.out).2.2 (Kd.R_reads' HO0.out).2.1 (Kd.R_reads' HO1.out).2.2 (Kd.R_reads' HO1.out).2.1 HT.out).mono ?_
  rintro e w2 ⟨v1, v2, rfl, hq0, hq1, hb⟩
  obtain ⟨A5, c5, rfl⟩ := Kd.R_slice hq0
  obtain ⟨A6, c6, rfl⟩ := Kd.R_slice hq1
  replace HB := Aside0.mk (below_step HB.out hb)
  replace B2 := Aside0.mk (B2.out.below hb)
  have HQ0 := Aside0.mk (Kd.R_reads' hq0).2
  have HQ1 := Aside0.mk (Kd.R_reads' hq1).2
  clear hb hq0 hq1 HO0 HO1 HT
  have B5n := Aside0.mk (Box.new HB.out #[.slice none 0 0, .slice none 0 0] 32)
  have x0_ := B5n.out.cell 0 rfl
  have x1_ := B5n.out.cell 1 rfl
  have f0_ := B5n.out.frozen 0
  have f1_ := B5n.out.frozen 1
  have HN := Aside0.mk (box2 HB.out (.slice A5 q0.length c5) (.slice A6 q1.length c6) 32)
  rcases h with rfl | ⟨rfl, hv, hcl, x0, x1, n, ok, e3, ht2, hv2, hxl, hr, hrx, he3⟩
  · go_wp2_with fail
    refine (comfitlaw02_awake.calls k true _ HAW.out).mono ?_
    rintro e w3 ⟨rfl, hb⟩
    go_wp2_with fail
    go_ret
    exact ⟨rfl, below_step (below_step HB.out HN.out.1) hb⟩
  · have HV := Aside0.mk hv
    have HCL := Aside0.mk hcl
    have HT2 := Aside0.mk ht2
    have HV2 := Aside0.mk hv2
    have HRN := Aside0.mk hr
    have HRX := Aside0.mk hrx
    have HXL := Aside0.mk hxl
    clear hv hcl ht2 hv2 hr hrx hxl
    have b2_ := B2.out.below HN.out.1
    have p0 := b2_.cell 0 rfl
    have p1 := b2_.cell 1 rfl
    clear b2_
    go_wp2_with fail
    refine (comfitref02_Valid.calls k A0 c0 l0 A1 c1 l1 true _ (Kd.C_below HR0.out (below_step HB.out HN.out.1)) HC0.out (Kd.C_below HR1.out (below_step HB.out HN.out.1)) HC1.out HV.out).mono ?_
    rintro e w4 ⟨rfl, hb⟩
    have h24 := below_step HN.out.1 hb
    replace B2 := Aside0.mk (B2.out.below h24)
    have B5 := Aside0.mk (HN.out.2.below hb)
    replace HQ0 := Aside0.mk (And.intro HQ0.out.1 (Kd.C_below HQ0.out.2 h24))
    replace HQ1 := Aside0.mk (And.intro HQ1.out.1 (Kd.C_below HQ1.out.2 h24))
    replace HB := Aside0.mk (below_step HB.out h24)
    clear h24 hb p0 p1 x0_ x1_ f0_ f1_ HN B5n
    have p0 := B5.out.cell 0 rfl
    have p1 := B5.out.cell 1 rfl
    go_wp2_with fail
    refine (lots_Turn.calls k A5 c5 q0 A6 c6 q1 x0 x1 0 _ HQ0.out.2 HQ0.out.1 HQ1.out.2 HQ1.out.1 HT2.out).mono ?_
    rintro e w5 ⟨v1, v2, rfl, hq0, hq1, hb⟩
    obtain ⟨A7, c7, rfl⟩ := Kd.R_slice hq0
    obtain ⟨A8, c8, rfl⟩ := Kd.R_slice hq1
    replace HB := Aside0.mk (below_step HB.out hb)
    replace B2 := Aside0.mk (B2.out.below hb)
    have HX0 := Aside0.mk (Kd.R_reads' hq0).2
    have HX1 := Aside0.mk (Kd.R_reads' hq1).2
    clear hb hq0 hq1 HQ0 HQ1 p0 p1 B5
    have B7n := Aside0.mk (Box.new HB.out #[.slice none 0 0, .slice none 0 0] 32)
    have x0_ := B7n.out.cell 0 rfl
    have x1_ := B7n.out.cell 1 rfl
    have f0_ := B7n.out.frozen 0
    have f1_ := B7n.out.frozen 1
    have HN := Aside0.mk (box2 HB.out (.slice A7 x0.length c7) (.slice A8 x1.length c8) 32)
    go_wp2_with fail
    refine (own_calls A7 A8 x0.length c7 x1.length c8 _).mono ?_
    rintro e w6 ⟨rfl, hb⟩
    have h56 := below_step HN.out.1 hb
    replace B2 := Aside0.mk (B2.out.below h56)
    have B7 := Aside0.mk (HN.out.2.below hb)
    replace HX0 := Aside0.mk (And.intro HX0.out.1 (Kd.C_below HX0.out.2 h56))
    replace HX1 := Aside0.mk (And.intro HX1.out.1 (Kd.C_below HX1.out.2 h56))
    replace HB := Aside0.mk (below_step HB.out h56)
    clear h56 hb x0_ x1_ f0_ f1_ HN B7n
    go_wp2_with fail
    refine (comfitref02_Valid.calls k A7 c7 x0 A8 c8 x1 true _ HX0.out.2 HX0.out.1 HX1.out.2 HX1.out.1 HV2.out).mono ?_
    rintro e w7 ⟨rfl, hb⟩
    replace B2 := Aside0.mk (B2.out.below hb)
    replace B7 := Aside0.mk (B7.out.below hb)
    replace HX0 := Aside0.mk (And.intro HX0.out.1 (Kd.C_below HX0.out.2 hb))
    replace HX1 := Aside0.mk (And.intro HX1.out.1 (Kd.C_below HX1.out.2 hb))
    replace HB := Aside0.mk (below_step HB.out hb)
    clear hb
    have p0 := B2.out.cell 0 rfl
    have p1 := B2.out.cell 1 rfl
    have s0_ := B7.out.cell 0 rfl
    have s1_ := B7.out.cell 1 rfl
    have hne : ((x0.length : Int) != (l0.length : Int)) = false := by rw [HXL.out]; simp
    obtain ⟨ji, hji⟩ : ∃ j_ : Int, (mn (it.length : Int) 15) = j_ := ⟨_, rfl⟩
    have hji_ : (if 15 < (it.length : Int) then 15 else (it.length : Int)) = ji := hji
    have hj0 : 0 ≤ ji := by rw [← hji]; unfold mn; split <;> omega
    have hj1 : ji ≤ (it.length : Int) := by rw [← hji]; unfold mn; split <;> omega
    rw [hji] at HCL
    obtain ⟨i012, hi012, _, hsz12, _⟩ := info_parts info4
    obtain ⟨hcut12, hA12, hC12⟩ := print_take_of (P := Try.prog) Value.bool false 45 4 .i64 Try.underlying45 hi012 hsz12 A2 c2 it ji hj0 hj1 HC2.out
    have HRJ := Aside0.mk (Kd.C_of_reads (h1 := fun _ => rfl) (hA12 _ (Kd.reads_of_C HR2.out)))
    have HCJ := Aside0.mk hC12
    clear hA12 hC12 hi012 hsz12
    have HJ0 := Aside0.mk hj0
    have HJ1 := Aside0.mk hj1
    have c5b0 := eq_true hj0
    have c5b1 : decide (0 ≤ ji) = true := decide_eq_true hj0
    have c6b0 := eq_true hj1
    have c6b1 : decide (ji ≤ (it.length : Int)) = true := decide_eq_true hj1
    clear hj0 hj1
    go_wp2_with fail
    refine start_ (n := 16) (S := CS w.heap.size (.slice A0 l0.length c0) (.slice A1 l1.length c1) w w7) (ds := []) #[false, false, false, false, false, false, false, false, false, false, false, false, false, false, false, false] (by kernel_rfl) rfl rfl (B2.out.cs HB.out) (fun hHeld => ?_)
    refine with_tabW twiT.tab7 twiT.bits7 (fun HT_ HW_ => ?_)
    generalize (World.drew _) = W7 at hHeld ⊢
    refine take_ (i := 0) (N := some 54) (v := ?_) (a' := ?_) #[true, false, false, false, false, false, false, false, false, false, false, false, false, false, false, false] rfl rfl (take_ofW HT_.out HW_.out (by kernel_rfl)) (fun _ _ _ h => h) (Or.inl ⟨by rfl, ?_⟩) hHeld ?_ ?_
    rotate_left
    · rintro w' ⟨s0, s1, s2, s3⟩
      go_simp
      with_reducible rfl
    rotate_left
    · simp only [Act.put, List.setIfInBounds_toArray, List.set_cons_zero, List.set_cons_succ, i64_w, i32_w]
      rfl
    refine pure_ (i := 2) (N := some 56) (v := ?_) (a' := ?_) #[true, false, true, false, false, false, false, false, false, false, false, false, false, false, false, false] rfl rfl (any_of HT_.out (by kernel_rfl)) (fun _ _ _ h => h) (Or.inl ⟨by rfl, ?_⟩) ?_ ?_
    rotate_left
    · intro w'
      go_simp
      with_reducible rfl
    rotate_left
    · simp only [Act.put, List.setIfInBounds_toArray, List.set_cons_zero, List.set_cons_succ, i64_w, i32_w]
      rfl
    refine pure_ (i := 3) (N := some 57) (v := ?_) (a' := ?_) #[true, false, true, true, false, false, false, false, false, false, false, false, false, false, false, false] rfl rfl (any_of HT_.out (by kernel_rfl)) (fun _ _ _ h => h) (Or.inl ⟨by rfl, ?_⟩) ?_ ?_
    rotate_left
    · intro w'
      go_simp
      with_reducible rfl
    rotate_left
    · simp only [Act.put, List.setIfInBounds_toArray, List.set_cons_zero, List.set_cons_succ, i64_w, i32_w]
      rfl
    refine pure_ (i := 4) (N := some 58) (v := ?_) (a' := ?_) #[true, false, true, true, true, false, false, false, false, false, false, false, false, false, false, false] rfl rfl (any_of HT_.out (by kernel_rfl)) (fun _ _ _ h => h) (Or.inl ⟨by rfl, ?_⟩) ?_ ?_
    rotate_left
    · intro w'
      go_simp
      with_reducible rfl
    rotate_left
    · simp only [Act.put, List.setIfInBounds_toArray, List.set_cons_zero, List.set_cons_succ, i64_w, i32_w]
      rfl
    refine pure_ (i := 5) (N := some 59) (v := ?_) (a' := ?_) #[true, false, true, true, true, true, false, false, false, false, false, false, false, false, false, false] rfl rfl (any_of HT_.out (by kernel_rfl)) (fun _ _ _ h => h) (Or.inl ⟨by rfl, ?_⟩) ?_ ?_
    rotate_left
    · intro w'
      go_simp
      with_reducible rfl
    rotate_left
    · simp only [Act.put, List.setIfInBounds_toArray, List.set_cons_zero, List.set_cons_succ, i64_w, i32_w]
      rfl
    refine pure_ (i := 6) (N := some 60) (v := ?_) (a' := ?_) #[true, false, true, true, true, true, true, false, false, false, false, false, false, false, false, false] rfl rfl (any_of HT_.out (by kernel_rfl)) (fun _ _ _ h => h) (Or.inl ⟨by rfl, ?_⟩) ?_ ?_
    rotate_left
    · intro w'
      go_simp
      with_reducible rfl
    rotate_left
    · simp only [Act.put, List.setIfInBounds_toArray, List.set_cons_zero, List.set_cons_succ, i64_w, i32_w]
      rfl
    refine one_ (i := 1) (N := some 55) #[true, true, true, true, true, true, true, false, false, false, false, false, false, false, false, false] rfl rfl (one_of HT_.out (by kernel_rfl)) (by decide) (fun K hK => ?_)
    refine goes_ Try.func20 (by kernel_rfl) rfl #[.agg #[.slice A0 l0.length c0, .slice A1 l1.length c1]] (by rfl) rfl rfl (by (try simp only [List.map_toArray, List.map_cons, List.map_nil]); first | done | rfl | (simp only [List.length_drop, List.length_take]; rfl)) ?_
    refine (comfitlaw02_Of.calls A0 c0 l0 A1 c1 l1 t0 t1 _ (Kd.C_below HR0.out hHeld.2.2.1) HC0.out (Kd.C_below HR1.out hHeld.2.2.1) HC1.out HOF.out).mono ?_
    rintro e wr1 ⟨v1, v2, rfl, ho0, ho1, hb⟩
    refine ⟨_, rfl, ?_⟩
    obtain ⟨A9, c9, rfl⟩ := Kd.R_slice ho0
    obtain ⟨A10, c10, rfl⟩ := Kd.R_slice ho1
    have HP0 := Aside0.mk (Kd.R_reads' ho0).2
    have HP1 := Aside0.mk (Kd.R_reads' ho1).2
    clear ho0 ho1
    refine hK.out _ _ (CS.below hHeld hb) (fun hHeld => ?_)
    clear hK K hb
    refine norm_ (a' := ?_) ?_ ?_
    rotate_left
    · show Act.put _ (some 55) _ = _
      simp only [Act.put, List.setIfInBounds_toArray, List.set_cons_zero, List.set_cons_succ, i64_w, i32_w]
      rfl
    refine one_ (i := 7) (N := some 61) #[true, true, true, true, true, true, true, true, false, false, false, false, false, false, false, false] rfl rfl (one_of HT_.out (by kernel_rfl)) (by decide) (fun K hK => ?_)
    refine goes_ Try.func34 (by kernel_rfl) rfl #[.slice A2 (it.take (ji : Int).toNat).length c2] (by rfl) rfl rfl (by (try simp only [List.map_toArray, List.map_cons, List.map_nil]); first | done | (rw [show (it.take (ji : Int).toNat).length = ji.toNat from (by rw [List.length_take]; have := HJ0.out; have := HJ1.out; omega)] <;> rfl) | (simp only [hji_]; rfl) | rfl | (simp only [List.length_drop, List.length_take]; rfl)) ?_
    refine (slices_Clone_bool_bool.calls A2 c2 (it.take (ji : Int).toNat) t2 _ (Kd.C_below HRJ.out hHeld.2.2.1) HCJ.out HCL.out).mono ?_
    rintro e wr2 ⟨v1, rfl, ho0, hb⟩
    refine ⟨_, rfl, ?_⟩
    obtain ⟨A11, c11, rfl⟩ := Kd.R_slice ho0
    have HI := Aside0.mk (Kd.R_reads' ho0).2
    replace HP0 := Aside0.mk (And.intro HP0.out.1 (Kd.C_below HP0.out.2 hb))
    replace HP1 := Aside0.mk (And.intro HP1.out.1 (Kd.C_below HP1.out.2 hb))
    clear ho0
    refine hK.out _ _ (CS.below hHeld hb) (fun hHeld => ?_)
    clear hK K hb
    refine norm_ (a' := ?_) ?_ ?_
    rotate_left
    · show Act.put _ (some 61) _ = _
      simp only [Act.put, List.setIfInBounds_toArray, List.set_cons_zero, List.set_cons_succ, i64_w, i32_w]
      rfl
    refine one_ (i := 8) (N := some 62) #[true, true, true, true, true, true, true, true, true, false, false, false, false, false, false, false] rfl rfl (one_of HT_.out (by kernel_rfl)) (by decide) (fun K hK => ?_)
    refine goes_ Try.func33 (by kernel_rfl) rfl #[.agg #[.slice A9 t0.length c9, .slice A10 t1.length c10], .slice A11 t2.length c11] (by rfl) rfl rfl (by (try simp only [List.map_toArray, List.map_cons, List.map_nil]); first | done | rfl | (simp only [List.length_drop, List.length_take]; rfl)) ?_
    refine (lots_Run.calls k A9 c9 t0 A10 c10 t1 A11 c11 t2 n ok e3 _ HP0.out.2 HP0.out.1 HP1.out.2 HP1.out.1 HI.out.2 HI.out.1 HRN.out).mono ?_
    rintro e wr3 ⟨rfl, hb⟩
    refine ⟨_, rfl, ?_⟩
    refine hK.out _ _ (CS.below hHeld hb) (fun hHeld => ?_)
    clear hK K hb
    refine norm_ (a' := ?_) ?_ ?_
    rotate_left
    · show Act.put _ (some 62) _ = _
      simp only [Act.put, List.setIfInBounds_toArray, List.set_cons_zero, List.set_cons_succ, i64_w, i32_w]
      rfl
    refine pure_ (i := 9) (N := some 53) (v := ?_) (a' := ?_) #[true, true, true, true, true, true, true, true, true, true, false, false, false, false, false, false] rfl rfl (any_of HT_.out (by kernel_rfl)) (fun _ _ _ h => h) (Or.inl ⟨by rfl, ?_⟩) ?_ ?_
    rotate_left
    · intro w'
      go_simp
      with_reducible rfl
    rotate_left
    · simp only [Act.put, List.setIfInBounds_toArray, List.set_cons_zero, List.set_cons_succ, i64_w, i32_w]
      rfl
    refine pure_ (i := 10) (N := some 63) (v := ?_) (a' := ?_) #[true, true, true, true, true, true, true, true, true, true, true, false, false, false, false, false] rfl rfl (any_of HT_.out (by kernel_rfl)) (fun _ _ _ h => h) (Or.inl ⟨by rfl, ?_⟩) ?_ ?_
    rotate_left
    · intro w'
      go_simp
      with_reducible rfl
    rotate_left
    · simp only [Act.put, List.setIfInBounds_toArray, List.set_cons_zero, List.set_cons_succ, i64_w, i32_w]
      rfl
    refine pure_ (i := 11) (N := some 64) (v := ?_) (a' := ?_) #[true, true, true, true, true, true, true, true, true, true, true, true, false, false, false, false] rfl rfl (any_of HT_.out (by kernel_rfl)) (fun _ _ _ h => h) (Or.inl ⟨by rfl, ?_⟩) ?_ ?_
    rotate_left
    · intro w'
      go_simp
      with_reducible rfl
    rotate_left
    · simp only [Act.put, List.setIfInBounds_toArray, List.set_cons_zero, List.set_cons_succ, i64_w, i32_w]
      rfl
    refine pure_ (i := 12) (N := some 65) (v := ?_) (a' := ?_) #[true, true, true, true, true, true, true, true, true, true, true, true, true, false, false, false] rfl rfl (any_of HT_.out (by kernel_rfl)) (fun _ _ _ h => h) (Or.inl ⟨by rfl, ?_⟩) ?_ ?_
    rotate_left
    · intro w'
      go_simp
      with_reducible rfl
    rotate_left
    · simp only [Act.put, List.setIfInBounds_toArray, List.set_cons_zero, List.set_cons_succ, i64_w, i32_w]
      rfl
    refine pure_ (i := 13) (N := some 8) (v := ?_) (a' := ?_) #[true, true, true, true, true, true, true, true, true, true, true, true, true, true, false, false] rfl rfl (any_of HT_.out (by kernel_rfl)) (fun _ _ _ h => h) (Or.inl ⟨by rfl, ?_⟩) ?_ ?_
    rotate_left
    · intro w'
      go_simp
      with_reducible rfl
    rotate_left
    · simp only [Act.put, List.setIfInBounds_toArray, List.set_cons_zero, List.set_cons_succ, i64_w, i32_w]
      rfl
    refine pure_ (i := 14) (N := some 9) (v := ?_) (a' := ?_) #[true, true, true, true, true, true, true, true, true, true, true, true, true, true, true, false] rfl rfl (any_of HT_.out (by kernel_rfl)) (fun _ _ _ h => h) (Or.inl ⟨by rfl, ?_⟩) ?_ ?_
    rotate_left
    · intro w'
      go_simp
      with_reducible rfl
    rotate_left
    · simp only [Act.put, List.setIfInBounds_toArray, List.set_cons_zero, List.set_cons_succ, i64_w, i32_w]
      rfl
    refine pure_ (i := 15) (N := some 6) (v := ?_) (a' := ?_) #[true, true, true, true, true, true, true, true, true, true, true, true, true, true, true, true] rfl rfl (any_of HT_.out (by kernel_rfl)) (fun _ _ _ h => h) (Or.inl ⟨by rfl, ?_⟩) ?_ ?_
    rotate_left
    · intro w'
      go_simp
      with_reducible rfl
    rotate_left
    · simp only [Act.put, List.setIfInBounds_toArray, List.set_cons_zero, List.set_cons_succ, i64_w, i32_w]
      rfl
    refine done_ (done_of HT_.out (by kernel_rfl)) ?_
    have HS7 := Aside0.mk hHeld
    clear hHeld
    replace B7 := Aside0.mk (B7.out.below HS7.out.2.2.2)
    replace HX0 := Aside0.mk (And.intro HX0.out.1 (Kd.C_below HX0.out.2 HS7.out.2.2.2))
    replace HX1 := Aside0.mk (And.intro HX1.out.1 (Kd.C_below HX1.out.2 HS7.out.2.2.2))
    go_wp2_with fail
    refine start_ (n := 15) (S := CS w5.heap.size (.slice A7 x0.length c7) (.slice A8 x1.length c8) w wr3) (ds := []) #[false, false, false, false, false, false, false, false, false, false, false, false, false, false, false] (by kernel_rfl) rfl rfl (B7.out.cs HS7.out.2.2.1) (fun hHeld => ?_)
    refine with_tabW twiT.tab8 twiT.bits8 (fun HT_ HW_ => ?_)
    generalize (World.drew _) = W8 at hHeld ⊢
    refine take_ (i := 0) (N := some 67) (v := ?_) (a' := ?_) #[true, false, false, false, false, false, false, false, false, false, false, false, false, false, false] rfl rfl (take_ofW HT_.out HW_.out (by kernel_rfl)) (fun _ _ _ h => h) (Or.inl ⟨by rfl, ?_⟩) hHeld ?_ ?_
    rotate_left
    · rintro w' ⟨s0, s1, s2, s3⟩
      go_simp
      with_reducible rfl
    rotate_left
    · simp only [Act.put, List.setIfInBounds_toArray, List.set_cons_zero, List.set_cons_succ, i64_w, i32_w]
      rfl
    refine pure_ (i := 1) (N := some 68) (v := ?_) (a' := ?_) #[true, true, false, false, false, false, false, false, false, false, false, false, false, false, false] rfl rfl (any_of HT_.out (by kernel_rfl)) (fun _ _ _ h => h) (Or.inl ⟨by rfl, ?_⟩) ?_ ?_
    rotate_left
    · intro w'
      go_simp
      with_reducible rfl
    rotate_left
    · simp only [Act.put, List.setIfInBounds_toArray, List.set_cons_zero, List.set_cons_succ, i64_w, i32_w]
      rfl
    refine pure_ (i := 2) (N := some 69) (v := ?_) (a' := ?_) #[true, true, true, false, false, false, false, false, false, false, false, false, false, false, false] rfl rfl (any_of HT_.out (by kernel_rfl)) (fun _ _ _ h => h) (Or.inl ⟨by rfl, ?_⟩) ?_ ?_
    rotate_left
    · intro w'
      go_simp
      with_reducible rfl
    rotate_left
    · simp only [Act.put, List.setIfInBounds_toArray, List.set_cons_zero, List.set_cons_succ, i64_w, i32_w]
      rfl
    refine pure_ (i := 3) (N := some 70) (v := ?_) (a' := ?_) #[true, true, true, true, false, false, false, false, false, false, false, false, false, false, false] rfl rfl (any_of HT_.out (by kernel_rfl)) (fun _ _ _ h => h) (Or.inl ⟨by rfl, ?_⟩) ?_ ?_
    rotate_left
    · intro w'
      go_simp
      with_reducible rfl
    rotate_left
    · simp only [Act.put, List.setIfInBounds_toArray, List.set_cons_zero, List.set_cons_succ, i64_w, i32_w]
      rfl
    refine pure_ (i := 4) (N := some 71) (v := ?_) (a' := ?_) #[true, true, true, true, true, false, false, false, false, false, false, false, false, false, false] rfl rfl (any_of HT_.out (by kernel_rfl)) (fun _ _ _ h => h) (Or.inl ⟨by rfl, ?_⟩) ?_ ?_
    rotate_left
    · intro w'
      go_simp
      with_reducible rfl
    rotate_left
    · simp only [Act.put, List.setIfInBounds_toArray, List.set_cons_zero, List.set_cons_succ, i64_w, i32_w]
      rfl
    refine pure_ (i := 5) (N := some 72) (v := ?_) (a' := ?_) #[true, true, true, true, true, true, false, false, false, false, false, false, false, false, false] rfl rfl (any_of HT_.out (by kernel_rfl)) (fun _ _ _ h => h) (Or.inl ⟨by rfl, ?_⟩) ?_ ?_
    rotate_left
    · intro w'
      go_simp
      with_reducible rfl
    rotate_left
    · simp only [Act.put, List.setIfInBounds_toArray, List.set_cons_zero, List.set_cons_succ, i64_w, i32_w]
      rfl
    refine one_ (i := 6) (N := some 73) #[true, true, true, true, true, true, true, false, false, false, false, false, false, false, false] rfl rfl (one_of HT_.out (by kernel_rfl)) (by decide) (fun K hK => ?_)
    refine goes_ Try.func34 (by kernel_rfl) rfl #[.slice A2 (it.take (ji : Int).toNat).length c2] (by rfl) rfl rfl (by (try simp only [List.map_toArray, List.map_cons, List.map_nil]); first | done | (rw [show (it.take (ji : Int).toNat).length = ji.toNat from (by rw [List.length_take]; have := HJ0.out; have := HJ1.out; omega)] <;> rfl) | (simp only [hji_]; rfl) | rfl | (simp only [List.length_drop, List.length_take]; rfl)) ?_
    refine (slices_Clone_bool_bool.calls A2 c2 (it.take (ji : Int).toNat) t2 _ (Kd.C_below HRJ.out hHeld.2.2.1) HCJ.out HCL.out).mono ?_
    rintro e wr1 ⟨v1, rfl, ho0, hb⟩
    refine ⟨_, rfl, ?_⟩
    obtain ⟨A12, c12, rfl⟩ := Kd.R_slice ho0
    have HI2 := Aside0.mk (Kd.R_reads' ho0).2
    have HX0' := Aside0.mk (And.intro HX0.out.1 (Kd.C_below HX0.out.2 (below_step hHeld.2.2.2 hb)))
    have HX1' := Aside0.mk (And.intro HX1.out.1 (Kd.C_below HX1.out.2 (below_step hHeld.2.2.2 hb)))
    clear ho0
    refine hK.out _ _ (CS.below hHeld hb) (fun hHeld => ?_)
    clear hK K hb
    refine norm_ (a' := ?_) ?_ ?_
    rotate_left
    · show Act.put _ (some 73) _ = _
      simp only [Act.put, List.setIfInBounds_toArray, List.set_cons_zero, List.set_cons_succ, i64_w, i32_w]
      rfl
    refine one_ (i := 7) (N := some 74) #[true, true, true, true, true, true, true, true, false, false, false, false, false, false, false] rfl rfl (one_of HT_.out (by kernel_rfl)) (by decide) (fun K hK => ?_)
    refine goes_ Try.func33 (by kernel_rfl) rfl #[.agg #[.slice A7 x0.length c7, .slice A8 x1.length c8], .slice A12 t2.length c12] (by rfl) rfl rfl (by (try simp only [List.map_toArray, List.map_cons, List.map_nil]); first | done | rfl | (simp only [List.length_drop, List.length_take]; rfl)) ?_
    refine (lots_Run.calls k A7 c7 x0 A8 c8 x1 A12 c12 t2 n ok e3 _ HX0'.out.2 HX0'.out.1 HX1'.out.2 HX1'.out.1 HI2.out.2 HI2.out.1 HRX.out).mono ?_
    rintro e wr2 ⟨rfl, hb⟩
    refine ⟨_, rfl, ?_⟩
    refine hK.out _ _ (CS.below hHeld hb) (fun hHeld => ?_)
    clear hK K hb
    refine norm_ (a' := ?_) ?_ ?_
    rotate_left
    · show Act.put _ (some 74) _ = _
      simp only [Act.put, List.setIfInBounds_toArray, List.set_cons_zero, List.set_cons_succ, i64_w, i32_w]
      rfl
    refine pure_ (i := 8) (N := some 66) (v := ?_) (a' := ?_) #[true, true, true, true, true, true, true, true, true, false, false, false, false, false, false] rfl rfl (any_of HT_.out (by kernel_rfl)) (fun _ _ _ h => h) (Or.inl ⟨by rfl, ?_⟩) ?_ ?_
    rotate_left
    · intro w'
      go_simp
      with_reducible rfl
    rotate_left
    · simp only [Act.put, List.setIfInBounds_toArray, List.set_cons_zero, List.set_cons_succ, i64_w, i32_w]
      rfl
    refine pure_ (i := 9) (N := some 75) (v := ?_) (a' := ?_) #[true, true, true, true, true, true, true, true, true, true, false, false, false, false, false] rfl rfl (any_of HT_.out (by kernel_rfl)) (fun _ _ _ h => h) (Or.inl ⟨by rfl, ?_⟩) ?_ ?_
    rotate_left
    · intro w'
      go_simp
      with_reducible rfl
    rotate_left
    · simp only [Act.put, List.setIfInBounds_toArray, List.set_cons_zero, List.set_cons_succ, i64_w, i32_w]
      rfl
    refine pure_ (i := 10) (N := some 76) (v := ?_) (a' := ?_) #[true, true, true, true, true, true, true, true, true, true, true, false, false, false, false] rfl rfl (any_of HT_.out (by kernel_rfl)) (fun _ _ _ h => h) (Or.inl ⟨by rfl, ?_⟩) ?_ ?_
    rotate_left
    · intro w'
      go_simp
      with_reducible rfl
    rotate_left
    · simp only [Act.put, List.setIfInBounds_toArray, List.set_cons_zero, List.set_cons_succ, i64_w, i32_w]
      rfl
    refine pure_ (i := 11) (N := some 77) (v := ?_) (a' := ?_) #[true, true, true, true, true, true, true, true, true, true, true, true, false, false, false] rfl rfl (any_of HT_.out (by kernel_rfl)) (fun _ _ _ h => h) (Or.inl ⟨by rfl, ?_⟩) ?_ ?_
    rotate_left
    · intro w'
      go_simp
      with_reducible rfl
    rotate_left
    · simp only [Act.put, List.setIfInBounds_toArray, List.set_cons_zero, List.set_cons_succ, i64_w, i32_w]
      rfl
    refine pure_ (i := 12) (N := some 10) (v := ?_) (a' := ?_) #[true, true, true, true, true, true, true, true, true, true, true, true, true, false, false] rfl rfl (any_of HT_.out (by kernel_rfl)) (fun _ _ _ h => h) (Or.inl ⟨by rfl, ?_⟩) ?_ ?_
    rotate_left
    · intro w'
      go_simp
      with_reducible rfl
    rotate_left
    · simp only [Act.put, List.setIfInBounds_toArray, List.set_cons_zero, List.set_cons_succ, i64_w, i32_w]
      rfl
    refine pure_ (i := 13) (N := some 11) (v := ?_) (a' := ?_) #[true, true, true, true, true, true, true, true, true, true, true, true, true, true, false] rfl rfl (any_of HT_.out (by kernel_rfl)) (fun _ _ _ h => h) (Or.inl ⟨by rfl, ?_⟩) ?_ ?_
    rotate_left
    · intro w'
      go_simp
      with_reducible rfl
    rotate_left
    · simp only [Act.put, List.setIfInBounds_toArray, List.set_cons_zero, List.set_cons_succ, i64_w, i32_w]
      rfl
    refine pure_ (i := 14) (N := some 12) (v := ?_) (a' := ?_) #[true, true, true, true, true, true, true, true, true, true, true, true, true, true, true] rfl rfl (any_of HT_.out (by kernel_rfl)) (fun _ _ _ h => h) (Or.inl ⟨by rfl, ?_⟩) ?_ ?_
    rotate_left
    · intro w'
      go_simp
      with_reducible rfl
    rotate_left
    · simp only [Act.put, List.setIfInBounds_toArray, List.set_cons_zero, List.set_cons_succ, i64_w, i32_w]
      rfl
    refine done_ (done_of HT_.out (by kernel_rfl)) ?_
    have HS8 := Aside0.mk hHeld
    clear hHeld
    rcases he3 with rfl | rfl
    · go_wp2_with fail
      refine (comfitlaw02_awake.calls k true _ HAW.out).mono ?_
      rintro e w9 ⟨rfl, hb⟩
      go_wp2_with fail
      go_ret
      exact ⟨by simp, below_step HS8.out.2.2.1 hb⟩
    · go_wp2_with fail
      refine (comfitlaw02_awake.calls k true _ HAW.out).mono ?_
      rintro e w9 ⟨rfl, hb⟩
      go_wp2_with fail
      go_ret
      exact ⟨by simp, below_step HS8.out.2.2.1 hb⟩
end Go.Proofs.Ytdppnmfljfdhaaa.X
