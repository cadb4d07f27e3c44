/- The walk through the law LotsTurned, which hands a plan away and reads it afterwards: told by the results that its calls are known to have. -/
import Derived.Test.YtdppnmfljfdhaaaHTwice
import Derived.Test.YtdppnmfljfdhaaaHTaken
import Derived.Test.YtdppnmfljfdhaaaXL
import Derived.Test.YtdppnmfljfdhaaaXLO
import Derived.Test.YtdppnmfljfdhaaaXR
import Derived.Test.YtdppnmfljfdhaaaXS
import Derived.Test.YtdppnmfljfdhaaaXcomfitlaw02awake
import Derived.Test.YtdppnmfljfdhaaaXlotsRun
import Derived.Test.YtdppnmfljfdhaaaXlotsTurn
set_option linter.unusedVariables false
set_option linter.unusedSimpArgs false
namespace Go.Proofs.Ytdppnmfljfdhaaa.X
open Go.RowKit Go.Proofs.YtdppnmfljfdhaaaW.PrintWords Go.Proofs.YtdppnmfljfdhaaaW.PrintLast Go.Proofs.YtdppnmfljfdhaaaW.PrintMore
attribute [local go_sem] max2_int min2_int max_two min_two max_three min_three max_four min_four
attribute [local go_sem] Oper.semAt_some

/-- Two variables of two cells, and what lay before. -/
def CC (g : Nat) (u0 u1 : Value) (g' : Nat) (u2 u3 : Value) (w w7 W : World) : Prop := W.cell? ⟨g, 0, none⟩ = some u0 ∧ W.cell? ⟨g, 1, none⟩ = some u1 ∧ W.cell? ⟨g', 0, none⟩ = some u2 ∧ W.cell? ⟨g', 1, none⟩ = some u3 ∧ Below w.heap.size w W ∧ Below w7.heap.size w7 W
theorem CC.below {g g' : Nat} {u0 u1 u2 u3 : Value} {w w7 W W1 : World} (h : CC g u0 u1 g' u2 u3 w w7 W) (hb : Below W.heap.size W W1) : CC g u0 u1 g' u2 u3 w w7 W1 :=
  ⟨(hb.cell (World.block_lt_of_cell? W _ h.1)).trans h.1, (hb.cell (World.block_lt_of_cell? W _ h.2.1)).trans h.2.1, (hb.cell (World.block_lt_of_cell? W _ h.2.2.1)).trans h.2.2.1, (hb.cell (World.block_lt_of_cell? W _ h.2.2.2.1)).trans h.2.2.2.1, below_step h.2.2.2.2.1 hb, below_step h.2.2.2.2.2 hb⟩
theorem Box.cc {g g' : Nat} {u0 u1 u2 u3 : Value} {t t' : TypeId} {w0 w0' w W W1 : World} (h : Box w0 g #[u0, u1] t W) (h' : Box w0' g' #[u2, u3] t' W) (hb : Below w.heap.size w W) (h1 : Below W.heap.size W W1) : CC g u0 u1 g' u2 u3 w W W1 :=
  ⟨(h.below h1).cell 0 rfl, (h.below h1).cell 1 rfl, (h'.below h1).cell 0 rfl, (h'.below h1).cell 1 rfl, below_step hb h1, h1⟩
theorem meas_down (n j : Nat) (x : Int) (hx : x = ((j + 1 : Nat) : Int)) (h : j < n) : n - (intOf (.int .i64 x)).toNat < n - (intOf (.int .i64 (j : Int))).toNat := by
  subst hx
  simp only [intOf, Int.toNat_natCast]
  omega
def tudT.T4 : Bool × List (List Nat × List Nat) := (true, [([], []), ([0], [0]), ([], []), ([], []), ([3], [3]), ([4], [4]), ([2, 5], [2, 5]), ([6, 1], [6]), ([1, 7, 7], [1, 7]), ([8], [8]), ([9], [9]), ([9], [9]), ([9], [9]), ([10, 8, 0, 1, 2, 3, 4, 5, 6, 7, 8, 9, 10], [10]), ([11, 13, 0, 1, 2, 3, 4, 5, 6, 7, 8, 9, 10, 11, 13], [11]), ([12, 14, 0, 1, 2, 3, 4, 5, 6, 7, 8, 9, 10, 11, 12, 13, 14], [12])])
def tudT.B4 : List Nat := [0, 1, 0, 0, 8, 24, 60, 127, 255, 511, 1023, 1023, 1023, 2047, 12287, 32767]
theorem tudT.tab4 : rtab .any (opsOf Try.f9 4) = tudT.T4 := by kernel_rfl
theorem tudT.bits4 : waitsOk tudT.T4.2 tudT.B4 = true := by kernel_rfl
def tudT.T16 : Bool × List (List Nat × List Nat) := (true, [([], []), ([0], [0]), ([], []), ([2, 1], [2]), ([1, 3, 3], [1, 3]), ([4], [4]), ([5], [5]), ([5], [5]), ([], []), ([8, 6, 4, 0, 1, 2, 3, 4, 5, 6, 8], [6, 8]), ([7, 9, 0, 1, 2, 3, 4, 5, 6, 7, 8, 9], [7])])
def tudT.B16 : List Nat := [0, 1, 0, 7, 15, 31, 63, 63, 0, 383, 1023]
theorem tudT.tab16 : rtab .any (opsOf Try.f9 16) = tudT.T16 := by kernel_rfl
theorem tudT.bits16 : waitsOk tudT.T16.2 tudT.B16 = true := by kernel_rfl
set_option maxRecDepth 100000 in
set_option maxHeartbeats 8000000 in
theorem LotsTurned_calls (k : Nat) (A0 : Option Addr) (c0 : Nat) (l0 : List Int) (A1 : Option Addr) (c1 : Nat) (l1 : List Int) (y o : Int) (A2 : Option Addr) (c2 : Nat) (it : List Bool) (t0 t1 : List Int) (t2 : List Bool) (q0 q1 : List Int) (e0 : Int) (w : World)
    (hr0 : Kd.C (Kd.int .i64) w A0 l0.length l0) (hc0 : l0.length ≤ c0) (hr1 : Kd.C (Kd.int .i64) w A1 l1.length l1) (hc1 : l1.length ≤ c1) (hr2 : Kd.C Kd.bool w A2 it.length it) (hc2 : it.length ≤ c2)
    (hof : comfitlaw02_Of.f l0 l1 = some (t0, t1)) (hturn : lots_Turn.f k t0 t1 = some (q0, q1, e0)) (haw : comfitlaw02_awake.f k = some true)
    (h : e0 = 2 ∨ (e0 = 0 ∧ comfitref02_Valid.f k l0 l1 = some true ∧ comfitref02_Valid.f k q0 q1 = some true ∧ q0.length = l0.length ∧ slices_Clone_bool_bool.f (it.take (mn (it.length : Int) 15).toNat) = some t2 ∧
      ∃ (u0 u1 : List Int) (n : Int) (ok : Bool) (m : Int) (is : Bool) (e3 : Int) (okc : Bool), lots_Run.f k t0 t1 t2 = some (n, ok, e3) ∧ comfitlaw02_Of.f q0 q1 = some (u0, u1) ∧ lots_Run.f k u0 u1 ((it.take (mn (it.length : Int) 15).toNat).map (fun x => !x)) = some (m, is, e3) ∧ ((e3 = 0 ∧ n = m ∧ is = !ok) ∨ e3 = 2) ∧
        comfitref02_Is.f y o = some okc ∧ (okc = false ∨ ∃ (x1 x2 y1 y2 : Int), comfitlaw02_chance.f y o = some (y, o) ∧ lots_Taken.f k t0 t1 y o = some (x1, x2, 0) ∧ lots_Taken.f k q0 q1 (wrap64 (o - y)) o = some (y1, y2, 0) ∧ comfitlaw02_unit.f x1 x2 = some true ∧ comfitlaw02_unit.f y1 y2 = some true ∧ x2 = y2 ∧ wrap64 (x1 + y1) = x2))) :
    Calls Try.prog 9 #[.agg #[.slice A0 l0.length c0, .slice A1 l1.length c1], .agg #[.int .i64 y, .int .i64 o], .slice A2 it.length c2] w fun e w' => e = .returned (.bool true) ∧ Below w.heap.size w w' := by
  have hu26 := Try.underlying26
  have hu34 := Try.underlying34
  have hu28 := Try.underlying28
  have hu24 := Try.underlying24
  have hu32 := Try.underlying32
  have HR0 := Aside0.mk hr0
  have HC0 := Aside0.mk hc0
  have HR1 := Aside0.mk hr1
  have HC1 := Aside0.mk hc1
  have HR2 := Aside0.mk hr2
  have HC2 := Aside0.mk hc2
  have HOF := Aside0.mk hof
  have HT := Aside0.mk hturn
  have HAW := Aside0.mk haw
  clear hr0 hc0 hr1 hc1 hr2 hc2 hof hturn haw
  have HB := Aside0.mk (below_alloc (below_alloc (Below.refl w.heap.size w) (.cells #[.slice A0 l0.length c0, .slice A1 l1.length c1] 24)) (.cells #[.int .i64 y, .int .i64 o] 26))
  have B2 := Aside0.mk ((Box.new (Below.refl w.heap.size w) #[.slice A0 l0.length c0, .slice A1 l1.length c1] 24).alloc (.cells #[.int .i64 y, .int .i64 o] 26))
  have B4 := Aside0.mk (Box.new (below_alloc (Below.refl w.heap.size w) (.cells #[.slice A0 l0.length c0, .slice A1 l1.length c1] 24)) #[.int .i64 y, .int .i64 o] 26)
  rw [World.size_alloc] at B4
  have p0 := B2.out.cell 0 rfl
  have p1 := B2.out.cell 1 rfl
  go_enter Try.func9, Try.ntmps9
  go_wp2_with fail
  refine (comfitlaw02_Of.calls A0 c0 l0 A1 c1 l1 t0 t1 _ (Kd.C_below HR0.out HB.out) HC0.out (Kd.C_below HR1.out HB.out) HC1.out HOF.out).mono ?_
  rintro e w1 ⟨v1, v2, rfl, ho0, ho1, hb⟩
  obtain ⟨A3, c3, rfl⟩ := Kd.R_slice ho0
  obtain ⟨A4, c4, rfl⟩ := Kd.R_slice ho1
  replace HB := Aside0.mk (below_step HB.out hb)
  replace B2 := Aside0.mk (B2.out.below hb)
  replace B4 := Aside0.mk (B4.out.below hb)
  have HO0 := Aside0.mk ho0
  have HO1 := Aside0.mk ho1
  clear p0 p1 hb ho0 ho1
  go_wp2_with fail
  refine (lots_Turn.calls k A3 c3 t0 A4 c4 t1 q0 q1 e0 _ (Kd.R_reads' HO0.out).2.2 (Kd.R_reads' HO0.out).2.1 (Kd.R_reads' HO1.out).2.2 (Kd.R_reads' HO1.out).2.1 HT.out).mono ?_
  rintro e w2 ⟨v1, v2, rfl, hq0, hq1, hb⟩
  obtain ⟨A5, c5, rfl⟩ := Kd.R_slice hq0
  obtain ⟨A6, c6, rfl⟩ := Kd.R_slice hq1
  replace HB := Aside0.mk (below_step HB.out hb)
  replace B2 := Aside0.mk (B2.out.below hb)
  replace B4 := Aside0.mk (B4.out.below hb)
  have HQ0 := Aside0.mk (Kd.R_reads' hq0).2
  have HQ1 := Aside0.mk (Kd.R_reads' hq1).2
  clear hb hq0 hq1 HO0 HO1 HT
  have B5n := Aside0.mk (Box.new HB.out #[.slice none 0 0, .slice none 0 0] 32)
  have x0_ := B5n.out.cell 0 rfl
  have x1_ := B5n.out.cell 1 rfl
  have f0_ := B5n.out.frozen 0
  have f1_ := B5n.out.frozen 1
  have HN := Aside0.mk (box2 HB.out (.slice A5 q0.length c5) (.slice A6 q1.length c6) 32)
  rcases h with rfl | ⟨rfl, hv, hvq, hql, hcl, u0, u1, n, ok, m, is, e3, okc, hr, hofq, hrx, he3, hokc, hch⟩
  · go_wp2_with fail
    refine (comfitlaw02_awake.calls k true _ HAW.out).mono ?_
    rintro e w3 ⟨rfl, hb⟩
    go_wp2_with fail
    go_ret
    exact ⟨rfl, below_step (below_step HB.out HN.out.1) hb⟩
  · have HV := Aside0.mk hv
    have HVQ := Aside0.mk hvq
    have HCL := Aside0.mk hcl
    have HRN := Aside0.mk hr
    have HRX := Aside0.mk hrx
    have HOFQ := Aside0.mk hofq
    have HQL := Aside0.mk hql
    have HOK := Aside0.mk hokc
    have HE3 := Aside0.mk he3
    have HCH := Aside0.mk hch
    clear hv hvq hql hcl hr hofq hrx he3 hokc hch
    have b2_ := B2.out.below HN.out.1
    have p0 := b2_.cell 0 rfl
    have p1 := b2_.cell 1 rfl
    clear b2_
    go_wp2_with fail
    refine (comfitref02_Valid.calls k A0 c0 l0 A1 c1 l1 true _ (Kd.C_below HR0.out (below_step HB.out HN.out.1)) HC0.out (Kd.C_below HR1.out (below_step HB.out HN.out.1)) HC1.out HV.out).mono ?_
    rintro e w4 ⟨rfl, hb⟩
    have h24 := below_step HN.out.1 hb
    replace B2 := Aside0.mk (B2.out.below h24)
    replace B4 := Aside0.mk (B4.out.below h24)
    have B7 := Aside0.mk (HN.out.2.below hb)
    replace HQ0 := Aside0.mk (And.intro HQ0.out.1 (Kd.C_below HQ0.out.2 h24))
    replace HQ1 := Aside0.mk (And.intro HQ1.out.1 (Kd.C_below HQ1.out.2 h24))
    replace HB := Aside0.mk (below_step HB.out h24)
    clear h24 hb p0 p1 x0_ x1_ f0_ f1_ HN B5n
    have p0 := B7.out.cell 0 rfl
    have p1 := B7.out.cell 1 rfl
    go_wp2_with fail
    refine (own_calls A5 A6 q0.length c5 q1.length c6 _).mono ?_
    rintro e w5 ⟨rfl, hb⟩
    replace B2 := Aside0.mk (B2.out.below hb)
    replace B4 := Aside0.mk (B4.out.below hb)
    replace B7 := Aside0.mk (B7.out.below hb)
    replace HQ0 := Aside0.mk (And.intro HQ0.out.1 (Kd.C_below HQ0.out.2 hb))
    replace HQ1 := Aside0.mk (And.intro HQ1.out.1 (Kd.C_below HQ1.out.2 hb))
    replace HB := Aside0.mk (below_step HB.out hb)
    clear hb p0 p1
    go_wp2_with fail
    refine (comfitref02_Valid.calls k A5 c5 q0 A6 c6 q1 true _ HQ0.out.2 HQ0.out.1 HQ1.out.2 HQ1.out.1 HVQ.out).mono ?_
    rintro e w6 ⟨rfl, hb⟩
    replace B2 := Aside0.mk (B2.out.below hb)
    replace B4 := Aside0.mk (B4.out.below hb)
    replace B7 := Aside0.mk (B7.out.below hb)
    replace HQ0 := Aside0.mk (And.intro HQ0.out.1 (Kd.C_below HQ0.out.2 hb))
    replace HQ1 := Aside0.mk (And.intro HQ1.out.1 (Kd.C_below HQ1.out.2 hb))
    replace HB := Aside0.mk (below_step HB.out hb)
    clear hb
    have p0 := B2.out.cell 0 rfl
    have p1 := B2.out.cell 1 rfl
    have s0_ := B7.out.cell 0 rfl
    have s1_ := B7.out.cell 1 rfl
    have hne : ((q0.length : Int) != (l0.length : Int)) = false := by rw [HQL.out]; simp
    obtain ⟨ji, hji⟩ : ∃ j_ : Int, (mn (it.length : Int) 15) = j_ := ⟨_, rfl⟩
    have hji_ : (if 15 < (it.length : Int) then 15 else (it.length : Int)) = ji := hji
    have hj0 : 0 ≤ ji := by rw [← hji]; unfold mn; split <;> omega
    have hj1 : ji ≤ (it.length : Int) := by rw [← hji]; unfold mn; split <;> omega
    rw [hji] at HCL HRX
    have hj15 : ji ≤ 15 := by rw [← hji]; unfold mn; split <;> omega
    obtain ⟨N, hN⟩ : ∃ N : Nat, ji = (N : Int) := ⟨ji.toNat, by omega⟩
    subst hN
    have hNl : N ≤ it.length := by omega
    obtain ⟨i012, hi012, _, hsz12, _⟩ := info_parts info4
    obtain ⟨hcut12, hA12, hC12⟩ := print_take_of (P := Try.prog) Value.bool false 45 4 .i64 Try.underlying45 hi012 hsz12 A2 c2 it (N : Int) hj0 hj1 HC2.out
    have HRJ := Aside0.mk (Kd.C_of_reads (h1 := fun _ => rfl) (hA12 _ (Kd.reads_of_C HR2.out)))
    have HCJ := Aside0.mk hC12
    clear hA12 hC12 hi012 hsz12
    rw [Int.toNat_natCast] at HRJ HRX HCJ HCL
    obtain ⟨s, hs⟩ : ∃ s, s = it.take N := ⟨_, rfl⟩
    have hsl : s.length = N := by rw [hs, List.length_take]; omega
    rw [← hs] at HRJ HRX HCJ HCL
    clear hs hcut12
    subst hsl
    have hmx : max (s.length : Int) 0 = (s.length : Int) := by omega
    have hsc : (s.length ≤ c2) = True := eq_true HCJ.out
    have HSB : Aside0 (s.length < 140737488355328) := ⟨by omega⟩
    clear hj15
    have HJ0 := Aside0.mk hj0
    have HJ1 := Aside0.mk hj1
    have c5b0 := eq_true hj0
    have c6b0 := eq_true hj1
    have c6b1 : decide ((s.length : Int) ≤ (it.length : Int)) = true := decide_eq_true hj1
    clear hj0 hj1 hNl
    go_wp2_with fail
    refine start_ (n := 16) (S := CS w.heap.size (.slice A0 l0.length c0) (.slice A1 l1.length c1) w w6) (ds := []) #[false, false, false, false, false, false, false, false, false, false, false, false, false, false, false, false] (by kernel_rfl) rfl rfl (B2.out.cs HB.out) (fun hHeld => ?_)
    refine with_tabW tudT.tab4 tudT.bits4 (fun HT_ HW_ => ?_)
    generalize (World.drew _) = W7 at hHeld ⊢
    refine take_ (i := 0) (N := some 55) (v := ?_) (a' := ?_) #[true, false, false, false, false, false, false, false, false, false, false, false, false, false, false, false] rfl rfl (take_ofW HT_.out HW_.out (by kernel_rfl)) (fun _ _ _ h => h) (Or.inl ⟨by rfl, ?_⟩) hHeld ?_ ?_
    rotate_left
    · rintro w' ⟨s0, s1, s2, s3⟩
      go_simp
      with_reducible rfl
    rotate_left
    · simp only [Act.put, List.setIfInBounds_toArray, List.set_cons_zero, List.set_cons_succ, i64_w, i32_w]
      rfl
    refine pure_ (i := 2) (N := some 57) (v := ?_) (a' := ?_) #[true, false, true, false, false, false, false, false, false, false, false, false, false, false, false, false] rfl rfl (any_of HT_.out (by kernel_rfl)) (fun _ _ _ h => h) (Or.inl ⟨by rfl, ?_⟩) ?_ ?_
    rotate_left
    · intro w'
      go_simp
      with_reducible rfl
    rotate_left
    · simp only [Act.put, List.setIfInBounds_toArray, List.set_cons_zero, List.set_cons_succ, i64_w, i32_w]
      rfl
    refine pure_ (i := 3) (N := some 58) (v := ?_) (a' := ?_) #[true, false, true, true, false, false, false, false, false, false, false, false, false, false, false, false] rfl rfl (any_of HT_.out (by kernel_rfl)) (fun _ _ _ h => h) (Or.inl ⟨by rfl, ?_⟩) ?_ ?_
    rotate_left
    · intro w'
      go_simp
      with_reducible rfl
    rotate_left
    · simp only [Act.put, List.setIfInBounds_toArray, List.set_cons_zero, List.set_cons_succ, i64_w, i32_w]
      rfl
    refine pure_ (i := 4) (N := some 59) (v := ?_) (a' := ?_) #[true, false, true, true, true, false, false, false, false, false, false, false, false, false, false, false] rfl rfl (any_of HT_.out (by kernel_rfl)) (fun _ _ _ h => h) (Or.inl ⟨by rfl, ?_⟩) ?_ ?_
    rotate_left
    · intro w'
      go_simp
      with_reducible rfl
    rotate_left
    · simp only [Act.put, List.setIfInBounds_toArray, List.set_cons_zero, List.set_cons_succ, i64_w, i32_w]
      rfl
    refine pure_ (i := 5) (N := some 60) (v := ?_) (a' := ?_) #[true, false, true, true, true, true, false, false, false, false, false, false, false, false, false, false] rfl rfl (any_of HT_.out (by kernel_rfl)) (fun _ _ _ h => h) (Or.inl ⟨by rfl, ?_⟩) ?_ ?_
    rotate_left
    · intro w'
      go_simp
      with_reducible rfl
    rotate_left
    · simp only [Act.put, List.setIfInBounds_toArray, List.set_cons_zero, List.set_cons_succ, i64_w, i32_w]
      rfl
    refine pure_ (i := 6) (N := some 61) (v := ?_) (a' := ?_) #[true, false, true, true, true, true, true, false, false, false, false, false, false, false, false, false] rfl rfl (any_of HT_.out (by kernel_rfl)) (fun _ _ _ h => h) (Or.inl ⟨by rfl, ?_⟩) ?_ ?_
    rotate_left
    · intro w'
      go_simp
      with_reducible rfl
    rotate_left
    · simp only [Act.put, List.setIfInBounds_toArray, List.set_cons_zero, List.set_cons_succ, i64_w, i32_w]
      rfl
    refine one_ (i := 1) (N := some 56) #[true, true, true, true, true, true, true, false, false, false, false, false, false, false, false, false] rfl rfl (one_of HT_.out (by kernel_rfl)) (by decide) (fun K hK => ?_)
    refine goes_ Try.func20 (by kernel_rfl) rfl #[.agg #[.slice A0 l0.length c0, .slice A1 l1.length c1]] (by rfl) rfl rfl (by (try simp only [List.map_toArray, List.map_cons, List.map_nil]); first | done | rfl | (simp only [List.length_drop, List.length_take]; rfl)) ?_
    refine (comfitlaw02_Of.calls A0 c0 l0 A1 c1 l1 t0 t1 _ (Kd.C_below HR0.out hHeld.2.2.1) HC0.out (Kd.C_below HR1.out hHeld.2.2.1) HC1.out HOF.out).mono ?_
    rintro e wr1 ⟨v1, v2, rfl, ho0, ho1, hb⟩
    refine ⟨_, rfl, ?_⟩
    obtain ⟨A9, c9, rfl⟩ := Kd.R_slice ho0
    obtain ⟨A10, c10, rfl⟩ := Kd.R_slice ho1
    have HP0 := Aside0.mk (Kd.R_reads' ho0).2
    have HP1 := Aside0.mk (Kd.R_reads' ho1).2
    clear ho0 ho1
    refine hK.out _ _ (CS.below hHeld hb) (fun hHeld => ?_)
    clear hK K hb
    refine norm_ (a' := ?_) ?_ ?_
    rotate_left
    · show Act.put _ (some 56) _ = _
      simp only [Act.put, List.setIfInBounds_toArray, List.set_cons_zero, List.set_cons_succ, i64_w, i32_w]
      rfl
    refine one_ (i := 7) (N := some 62) #[true, true, true, true, true, true, true, true, false, false, false, false, false, false, false, false] rfl rfl (one_of HT_.out (by kernel_rfl)) (by decide) (fun K hK => ?_)
    refine goes_ Try.func34 (by kernel_rfl) rfl #[.slice A2 s.length c2] (by rfl) rfl rfl (by (try simp only [List.map_toArray, List.map_cons, List.map_nil]); first | done | rfl | (simp only [List.length_drop, List.length_take]; rfl)) ?_
    refine (slices_Clone_bool_bool.calls A2 c2 s t2 _ (Kd.C_below HRJ.out hHeld.2.2.1) HCJ.out HCL.out).mono ?_
    rintro e wr2 ⟨v1, rfl, ho0, hb⟩
    refine ⟨_, rfl, ?_⟩
    obtain ⟨A11, c11, rfl⟩ := Kd.R_slice ho0
    have HI := Aside0.mk (Kd.R_reads' ho0).2
    replace HP0 := Aside0.mk (And.intro HP0.out.1 (Kd.C_below HP0.out.2 hb))
    replace HP1 := Aside0.mk (And.intro HP1.out.1 (Kd.C_below HP1.out.2 hb))
    clear ho0
    refine hK.out _ _ (CS.below hHeld hb) (fun hHeld => ?_)
    clear hK K hb
    refine norm_ (a' := ?_) ?_ ?_
    rotate_left
    · show Act.put _ (some 62) _ = _
      simp only [Act.put, List.setIfInBounds_toArray, List.set_cons_zero, List.set_cons_succ, i64_w, i32_w]
      rfl
    refine one_ (i := 8) (N := some 63) #[true, true, true, true, true, true, true, true, true, false, false, false, false, false, false, false] rfl rfl (one_of HT_.out (by kernel_rfl)) (by decide) (fun K hK => ?_)
    refine goes_ Try.func33 (by kernel_rfl) rfl #[.agg #[.slice A9 t0.length c9, .slice A10 t1.length c10], .slice A11 t2.length c11] (by rfl) rfl rfl (by (try simp only [List.map_toArray, List.map_cons, List.map_nil]); first | done | rfl | (simp only [List.length_drop, List.length_take]; rfl)) ?_
    refine (lots_Run.calls k A9 c9 t0 A10 c10 t1 A11 c11 t2 n ok e3 _ HP0.out.2 HP0.out.1 HP1.out.2 HP1.out.1 HI.out.2 HI.out.1 HRN.out).mono ?_
    rintro e wr3 ⟨rfl, hb⟩
    refine ⟨_, rfl, ?_⟩
    refine hK.out _ _ (CS.below hHeld hb) (fun hHeld => ?_)
    clear hK K hb
    refine norm_ (a' := ?_) ?_ ?_
    rotate_left
    · show Act.put _ (some 63) _ = _
      simp only [Act.put, List.setIfInBounds_toArray, List.set_cons_zero, List.set_cons_succ, i64_w, i32_w]
      rfl
    refine pure_ (i := 9) (N := some 54) (v := ?_) (a' := ?_) #[true, true, true, true, true, true, true, true, true, true, false, false, false, false, false, false] rfl rfl (any_of HT_.out (by kernel_rfl)) (fun _ _ _ h => h) (Or.inl ⟨by rfl, ?_⟩) ?_ ?_
    rotate_left
    · intro w'
      go_simp
      with_reducible rfl
    rotate_left
    · simp only [Act.put, List.setIfInBounds_toArray, List.set_cons_zero, List.set_cons_succ, i64_w, i32_w]
      rfl
    refine pure_ (i := 10) (N := some 64) (v := ?_) (a' := ?_) #[true, true, true, true, true, true, true, true, true, true, true, false, false, false, false, false] rfl rfl (any_of HT_.out (by kernel_rfl)) (fun _ _ _ h => h) (Or.inl ⟨by rfl, ?_⟩) ?_ ?_
    rotate_left
    · intro w'
      go_simp
      with_reducible rfl
    rotate_left
    · simp only [Act.put, List.setIfInBounds_toArray, List.set_cons_zero, List.set_cons_succ, i64_w, i32_w]
      rfl
    refine pure_ (i := 11) (N := some 65) (v := ?_) (a' := ?_) #[true, true, true, true, true, true, true, true, true, true, true, true, false, false, false, false] rfl rfl (any_of HT_.out (by kernel_rfl)) (fun _ _ _ h => h) (Or.inl ⟨by rfl, ?_⟩) ?_ ?_
    rotate_left
    · intro w'
      go_simp
      with_reducible rfl
    rotate_left
    · simp only [Act.put, List.setIfInBounds_toArray, List.set_cons_zero, List.set_cons_succ, i64_w, i32_w]
      rfl
    refine pure_ (i := 12) (N := some 66) (v := ?_) (a' := ?_) #[true, true, true, true, true, true, true, true, true, true, true, true, true, false, false, false] rfl rfl (any_of HT_.out (by kernel_rfl)) (fun _ _ _ h => h) (Or.inl ⟨by rfl, ?_⟩) ?_ ?_
    rotate_left
    · intro w'
      go_simp
      with_reducible rfl
    rotate_left
    · simp only [Act.put, List.setIfInBounds_toArray, List.set_cons_zero, List.set_cons_succ, i64_w, i32_w]
      rfl
    refine pure_ (i := 13) (N := some 9) (v := ?_) (a' := ?_) #[true, true, true, true, true, true, true, true, true, true, true, true, true, true, false, false] rfl rfl (any_of HT_.out (by kernel_rfl)) (fun _ _ _ h => h) (Or.inl ⟨by rfl, ?_⟩) ?_ ?_
    rotate_left
    · intro w'
      go_simp
      with_reducible rfl
    rotate_left
    · simp only [Act.put, List.setIfInBounds_toArray, List.set_cons_zero, List.set_cons_succ, i64_w, i32_w]
      rfl
    refine pure_ (i := 14) (N := some 10) (v := ?_) (a' := ?_) #[true, true, true, true, true, true, true, true, true, true, true, true, true, true, true, false] rfl rfl (any_of HT_.out (by kernel_rfl)) (fun _ _ _ h => h) (Or.inl ⟨by rfl, ?_⟩) ?_ ?_
    rotate_left
    · intro w'
      go_simp
      with_reducible rfl
    rotate_left
    · simp only [Act.put, List.setIfInBounds_toArray, List.set_cons_zero, List.set_cons_succ, i64_w, i32_w]
      rfl
    refine pure_ (i := 15) (N := some 8) (v := ?_) (a' := ?_) #[true, true, true, true, true, true, true, true, true, true, true, true, true, true, true, true] rfl rfl (any_of HT_.out (by kernel_rfl)) (fun _ _ _ h => h) (Or.inl ⟨by rfl, ?_⟩) ?_ ?_
    rotate_left
    · intro w'
      go_simp
      with_reducible rfl
    rotate_left
    · simp only [Act.put, List.setIfInBounds_toArray, List.set_cons_zero, List.set_cons_succ, i64_w, i32_w]
      rfl
    refine done_ (done_of HT_.out (by kernel_rfl)) ?_
    have HS7 := Aside0.mk hHeld
    clear hHeld
    replace B2 := Aside0.mk (B2.out.below HS7.out.2.2.2)
    replace B4 := Aside0.mk (B4.out.below HS7.out.2.2.2)
    replace B7 := Aside0.mk (B7.out.below HS7.out.2.2.2)
    replace HQ0 := Aside0.mk (And.intro HQ0.out.1 (Kd.C_below HQ0.out.2 HS7.out.2.2.2))
    replace HQ1 := Aside0.mk (And.intro HQ1.out.1 (Kd.C_below HQ1.out.2 HS7.out.2.2.2))
    replace HB := Aside0.mk HS7.out.2.2.1
    clear HS7 HI HP0 HP1 s0_ s1_ p0 p1 hne
    go_wp2_with fail
    clear hmx hsc c5b0 c6b0 c6b1 hji_ hji
    go_loopw [11, 73] (fun v11 v73 W => ∃ j : Nat, v73 = .int .i64 (j : Int) ∧ j ≤ s.length ∧ Aside0 (Kd.R Kd.bool 4 W wr3.heap.size (fun _ => True) v11 ((s.take j).map (fun x => !x))) ∧ Aside0 (Below wr3.heap.size wr3 W)) (fun _ v73 _ => s.length - (intOf v73).toNat)
    case atStart => exact ⟨0, rfl, Nat.zero_le _, ⟨Kd.R_nil _ _ _ _ _⟩, ⟨Below.refl _ _⟩⟩
    case round =>
      obtain ⟨j, rfl, hj, HO, HW⟩ := hrel
      by_cases hjl : j < s.length
      · as_aux_lemma =>
        have hjb : decide ((j : Int) < (s.length : Int)) = true := decide_eq_true (by omega)
        have hj1 : ((j : Int) < (s.length : Int)) = True := eq_true (by omega)
        have hj0 : (0 ≤ (j : Int)) = True := eq_true (by omega)
        obtain ⟨ad, ea, hx⟩ := Kd.at_bool (Kd.C_below HRJ.out (below_step HB.out HW.out)) (j : Int) (by omega) (by omega)
        cases ea
        rw [Int.toNat_natCast] at hx
        have hnx : (s.take (j + 1)).map (fun x => !x) = (s.take j).map (fun x => !x) ++ [!(rdOf false s (j : Int))] := by
          have e : s[j]?.toList = [rdOf false s (j : Int)] := by simp [rdOf, hjl]
          rw [List.take_add_one, List.map_append, e]
          rfl
        have HWR : Aside0 (wrap64 ((j : Int) + 1) = ((j + 1 : Nat) : Int)) := ⟨by have := HSB.out; unfold wrap64; omega⟩
        have HNX := Aside0.mk hnx
        have HSL : Aside0 (((s.take j).map (fun x => !x)).length < 140737488355328) := ⟨by have := HSB.out; rw [List.length_map, List.length_take]; omega⟩
        clear hnx
        generalize rdOf false s (j : Int) = xj at HNX hx
        generalize hrow : (s.take j).map (fun x => !x) = row at HO HNX HSL
        go_wp2_with (first | ((with_reducible refine gate_builtin (b := .append) (xs := #[.tmp 77, .tmp 80]) rfl ?_); (try (refine gate_guard (by rfl) ?_; dsimp only)); at_builtin; refine Kd.R_append Kd.bool (w0 := wr3) wr3.heap.size rfl (.tmp 77) (.tmp 80) 45 4 (.bool false) 1 rfl Try.underlying45 info4 rfl (by decide) (by omega) u11 row (!xj) [.bool (!xj)] (fun _ => True) (fun _ => False) rfl rfl ?aP (fun _ hk => hk.elim) ?aF ?aO ?aB ?aS ?aL ?_; (case aP => exact rfl); (case aB => exact HW.out); (case aF => exact (fun _ _ => trivial)); (case aO => exact HO.out); (case aS => exact below_size HW.out); (case aL => have := HSL.out; omega); intro v449 w78 ho hb hg hat; rw [← HNX.out] at ho; have n5_ := Aside0.mk hb; have n6_ := Aside0.mk ho; clear HO HW; have HW := n5_; have HO := n6_; clear n5_ n6_ ho hb hg hat))
        refine ⟨⟨j + 1, by rw [HWR.out], hjl, HO, HW⟩, ?_⟩
        exact meas_down s.length j _ HWR.out hjl
      · as_aux_lemma =>
        have hjb : decide ((j : Int) < (s.length : Int)) = false := decide_eq_false (by omega)
        obtain rfl : j = s.length := by omega
        rw [List.take_length] at HO
        generalize s.map (fun x => !x) = it2 at HO HRX
        replace B2 := Aside0.mk (B2.out.below HW.out)
        replace B4 := Aside0.mk (B4.out.below HW.out)
        replace B7 := Aside0.mk (B7.out.below HW.out)
        replace HQ0 := Aside0.mk (And.intro HQ0.out.1 (Kd.C_below HQ0.out.2 HW.out))
        replace HQ1 := Aside0.mk (And.intro HQ1.out.1 (Kd.C_below HQ1.out.2 HW.out))
        replace HB := Aside0.mk (below_step HB.out HW.out)
        obtain ⟨A12, c12, e11⟩ := Kd.R_slice HO.out
        subst e11
        have HI := Aside0.mk (Kd.R_reads' HO.out).2
        clear HO
        clear HW hjl hjb
        have s0_ := B7.out.cell 0 rfl
        have s1_ := B7.out.cell 1 rfl
        go_wp2_with fail
        refine (own_calls A5 A6 q0.length c5 q1.length c6 _).mono ?_
        rintro e w12 ⟨rfl, hb⟩
        replace B2 := Aside0.mk (B2.out.below hb)
        replace B4 := Aside0.mk (B4.out.below hb)
        replace B7 := Aside0.mk (B7.out.below hb)
        replace HQ0 := Aside0.mk (And.intro HQ0.out.1 (Kd.C_below HQ0.out.2 hb))
        replace HQ1 := Aside0.mk (And.intro HQ1.out.1 (Kd.C_below HQ1.out.2 hb))
        replace HI := Aside0.mk (And.intro HI.out.1 (Kd.C_below HI.out.2 hb))
        replace HB := Aside0.mk (below_step HB.out hb)
        clear hb s0_ s1_
        go_wp2_with fail
        refine (comfitlaw02_Of.calls A5 c5 q0 A6 c6 q1 u0 u1 _ HQ0.out.2 HQ0.out.1 HQ1.out.2 HQ1.out.1 HOFQ.out).mono ?_
        rintro e w13 ⟨v1, v2, rfl, ho0, ho1, hb⟩
        obtain ⟨A13, c13, rfl⟩ := Kd.R_slice ho0
        obtain ⟨A14, c14, rfl⟩ := Kd.R_slice ho1
        have HU0 := Aside0.mk (Kd.R_reads' ho0).2
        have HU1 := Aside0.mk (Kd.R_reads' ho1).2
        clear ho0 ho1
        replace B2 := Aside0.mk (B2.out.below hb)
        replace B4 := Aside0.mk (B4.out.below hb)
        replace B7 := Aside0.mk (B7.out.below hb)
        replace HQ0 := Aside0.mk (And.intro HQ0.out.1 (Kd.C_below HQ0.out.2 hb))
        replace HQ1 := Aside0.mk (And.intro HQ1.out.1 (Kd.C_below HQ1.out.2 hb))
        replace HI := Aside0.mk (And.intro HI.out.1 (Kd.C_below HI.out.2 hb))
        replace HB := Aside0.mk (below_step HB.out hb)
        clear hb
        go_wp2_with fail
        refine (lots_Run.calls k A13 c13 u0 A14 c14 u1 A12 c12 it2 m is e3 _ HU0.out.2 HU0.out.1 HU1.out.2 HU1.out.1 HI.out.2 HI.out.1 HRX.out).mono ?_
        rintro e w14 ⟨rfl, hb⟩
        replace B2 := Aside0.mk (B2.out.below hb)
        replace B4 := Aside0.mk (B4.out.below hb)
        replace B7 := Aside0.mk (B7.out.below hb)
        replace HQ0 := Aside0.mk (And.intro HQ0.out.1 (Kd.C_below HQ0.out.2 hb))
        replace HQ1 := Aside0.mk (And.intro HQ1.out.1 (Kd.C_below HQ1.out.2 hb))
        replace HB := Aside0.mk (below_step HB.out hb)
        clear hb HU0 HU1 HI HRX HRN HOFQ
        have b0_ := B4.out.cell 0 rfl
        have b1_ := B4.out.cell 1 rfl
        rcases HE3.out with ⟨rfl, rfl, rfl⟩ | rfl
        · as_aux_lemma =>
          clear HE3
          have hbo : (ok == !ok) = false := by cases ok <;> rfl
          go_wp2_with fail
          refine (comfitref02_Is.calls y o okc _ HOK.out).mono ?_
          rintro e w15 ⟨rfl, hb⟩
          replace B2 := Aside0.mk (B2.out.below hb)
          replace B4 := Aside0.mk (B4.out.below hb)
          replace B7 := Aside0.mk (B7.out.below hb)
          replace HQ0 := Aside0.mk (And.intro HQ0.out.1 (Kd.C_below HQ0.out.2 hb))
          replace HQ1 := Aside0.mk (And.intro HQ1.out.1 (Kd.C_below HQ1.out.2 hb))
          replace HB := Aside0.mk (below_step HB.out hb)
          clear hb b0_ b1_ hbo HOK
          cases okc with
          | false =>
            clear HCH
            go_wp2_with fail
            refine (comfitlaw02_awake.calls k true _ HAW.out).mono ?_
            rintro e w3 ⟨rfl, hb⟩
            go_wp2_with fail
            go_ret
            exact ⟨rfl, below_step HB.out hb⟩
          | true =>
            obtain ⟨x1, x2, y1, y2, hcn, htk, htq, hux, huy, hxy, hsum⟩ := HCH.out.resolve_left (by decide)
            have HCN := Aside0.mk hcn
            have HTK := Aside0.mk htk
            have HTQ := Aside0.mk htq
            have HUX := Aside0.mk hux
            have HUY := Aside0.mk huy
            have HXY := Aside0.mk hxy
            have HSUM := Aside0.mk hsum
            clear hcn htk htq hux huy hxy hsum HCH
            go_wp2_with fail
            refine start_ (n := 11) (S := CC w.heap.size (.slice A0 l0.length c0) (.slice A1 l1.length c1) (w.heap.size + 1) (.int .i64 y) (.int .i64 o) w w15) (ds := []) #[false, false, false, false, false, false, false, false, false, false, false] (by kernel_rfl) rfl rfl (B2.out.cc B4.out HB.out (below_drew (Below.refl _ _))) (fun hHeld => ?_)
            refine with_tabW tudT.tab16 tudT.bits16 (fun HT_ HW_ => ?_)
            generalize (World.drew _) = w16 at hHeld ⊢
            refine take_ (i := 0) (N := some 122) (v := ?_) (a' := ?_) #[true, false, false, false, false, false, false, false, false, false, false] rfl rfl (take_ofW HT_.out HW_.out (by kernel_rfl)) (fun _ _ _ h => h) (Or.inl ⟨by rfl, ?_⟩) hHeld ?_ ?_
            rotate_left
            · rintro w' ⟨s0, s1, s2, s3, s4, s5⟩
              go_simp
              with_reducible rfl
            rotate_left
            · simp only [Act.put, List.setIfInBounds_toArray, List.set_cons_zero, List.set_cons_succ, i64_w, i32_w]
              rfl
            refine take_ (i := 2) (N := some 124) (v := ?_) (a' := ?_) #[true, false, true, false, false, false, false, false, false, false, false] rfl rfl (take_ofW HT_.out HW_.out (by kernel_rfl)) (fun _ _ _ h => h) (Or.inl ⟨by rfl, ?_⟩) hHeld ?_ ?_
            rotate_left
            · rintro w' ⟨s0, s1, s2, s3, s4, s5⟩
              go_simp
              with_reducible rfl
            rotate_left
            · simp only [Act.put, List.setIfInBounds_toArray, List.set_cons_zero, List.set_cons_succ, i64_w, i32_w]
              rfl
            refine join_ (σ := Value × Nat) 2 #[true, true, true, true, true, true, true, true, true, false, false] (fun s_ => [(123, s_.1), (125, .agg #[.int .i64 y, .int .i64 o]), (126, .tuple #[.agg #[.int .i64 x1, .int .i64 x2], .int .i64 0]), (17, .pointer (some ⟨s_.2, 0, none⟩)), (121, .tuple #[.agg #[.int .i64 x1, .int .i64 x2], .int .i64 0]), (127, .agg #[.int .i64 x1, .int .i64 x2]), (128, .int .i64 0)]) (fun s_ w' => CC w.heap.size (.slice A0 l0.length c0) (.slice A1 l1.length c1) (w.heap.size + 1) (.int .i64 y) (.int .i64 o) w w15 w' ∧ Box w15 s_.2 #[.int .i64 0, .int .i64 0] 28 w') ?_ ?_
            rotate_left
            · intro hCont
              refine two_ (i := 1) (j := 8) (Ni := some 123) (Nj := some 17) #[true, true, true, false, false, false, false, false, false, false, false] #[true, false, true, false, false, false, false, false, true, false, false] rfl rfl rfl rfl (two_of HT_.out (by kernel_rfl)) (by decide) (by decide) (fun K hK => ?_) (fun K hK => ?_)
              · skip
                refine goes_ Try.func20 (by kernel_rfl) rfl #[.agg #[.slice A0 l0.length c0, .slice A1 l1.length c1]] (by rfl) rfl rfl (by (try simp only [List.map_toArray, List.map_cons, List.map_nil]); first | done | rfl | (simp only [List.length_drop, List.length_take]; rfl)) ?_
                refine (comfitlaw02_Of.calls A0 c0 l0 A1 c1 l1 t0 t1 _ (Kd.C_below HR0.out hHeld.2.2.2.2.1) HC0.out (Kd.C_below HR1.out hHeld.2.2.2.2.1) HC1.out HOF.out).mono ?_
                rintro e wr1 ⟨v1, v2, rfl, ho0, ho1, hb⟩
                refine ⟨_, rfl, ?_⟩
                obtain ⟨A15, c15, rfl⟩ := Kd.R_slice ho0
                obtain ⟨A16, c16, rfl⟩ := Kd.R_slice ho1
                have HP0 := Aside0.mk (Kd.R_reads' ho0).2
                have HP1 := Aside0.mk (Kd.R_reads' ho1).2
                clear ho0 ho1
                refine hK.out _ _ (CC.below hHeld hb) (fun hHeld => ?_)
                clear hK K hb
                refine norm_ (a' := ?_) ?_ ?_
                rotate_left
                · show Act.put _ (some 123) _ = _
                  simp only [Act.put, List.setIfInBounds_toArray, List.set_cons_zero, List.set_cons_succ, i64_w, i32_w]
                  rfl
                refine two_ (i := 3) (j := 8) (Ni := some 125) (Nj := some 17) #[true, true, true, true, false, false, false, false, false, false, false] #[true, true, true, false, false, false, false, false, true, false, false] rfl rfl rfl rfl (two_of HT_.out (by kernel_rfl)) (by decide) (by decide) (fun K hK => ?_) (fun K hK => ?_)
                · skip
                  refine goes_ Try.func21 (by kernel_rfl) rfl #[.agg #[.int .i64 y, .int .i64 o]] (by rfl) rfl rfl (by (try simp only [List.map_toArray, List.map_cons, List.map_nil]); first | done | rfl | (simp only [List.length_drop, List.length_take]; rfl)) ?_
                  refine (comfitlaw02_chance.calls y o y o _ HCN.out).mono ?_
                  rintro e wr2 ⟨rfl, hb⟩
                  refine ⟨_, rfl, ?_⟩
                  replace HP0 := Aside0.mk (And.intro HP0.out.1 (Kd.C_below HP0.out.2 hb))
                  replace HP1 := Aside0.mk (And.intro HP1.out.1 (Kd.C_below HP1.out.2 hb))
                  refine hK.out _ _ (CC.below hHeld hb) (fun hHeld => ?_)
                  clear hK K hb
                  refine norm_ (a' := ?_) ?_ ?_
                  rotate_left
                  · show Act.put _ (some 125) _ = _
                    simp only [Act.put, List.setIfInBounds_toArray, List.set_cons_zero, List.set_cons_succ, i64_w, i32_w]
                    rfl
                  refine two_ (i := 4) (j := 8) (Ni := some 126) (Nj := some 17) #[true, true, true, true, true, false, false, false, false, false, false] #[true, true, true, true, false, false, false, false, true, false, false] rfl rfl rfl rfl (two_of HT_.out (by kernel_rfl)) (by decide) (by decide) (fun K hK => ?_) (fun K hK => ?_)
                  · skip
                    refine goes_ Try.func19 (by kernel_rfl) rfl #[.agg #[.slice A15 t0.length c15, .slice A16 t1.length c16], .agg #[.int .i64 y, .int .i64 o]] (by rfl) rfl rfl (by (try simp only [List.map_toArray, List.map_cons, List.map_nil]); first | done | rfl | (simp only [List.length_drop, List.length_take]; rfl)) ?_
                    refine (lots_Taken.calls k A15 c15 t0 A16 c16 t1 y o x1 x2 0 _ HP0.out.2 HP0.out.1 HP1.out.2 HP1.out.1 HTK.out).mono ?_
                    rintro e wr3 ⟨rfl, hb⟩
                    refine ⟨_, rfl, ?_⟩
                    replace HP0 := Aside0.mk (And.intro HP0.out.1 (Kd.C_below HP0.out.2 hb))
                    replace HP1 := Aside0.mk (And.intro HP1.out.1 (Kd.C_below HP1.out.2 hb))
                    refine hK.out _ _ (CC.below hHeld hb) (fun hHeld => ?_)
                    clear hK K hb
                    refine norm_ (a' := ?_) ?_ ?_
                    rotate_left
                    · show Act.put _ (some 126) _ = _
                      simp only [Act.put, List.setIfInBounds_toArray, List.set_cons_zero, List.set_cons_succ, i64_w, i32_w]
                      rfl
                    refine pure_ (i := 5) (N := some 121) (v := ?_) (a' := ?_) #[true, true, true, true, true, true, false, false, false, false, false] rfl rfl (any_of HT_.out (by kernel_rfl)) (fun _ _ _ h => h) (Or.inl ⟨by rfl, ?_⟩) ?_ ?_
                    rotate_left
                    · intro w'
                      go_simp
                      with_reducible rfl
                    rotate_left
                    · simp only [Act.put, List.setIfInBounds_toArray, List.set_cons_zero, List.set_cons_succ, i64_w, i32_w]
                      rfl
                    refine pure_ (i := 6) (N := some 127) (v := ?_) (a' := ?_) #[true, true, true, true, true, true, true, false, false, false, false] rfl rfl (any_of HT_.out (by kernel_rfl)) (fun _ _ _ h => h) (Or.inl ⟨by rfl, ?_⟩) ?_ ?_
                    rotate_left
                    · intro w'
                      go_simp
                      with_reducible rfl
                    rotate_left
                    · simp only [Act.put, List.setIfInBounds_toArray, List.set_cons_zero, List.set_cons_succ, i64_w, i32_w]
                      rfl
                    refine pure_ (i := 7) (N := some 128) (v := ?_) (a' := ?_) #[true, true, true, true, true, true, true, true, false, false, false] rfl rfl (any_of HT_.out (by kernel_rfl)) (fun _ _ _ h => h) (Or.inl ⟨by rfl, ?_⟩) ?_ ?_
                    rotate_left
                    · intro w'
                      go_simp
                      with_reducible rfl
                    rotate_left
                    · simp only [Act.put, List.setIfInBounds_toArray, List.set_cons_zero, List.set_cons_succ, i64_w, i32_w]
                      rfl
                    refine one_ (i := 8) (N := some 17) #[true, true, true, true, true, true, true, true, true, false, false] rfl rfl (one_of HT_.out (by kernel_rfl)) (by decide) (fun K hK => ?_)
                    refine box_step ?hg (N := 17) ?hd (cs := #[.int .i64 0, .int .i64 0]) (t := 28) ?hr ?_; (case hd => rfl); (case hg => rfl); (case hr => first | (go_simp; done) | (go_simp; rfl))
                    intro gx hg wr4 hbox hb
                    replace HP0 := Aside0.mk (And.intro HP0.out.1 (Kd.C_below HP0.out.2 hb))
                    replace HP1 := Aside0.mk (And.intro HP1.out.1 (Kd.C_below HP1.out.2 hb))
                    have HX : Aside0 (Box w15 gx #[.int .i64 0, .int .i64 0] 28 _) := ⟨⟨by rw [hg]; exact hHeld.2.2.2.2.2.size, hbox⟩⟩
                    clear hg hbox
                    refine hK.out _ _ (CC.below hHeld hb) (fun hHeld => ?_)
                    clear hK K hb
                    refine norm_ (a' := ?_) ?_ ?_
                    rotate_left
                    · show Act.put _ (some 17) _ = _
                      simp only [Act.put, List.setIfInBounds_toArray, List.set_cons_zero, List.set_cons_succ, i64_w, i32_w]
                      rfl
                    exact norm_ (by simp only [putAll, Act.put, List.setIfInBounds_toArray, List.set_cons_zero, List.set_cons_succ]) (hCont (.agg #[.slice A15 t0.length c15, .slice A16 t1.length c16], gx) _ ⟨hHeld, HX.out⟩)
                  · skip
                    refine box_step ?hg (N := 17) ?hd (cs := #[.int .i64 0, .int .i64 0]) (t := 28) ?hr ?_; (case hd => rfl); (case hg => rfl); (case hr => first | (go_simp; done) | (go_simp; rfl))
                    intro gx hg wr5 hbox hb
                    replace HP0 := Aside0.mk (And.intro HP0.out.1 (Kd.C_below HP0.out.2 hb))
                    replace HP1 := Aside0.mk (And.intro HP1.out.1 (Kd.C_below HP1.out.2 hb))
                    have HX : Aside0 (Box w15 gx #[.int .i64 0, .int .i64 0] 28 _) := ⟨⟨by rw [hg]; exact hHeld.2.2.2.2.2.size, hbox⟩⟩
                    clear hg hbox
                    refine hK.out _ _ (CC.below hHeld hb) (fun hHeld => ?_)
                    clear hK K hb
                    refine norm_ (a' := ?_) ?_ ?_
                    rotate_left
                    · show Act.put _ (some 17) _ = _
                      simp only [Act.put, List.setIfInBounds_toArray, List.set_cons_zero, List.set_cons_succ, i64_w, i32_w]
                      rfl
                    refine one_ (i := 4) (N := some 126) #[true, true, true, true, true, false, false, false, true, false, false] rfl rfl (one_of HT_.out (by kernel_rfl)) (by decide) (fun K hK => ?_)
                    refine goes_ Try.func19 (by kernel_rfl) rfl #[.agg #[.slice A15 t0.length c15, .slice A16 t1.length c16], .agg #[.int .i64 y, .int .i64 o]] (by rfl) rfl rfl (by (try simp only [List.map_toArray, List.map_cons, List.map_nil]); first | done | rfl | (simp only [List.length_drop, List.length_take]; rfl)) ?_
                    refine (lots_Taken.calls k A15 c15 t0 A16 c16 t1 y o x1 x2 0 _ HP0.out.2 HP0.out.1 HP1.out.2 HP1.out.1 HTK.out).mono ?_
                    rintro e wr6 ⟨rfl, hb⟩
                    refine ⟨_, rfl, ?_⟩
                    replace HP0 := Aside0.mk (And.intro HP0.out.1 (Kd.C_below HP0.out.2 hb))
                    replace HP1 := Aside0.mk (And.intro HP1.out.1 (Kd.C_below HP1.out.2 hb))
                    replace HX := Aside0.mk (HX.out.below hb)
                    refine hK.out _ _ (CC.below hHeld hb) (fun hHeld => ?_)
                    clear hK K hb
                    refine norm_ (a' := ?_) ?_ ?_
                    rotate_left
                    · show Act.put _ (some 126) _ = _
                      simp only [Act.put, List.setIfInBounds_toArray, List.set_cons_zero, List.set_cons_succ, i64_w, i32_w]
                      rfl
                    refine pure_ (i := 5) (N := some 121) (v := ?_) (a' := ?_) #[true, true, true, true, true, true, false, false, true, false, false] rfl rfl (any_of HT_.out (by kernel_rfl)) (fun _ _ _ h => h) (Or.inl ⟨by rfl, ?_⟩) ?_ ?_
                    rotate_left
                    · intro w'
                      go_simp
                      with_reducible rfl
                    rotate_left
                    · simp only [Act.put, List.setIfInBounds_toArray, List.set_cons_zero, List.set_cons_succ, i64_w, i32_w]
                      rfl
                    refine pure_ (i := 6) (N := some 127) (v := ?_) (a' := ?_) #[true, true, true, true, true, true, true, false, true, false, false] rfl rfl (any_of HT_.out (by kernel_rfl)) (fun _ _ _ h => h) (Or.inl ⟨by rfl, ?_⟩) ?_ ?_
                    rotate_left
                    · intro w'
                      go_simp
                      with_reducible rfl
                    rotate_left
                    · simp only [Act.put, List.setIfInBounds_toArray, List.set_cons_zero, List.set_cons_succ, i64_w, i32_w]
                      rfl
                    refine pure_ (i := 7) (N := some 128) (v := ?_) (a' := ?_) #[true, true, true, true, true, true, true, true, true, false, false] rfl rfl (any_of HT_.out (by kernel_rfl)) (fun _ _ _ h => h) (Or.inl ⟨by rfl, ?_⟩) ?_ ?_
                    rotate_left
                    · intro w'
                      go_simp
                      with_reducible rfl
                    rotate_left
                    · simp only [Act.put, List.setIfInBounds_toArray, List.set_cons_zero, List.set_cons_succ, i64_w, i32_w]
                      rfl
                    exact norm_ (by simp only [putAll, Act.put, List.setIfInBounds_toArray, List.set_cons_zero, List.set_cons_succ]) (hCont (.agg #[.slice A15 t0.length c15, .slice A16 t1.length c16], gx) _ ⟨hHeld, HX.out⟩)
                · skip
                  refine box_step ?hg (N := 17) ?hd (cs := #[.int .i64 0, .int .i64 0]) (t := 28) ?hr ?_; (case hd => rfl); (case hg => rfl); (case hr => first | (go_simp; done) | (go_simp; rfl))
                  intro gx hg wr7 hbox hb
                  replace HP0 := Aside0.mk (And.intro HP0.out.1 (Kd.C_below HP0.out.2 hb))
                  replace HP1 := Aside0.mk (And.intro HP1.out.1 (Kd.C_below HP1.out.2 hb))
                  have HX : Aside0 (Box w15 gx #[.int .i64 0, .int .i64 0] 28 _) := ⟨⟨by rw [hg]; exact hHeld.2.2.2.2.2.size, hbox⟩⟩
                  clear hg hbox
                  refine hK.out _ _ (CC.below hHeld hb) (fun hHeld => ?_)
                  clear hK K hb
                  refine norm_ (a' := ?_) ?_ ?_
                  rotate_left
                  · show Act.put _ (some 17) _ = _
                    simp only [Act.put, List.setIfInBounds_toArray, List.set_cons_zero, List.set_cons_succ, i64_w, i32_w]
                    rfl
                  refine one_ (i := 3) (N := some 125) #[true, true, true, true, false, false, false, false, true, false, false] rfl rfl (one_of HT_.out (by kernel_rfl)) (by decide) (fun K hK => ?_)
                  refine goes_ Try.func21 (by kernel_rfl) rfl #[.agg #[.int .i64 y, .int .i64 o]] (by rfl) rfl rfl (by (try simp only [List.map_toArray, List.map_cons, List.map_nil]); first | done | rfl | (simp only [List.length_drop, List.length_take]; rfl)) ?_
                  refine (comfitlaw02_chance.calls y o y o _ HCN.out).mono ?_
                  rintro e wr8 ⟨rfl, hb⟩
                  refine ⟨_, rfl, ?_⟩
                  replace HP0 := Aside0.mk (And.intro HP0.out.1 (Kd.C_below HP0.out.2 hb))
                  replace HP1 := Aside0.mk (And.intro HP1.out.1 (Kd.C_below HP1.out.2 hb))
                  replace HX := Aside0.mk (HX.out.below hb)
                  refine hK.out _ _ (CC.below hHeld hb) (fun hHeld => ?_)
                  clear hK K hb
                  refine norm_ (a' := ?_) ?_ ?_
                  rotate_left
                  · show Act.put _ (some 125) _ = _
                    simp only [Act.put, List.setIfInBounds_toArray, List.set_cons_zero, List.set_cons_succ, i64_w, i32_w]
                    rfl
                  refine one_ (i := 4) (N := some 126) #[true, true, true, true, true, false, false, false, true, false, false] rfl rfl (one_of HT_.out (by kernel_rfl)) (by decide) (fun K hK => ?_)
                  refine goes_ Try.func19 (by kernel_rfl) rfl #[.agg #[.slice A15 t0.length c15, .slice A16 t1.length c16], .agg #[.int .i64 y, .int .i64 o]] (by rfl) rfl rfl (by (try simp only [List.map_toArray, List.map_cons, List.map_nil]); first | done | rfl | (simp only [List.length_drop, List.length_take]; rfl)) ?_
                  refine (lots_Taken.calls k A15 c15 t0 A16 c16 t1 y o x1 x2 0 _ HP0.out.2 HP0.out.1 HP1.out.2 HP1.out.1 HTK.out).mono ?_
                  rintro e wr9 ⟨rfl, hb⟩
                  refine ⟨_, rfl, ?_⟩
                  replace HP0 := Aside0.mk (And.intro HP0.out.1 (Kd.C_below HP0.out.2 hb))
                  replace HP1 := Aside0.mk (And.intro HP1.out.1 (Kd.C_below HP1.out.2 hb))
                  replace HX := Aside0.mk (HX.out.below hb)
                  refine hK.out _ _ (CC.below hHeld hb) (fun hHeld => ?_)
                  clear hK K hb
                  refine norm_ (a' := ?_) ?_ ?_
                  rotate_left
                  · show Act.put _ (some 126) _ = _
                    simp only [Act.put, List.setIfInBounds_toArray, List.set_cons_zero, List.set_cons_succ, i64_w, i32_w]
                    rfl
                  refine pure_ (i := 5) (N := some 121) (v := ?_) (a' := ?_) #[true, true, true, true, true, true, false, false, true, false, false] rfl rfl (any_of HT_.out (by kernel_rfl)) (fun _ _ _ h => h) (Or.inl ⟨by rfl, ?_⟩) ?_ ?_
                  rotate_left
                  · intro w'
                    go_simp
                    with_reducible rfl
                  rotate_left
                  · simp only [Act.put, List.setIfInBounds_toArray, List.set_cons_zero, List.set_cons_succ, i64_w, i32_w]
                    rfl
                  refine pure_ (i := 6) (N := some 127) (v := ?_) (a' := ?_) #[true, true, true, true, true, true, true, false, true, false, false] rfl rfl (any_of HT_.out (by kernel_rfl)) (fun _ _ _ h => h) (Or.inl ⟨by rfl, ?_⟩) ?_ ?_
                  rotate_left
                  · intro w'
                    go_simp
                    with_reducible rfl
                  rotate_left
                  · simp only [Act.put, List.setIfInBounds_toArray, List.set_cons_zero, List.set_cons_succ, i64_w, i32_w]
                    rfl
                  refine pure_ (i := 7) (N := some 128) (v := ?_) (a' := ?_) #[true, true, true, true, true, true, true, true, true, false, false] rfl rfl (any_of HT_.out (by kernel_rfl)) (fun _ _ _ h => h) (Or.inl ⟨by rfl, ?_⟩) ?_ ?_
                  rotate_left
                  · intro w'
                    go_simp
                    with_reducible rfl
                  rotate_left
                  · simp only [Act.put, List.setIfInBounds_toArray, List.set_cons_zero, List.set_cons_succ, i64_w, i32_w]
                    rfl
                  exact norm_ (by simp only [putAll, Act.put, List.setIfInBounds_toArray, List.set_cons_zero, List.set_cons_succ]) (hCont (.agg #[.slice A15 t0.length c15, .slice A16 t1.length c16], gx) _ ⟨hHeld, HX.out⟩)
              · skip
                refine box_step ?hg (N := 17) ?hd (cs := #[.int .i64 0, .int .i64 0]) (t := 28) ?hr ?_; (case hd => rfl); (case hg => rfl); (case hr => first | (go_simp; done) | (go_simp; rfl))
                intro gx hg wr10 hbox hb
                have HX : Aside0 (Box w15 gx #[.int .i64 0, .int .i64 0] 28 _) := ⟨⟨by rw [hg]; exact hHeld.2.2.2.2.2.size, hbox⟩⟩
                clear hg hbox
                refine hK.out _ _ (CC.below hHeld hb) (fun hHeld => ?_)
                clear hK K hb
                refine norm_ (a' := ?_) ?_ ?_
                rotate_left
                · show Act.put _ (some 17) _ = _
                  simp only [Act.put, List.setIfInBounds_toArray, List.set_cons_zero, List.set_cons_succ, i64_w, i32_w]
                  rfl
                refine one_ (i := 1) (N := some 123) #[true, true, true, false, false, false, false, false, true, false, false] rfl rfl (one_of HT_.out (by kernel_rfl)) (by decide) (fun K hK => ?_)
                refine goes_ Try.func20 (by kernel_rfl) rfl #[.agg #[.slice A0 l0.length c0, .slice A1 l1.length c1]] (by rfl) rfl rfl (by (try simp only [List.map_toArray, List.map_cons, List.map_nil]); first | done | rfl | (simp only [List.length_drop, List.length_take]; rfl)) ?_
                refine (comfitlaw02_Of.calls A0 c0 l0 A1 c1 l1 t0 t1 _ (Kd.C_below HR0.out hHeld.2.2.2.2.1) HC0.out (Kd.C_below HR1.out hHeld.2.2.2.2.1) HC1.out HOF.out).mono ?_
                rintro e wr11 ⟨v1, v2, rfl, ho0, ho1, hb⟩
                refine ⟨_, rfl, ?_⟩
                replace HX := Aside0.mk (HX.out.below hb)
                obtain ⟨A15, c15, rfl⟩ := Kd.R_slice ho0
                obtain ⟨A16, c16, rfl⟩ := Kd.R_slice ho1
                have HP0 := Aside0.mk (Kd.R_reads' ho0).2
                have HP1 := Aside0.mk (Kd.R_reads' ho1).2
                clear ho0 ho1
                refine hK.out _ _ (CC.below hHeld hb) (fun hHeld => ?_)
                clear hK K hb
                refine norm_ (a' := ?_) ?_ ?_
                rotate_left
                · show Act.put _ (some 123) _ = _
                  simp only [Act.put, List.setIfInBounds_toArray, List.set_cons_zero, List.set_cons_succ, i64_w, i32_w]
                  rfl
                refine one_ (i := 3) (N := some 125) #[true, true, true, true, false, false, false, false, true, false, false] rfl rfl (one_of HT_.out (by kernel_rfl)) (by decide) (fun K hK => ?_)
                refine goes_ Try.func21 (by kernel_rfl) rfl #[.agg #[.int .i64 y, .int .i64 o]] (by rfl) rfl rfl (by (try simp only [List.map_toArray, List.map_cons, List.map_nil]); first | done | rfl | (simp only [List.length_drop, List.length_take]; rfl)) ?_
                refine (comfitlaw02_chance.calls y o y o _ HCN.out).mono ?_
                rintro e wr12 ⟨rfl, hb⟩
                refine ⟨_, rfl, ?_⟩
                replace HP0 := Aside0.mk (And.intro HP0.out.1 (Kd.C_below HP0.out.2 hb))
                replace HP1 := Aside0.mk (And.intro HP1.out.1 (Kd.C_below HP1.out.2 hb))
                replace HX := Aside0.mk (HX.out.below hb)
                refine hK.out _ _ (CC.below hHeld hb) (fun hHeld => ?_)
                clear hK K hb
                refine norm_ (a' := ?_) ?_ ?_
                rotate_left
                · show Act.put _ (some 125) _ = _
                  simp only [Act.put, List.setIfInBounds_toArray, List.set_cons_zero, List.set_cons_succ, i64_w, i32_w]
                  rfl
                refine one_ (i := 4) (N := some 126) #[true, true, true, true, true, false, false, false, true, false, false] rfl rfl (one_of HT_.out (by kernel_rfl)) (by decide) (fun K hK => ?_)
                refine goes_ Try.func19 (by kernel_rfl) rfl #[.agg #[.slice A15 t0.length c15, .slice A16 t1.length c16], .agg #[.int .i64 y, .int .i64 o]] (by rfl) rfl rfl (by (try simp only [List.map_toArray, List.map_cons, List.map_nil]); first | done | rfl | (simp only [List.length_drop, List.length_take]; rfl)) ?_
                refine (lots_Taken.calls k A15 c15 t0 A16 c16 t1 y o x1 x2 0 _ HP0.out.2 HP0.out.1 HP1.out.2 HP1.out.1 HTK.out).mono ?_
                rintro e wr13 ⟨rfl, hb⟩
                refine ⟨_, rfl, ?_⟩
                replace HP0 := Aside0.mk (And.intro HP0.out.1 (Kd.C_below HP0.out.2 hb))
                replace HP1 := Aside0.mk (And.intro HP1.out.1 (Kd.C_below HP1.out.2 hb))
                replace HX := Aside0.mk (HX.out.below hb)
                refine hK.out _ _ (CC.below hHeld hb) (fun hHeld => ?_)
                clear hK K hb
                refine norm_ (a' := ?_) ?_ ?_
                rotate_left
                · show Act.put _ (some 126) _ = _
                  simp only [Act.put, List.setIfInBounds_toArray, List.set_cons_zero, List.set_cons_succ, i64_w, i32_w]
                  rfl
                refine pure_ (i := 5) (N := some 121) (v := ?_) (a' := ?_) #[true, true, true, true, true, true, false, false, true, false, false] rfl rfl (any_of HT_.out (by kernel_rfl)) (fun _ _ _ h => h) (Or.inl ⟨by rfl, ?_⟩) ?_ ?_
                rotate_left
                · intro w'
                  go_simp
                  with_reducible rfl
                rotate_left
                · simp only [Act.put, List.setIfInBounds_toArray, List.set_cons_zero, List.set_cons_succ, i64_w, i32_w]
                  rfl
                refine pure_ (i := 6) (N := some 127) (v := ?_) (a' := ?_) #[true, true, true, true, true, true, true, false, true, false, false] rfl rfl (any_of HT_.out (by kernel_rfl)) (fun _ _ _ h => h) (Or.inl ⟨by rfl, ?_⟩) ?_ ?_
                rotate_left
                · intro w'
                  go_simp
                  with_reducible rfl
                rotate_left
                · simp only [Act.put, List.setIfInBounds_toArray, List.set_cons_zero, List.set_cons_succ, i64_w, i32_w]
                  rfl
                refine pure_ (i := 7) (N := some 128) (v := ?_) (a' := ?_) #[true, true, true, true, true, true, true, true, true, false, false] rfl rfl (any_of HT_.out (by kernel_rfl)) (fun _ _ _ h => h) (Or.inl ⟨by rfl, ?_⟩) ?_ ?_
                rotate_left
                · intro w'
                  go_simp
                  with_reducible rfl
                rotate_left
                · simp only [Act.put, List.setIfInBounds_toArray, List.set_cons_zero, List.set_cons_succ, i64_w, i32_w]
                  rfl
                exact norm_ (by simp only [putAll, Act.put, List.setIfInBounds_toArray, List.set_cons_zero, List.set_cons_succ]) (hCont (.agg #[.slice A15 t0.length c15, .slice A16 t1.length c16], gx) _ ⟨hHeld, HX.out⟩)
            rintro ⟨va, gx⟩ w17 ⟨hHeld, hbx⟩
            have HX := Aside0.mk hbx
            clear hbx
            refine norm_ (a' := ?_) ?_ ?_
            rotate_left
            · simp only [putAll, Act.put, List.setIfInBounds_toArray, List.set_cons_zero, List.set_cons_succ]
              rfl
            refine one_ (i := 9) (N := none) #[true, true, true, true, true, true, true, true, true, true, false] rfl rfl (one_of HT_.out (by kernel_rfl)) (by decide) (fun K hK => ?_)
            have hs0_ := HX.out.cell 0 rfl
            have hs1_ := HX.out.cell 1 rfl
            have fs0_ := HX.out.frozen 0
            have fs1_ := HX.out.frozen 1
            refine skip_ (w1 := ?_) (by rfl) rfl ?_ ?_
            rotate_left
            · go_simp
              rfl
            have HL := Aside0.mk (below_set' (below_set' hHeld.2.2.2.2.2 (p := ⟨gx, 0, none⟩) HX.out.1 (.int .i64 x1)) (p := ⟨gx, 1, none⟩) HX.out.1 (.int .i64 x2))
            refine hK.out _ _ (B2.out.cc B4.out HB.out HL.out) (fun hHeld => ?_)
            clear hK K hHeld
            replace HX : Aside0 (Box w15 gx #[.int .i64 x1, .int .i64 x2] 28 _) := ⟨(HX.out.put 0 (.int .i64 x1)).put 1 (.int .i64 x2)⟩
            clear hs0_ hs1_ fs0_ fs1_
            refine pure_ (i := 10) (N := some 18) (v := ?_) (a' := ?_) #[true, true, true, true, true, true, true, true, true, true, true] rfl rfl (any_of HT_.out (by kernel_rfl)) (fun _ _ _ h => h) (Or.inl ⟨by rfl, ?_⟩) ?_ ?_
            rotate_left
            · intro w'
              go_simp
              with_reducible rfl
            rotate_left
            · simp only [Act.put, List.setIfInBounds_toArray, List.set_cons_zero, List.set_cons_succ, i64_w, i32_w]
              rfl
            refine done_ (done_of HT_.out (by kernel_rfl)) ?_
            generalize ((w17.setCell _ _).setCell _ _) = w18 at HX HL ⊢
            replace B2 := Aside0.mk (B2.out.below HL.out)
            replace B4 := Aside0.mk (B4.out.below HL.out)
            replace B7 := Aside0.mk (B7.out.below HL.out)
            replace HQ0 := Aside0.mk (And.intro HQ0.out.1 (Kd.C_below HQ0.out.2 HL.out))
            replace HQ1 := Aside0.mk (And.intro HQ1.out.1 (Kd.C_below HQ1.out.2 HL.out))
            replace HB := Aside0.mk (below_step HB.out HL.out)
            clear HL
            have s0_ := B7.out.cell 0 rfl
            have s1_ := B7.out.cell 1 rfl
            have b0_ := B4.out.cell 0 rfl
            have b1_ := B4.out.cell 1 rfl
            go_wp2_with fail
            refine (lots_Taken.calls k A5 c5 q0 A6 c6 q1 (wrap64 (o - y)) o y1 y2 0 _ HQ0.out.2 HQ0.out.1 HQ1.out.2 HQ1.out.1 HTQ.out).mono ?_
            rintro e w19 ⟨rfl, hb⟩
            replace B2 := Aside0.mk (B2.out.below hb)
            replace B4 := Aside0.mk (B4.out.below hb)
            replace B7 := Aside0.mk (B7.out.below hb)
            replace HX := Aside0.mk (HX.out.below hb)
            replace HQ0 := Aside0.mk (And.intro HQ0.out.1 (Kd.C_below HQ0.out.2 hb))
            replace HQ1 := Aside0.mk (And.intro HQ1.out.1 (Kd.C_below HQ1.out.2 hb))
            replace HB := Aside0.mk (below_step HB.out hb)
            clear hb s0_ s1_ b0_ b1_
            have BYn := Aside0.mk (Box.new HB.out #[.int .i64 0, .int .i64 0] 28)
            have z0_ := BYn.out.cell 0 rfl
            have z1_ := BYn.out.cell 1 rfl
            have f0_ := BYn.out.frozen 0
            have f1_ := BYn.out.frozen 1
            have HN := Aside0.mk (box2 HB.out (.int .i64 y1) (.int .i64 y2) 28)
            have hx_ := HX.out.below HN.out.1
            have x0_ := hx_.cell 0 rfl
            have x1_ := hx_.cell 1 rfl
            clear hx_
            go_wp2_with fail
            refine (comfitlaw02_unit.calls x1 x2 true _ HUX.out).mono ?_
            rintro e w20 ⟨rfl, hb⟩
            clear z0_ z1_ f0_ f1_ x0_ x1_ BYn
            have HY := Aside0.mk (HN.out.2.below hb)
            replace HX := Aside0.mk (HX.out.below (below_step HN.out.1 hb))
            replace HB := Aside0.mk (below_step HB.out (below_step HN.out.1 hb))
            clear HN hb
            have y0_ := HY.out.cell 0 rfl
            have y1_ := HY.out.cell 1 rfl
            go_wp2_with fail
            refine (comfitlaw02_unit.calls y1 y2 true _ HUY.out).mono ?_
            rintro e w21 ⟨rfl, hb⟩
            clear y0_ y1_
            replace HY := Aside0.mk (HY.out.below hb)
            replace HX := Aside0.mk (HX.out.below hb)
            replace HB := Aside0.mk (below_step HB.out hb)
            clear hb
            obtain rfl := HXY.out
            have hsum := HSUM.out
            have y0_ := HY.out.cell 0 rfl
            have y1_ := HY.out.cell 1 rfl
            have x0_ := HX.out.cell 0 rfl
            have x1_ := HX.out.cell 1 rfl
            go_wp2_with fail
            refine (comfitlaw02_awake.calls k true _ HAW.out).mono ?_
            rintro e w22 ⟨rfl, hb⟩
            go_wp2_with fail
            go_ret
            exact ⟨rfl, below_step HB.out hb⟩
        · as_aux_lemma =>
          clear HE3
          have hbo : (ok == !ok) = false := by cases ok <;> rfl
          go_wp2_with fail
          refine (comfitref02_Is.calls y o okc _ HOK.out).mono ?_
          rintro e w15 ⟨rfl, hb⟩
          replace B2 := Aside0.mk (B2.out.below hb)
          replace B4 := Aside0.mk (B4.out.below hb)
          replace B7 := Aside0.mk (B7.out.below hb)
          replace HQ0 := Aside0.mk (And.intro HQ0.out.1 (Kd.C_below HQ0.out.2 hb))
          replace HQ1 := Aside0.mk (And.intro HQ1.out.1 (Kd.C_below HQ1.out.2 hb))
          replace HB := Aside0.mk (below_step HB.out hb)
          clear hb b0_ b1_ hbo HOK
          cases okc with
          | false =>
            clear HCH
            go_wp2_with fail
            refine (comfitlaw02_awake.calls k true _ HAW.out).mono ?_
            rintro e w3 ⟨rfl, hb⟩
            go_wp2_with fail
            go_ret
            exact ⟨rfl, below_step HB.out hb⟩
          | true =>
            obtain ⟨x1, x2, y1, y2, hcn, htk, htq, hux, huy, hxy, hsum⟩ := HCH.out.resolve_left (by decide)
            have HCN := Aside0.mk hcn
            have HTK := Aside0.mk htk
            have HTQ := Aside0.mk htq
            have HUX := Aside0.mk hux
            have HUY := Aside0.mk huy
            have HXY := Aside0.mk hxy
            have HSUM := Aside0.mk hsum
            clear hcn htk htq hux huy hxy hsum HCH
            go_wp2_with fail
            refine start_ (n := 11) (S := CC w.heap.size (.slice A0 l0.length c0) (.slice A1 l1.length c1) (w.heap.size + 1) (.int .i64 y) (.int .i64 o) w w15) (ds := []) #[false, false, false, false, false, false, false, false, false, false, false] (by kernel_rfl) rfl rfl (B2.out.cc B4.out HB.out (below_drew (Below.refl _ _))) (fun hHeld => ?_)
            refine with_tabW tudT.tab16 tudT.bits16 (fun HT_ HW_ => ?_)
            generalize (World.drew _) = w16 at hHeld ⊢
            refine take_ (i := 0) (N := some 122) (v := ?_) (a' := ?_) #[true, false, false, false, false, false, false, false, false, false, false] rfl rfl (take_ofW HT_.out HW_.out (by kernel_rfl)) (fun _ _ _ h => h) (Or.inl ⟨by rfl, ?_⟩) hHeld ?_ ?_
            rotate_left
            · rintro w' ⟨s0, s1, s2, s3, s4, s5⟩
              go_simp
              with_reducible rfl
            rotate_left
            · simp only [Act.put, List.setIfInBounds_toArray, List.set_cons_zero, List.set_cons_succ, i64_w, i32_w]
              rfl
            refine take_ (i := 2) (N := some 124) (v := ?_) (a' := ?_) #[true, false, true, false, false, false, false, false, false, false, false] rfl rfl (take_ofW HT_.out HW_.out (by kernel_rfl)) (fun _ _ _ h => h) (Or.inl ⟨by rfl, ?_⟩) hHeld ?_ ?_
            rotate_left
            · rintro w' ⟨s0, s1, s2, s3, s4, s5⟩
              go_simp
              with_reducible rfl
            rotate_left
            · simp only [Act.put, List.setIfInBounds_toArray, List.set_cons_zero, List.set_cons_succ, i64_w, i32_w]
              rfl
            refine join_ (σ := Value × Nat) 2 #[true, true, true, true, true, true, true, true, true, false, false] (fun s_ => [(123, s_.1), (125, .agg #[.int .i64 y, .int .i64 o]), (126, .tuple #[.agg #[.int .i64 x1, .int .i64 x2], .int .i64 0]), (17, .pointer (some ⟨s_.2, 0, none⟩)), (121, .tuple #[.agg #[.int .i64 x1, .int .i64 x2], .int .i64 0]), (127, .agg #[.int .i64 x1, .int .i64 x2]), (128, .int .i64 0)]) (fun s_ w' => CC w.heap.size (.slice A0 l0.length c0) (.slice A1 l1.length c1) (w.heap.size + 1) (.int .i64 y) (.int .i64 o) w w15 w' ∧ Box w15 s_.2 #[.int .i64 0, .int .i64 0] 28 w') ?_ ?_
            rotate_left
            · intro hCont
              refine two_ (i := 1) (j := 8) (Ni := some 123) (Nj := some 17) #[true, true, true, false, false, false, false, false, false, false, false] #[true, false, true, false, false, false, false, false, true, false, false] rfl rfl rfl rfl (two_of HT_.out (by kernel_rfl)) (by decide) (by decide) (fun K hK => ?_) (fun K hK => ?_)
              · skip
                refine goes_ Try.func20 (by kernel_rfl) rfl #[.agg #[.slice A0 l0.length c0, .slice A1 l1.length c1]] (by rfl) rfl rfl (by (try simp only [List.map_toArray, List.map_cons, List.map_nil]); first | done | rfl | (simp only [List.length_drop, List.length_take]; rfl)) ?_
                refine (comfitlaw02_Of.calls A0 c0 l0 A1 c1 l1 t0 t1 _ (Kd.C_below HR0.out hHeld.2.2.2.2.1) HC0.out (Kd.C_below HR1.out hHeld.2.2.2.2.1) HC1.out HOF.out).mono ?_
                rintro e wr1 ⟨v1, v2, rfl, ho0, ho1, hb⟩
                refine ⟨_, rfl, ?_⟩
                obtain ⟨A15, c15, rfl⟩ := Kd.R_slice ho0
                obtain ⟨A16, c16, rfl⟩ := Kd.R_slice ho1
                have HP0 := Aside0.mk (Kd.R_reads' ho0).2
                have HP1 := Aside0.mk (Kd.R_reads' ho1).2
                clear ho0 ho1
                refine hK.out _ _ (CC.below hHeld hb) (fun hHeld => ?_)
                clear hK K hb
                refine norm_ (a' := ?_) ?_ ?_
                rotate_left
                · show Act.put _ (some 123) _ = _
                  simp only [Act.put, List.setIfInBounds_toArray, List.set_cons_zero, List.set_cons_succ, i64_w, i32_w]
                  rfl
                refine two_ (i := 3) (j := 8) (Ni := some 125) (Nj := some 17) #[true, true, true, true, false, false, false, false, false, false, false] #[true, true, true, false, false, false, false, false, true, false, false] rfl rfl rfl rfl (two_of HT_.out (by kernel_rfl)) (by decide) (by decide) (fun K hK => ?_) (fun K hK => ?_)
                · skip
                  refine goes_ Try.func21 (by kernel_rfl) rfl #[.agg #[.int .i64 y, .int .i64 o]] (by rfl) rfl rfl (by (try simp only [List.map_toArray, List.map_cons, List.map_nil]); first | done | rfl | (simp only [List.length_drop, List.length_take]; rfl)) ?_
                  refine (comfitlaw02_chance.calls y o y o _ HCN.out).mono ?_
                  rintro e wr2 ⟨rfl, hb⟩
                  refine ⟨_, rfl, ?_⟩
                  replace HP0 := Aside0.mk (And.intro HP0.out.1 (Kd.C_below HP0.out.2 hb))
                  replace HP1 := Aside0.mk (And.intro HP1.out.1 (Kd.C_below HP1.out.2 hb))
                  refine hK.out _ _ (CC.below hHeld hb) (fun hHeld => ?_)
                  clear hK K hb
                  refine norm_ (a' := ?_) ?_ ?_
                  rotate_left
                  · show Act.put _ (some 125) _ = _
                    simp only [Act.put, List.setIfInBounds_toArray, List.set_cons_zero, List.set_cons_succ, i64_w, i32_w]
                    rfl
                  refine two_ (i := 4) (j := 8) (Ni := some 126) (Nj := some 17) #[true, true, true, true, true, false, false, false, false, false, false] #[true, true, true, true, false, false, false, false, true, false, false] rfl rfl rfl rfl (two_of HT_.out (by kernel_rfl)) (by decide) (by decide) (fun K hK => ?_) (fun K hK => ?_)
                  · skip
                    refine goes_ Try.func19 (by kernel_rfl) rfl #[.agg #[.slice A15 t0.length c15, .slice A16 t1.length c16], .agg #[.int .i64 y, .int .i64 o]] (by rfl) rfl rfl (by (try simp only [List.map_toArray, List.map_cons, List.map_nil]); first | done | rfl | (simp only [List.length_drop, List.length_take]; rfl)) ?_
                    refine (lots_Taken.calls k A15 c15 t0 A16 c16 t1 y o x1 x2 0 _ HP0.out.2 HP0.out.1 HP1.out.2 HP1.out.1 HTK.out).mono ?_
                    rintro e wr3 ⟨rfl, hb⟩
                    refine ⟨_, rfl, ?_⟩
                    replace HP0 := Aside0.mk (And.intro HP0.out.1 (Kd.C_below HP0.out.2 hb))
                    replace HP1 := Aside0.mk (And.intro HP1.out.1 (Kd.C_below HP1.out.2 hb))
                    refine hK.out _ _ (CC.below hHeld hb) (fun hHeld => ?_)
                    clear hK K hb
                    refine norm_ (a' := ?_) ?_ ?_
                    rotate_left
                    · show Act.put _ (some 126) _ = _
                      simp only [Act.put, List.setIfInBounds_toArray, List.set_cons_zero, List.set_cons_succ, i64_w, i32_w]
                      rfl
                    refine pure_ (i := 5) (N := some 121) (v := ?_) (a' := ?_) #[true, true, true, true, true, true, false, false, false, false, false] rfl rfl (any_of HT_.out (by kernel_rfl)) (fun _ _ _ h => h) (Or.inl ⟨by rfl, ?_⟩) ?_ ?_
                    rotate_left
                    · intro w'
                      go_simp
                      with_reducible rfl
                    rotate_left
                    · simp only [Act.put, List.setIfInBounds_toArray, List.set_cons_zero, List.set_cons_succ, i64_w, i32_w]
                      rfl
                    refine pure_ (i := 6) (N := some 127) (v := ?_) (a' := ?_) #[true, true, true, true, true, true, true, false, false, false, false] rfl rfl (any_of HT_.out (by kernel_rfl)) (fun _ _ _ h => h) (Or.inl ⟨by rfl, ?_⟩) ?_ ?_
                    rotate_left
                    · intro w'
                      go_simp
                      with_reducible rfl
                    rotate_left
                    · simp only [Act.put, List.setIfInBounds_toArray, List.set_cons_zero, List.set_cons_succ, i64_w, i32_w]
                      rfl
                    refine pure_ (i := 7) (N := some 128) (v := ?_) (a' := ?_) #[true, true, true, true, true, true, true, true, false, false, false] rfl rfl (any_of HT_.out (by kernel_rfl)) (fun _ _ _ h => h) (Or.inl ⟨by rfl, ?_⟩) ?_ ?_
                    rotate_left
                    · intro w'
                      go_simp
                      with_reducible rfl
                    rotate_left
                    · simp only [Act.put, List.setIfInBounds_toArray, List.set_cons_zero, List.set_cons_succ, i64_w, i32_w]
                      rfl
                    refine one_ (i := 8) (N := some 17) #[true, true, true, true, true, true, true, true, true, false, false] rfl rfl (one_of HT_.out (by kernel_rfl)) (by decide) (fun K hK => ?_)
                    refine box_step ?hg (N := 17) ?hd (cs := #[.int .i64 0, .int .i64 0]) (t := 28) ?hr ?_; (case hd => rfl); (case hg => rfl); (case hr => first | (go_simp; done) | (go_simp; rfl))
                    intro gx hg wr4 hbox hb
                    replace HP0 := Aside0.mk (And.intro HP0.out.1 (Kd.C_below HP0.out.2 hb))
                    replace HP1 := Aside0.mk (And.intro HP1.out.1 (Kd.C_below HP1.out.2 hb))
                    have HX : Aside0 (Box w15 gx #[.int .i64 0, .int .i64 0] 28 _) := ⟨⟨by rw [hg]; exact hHeld.2.2.2.2.2.size, hbox⟩⟩
                    clear hg hbox
                    refine hK.out _ _ (CC.below hHeld hb) (fun hHeld => ?_)
                    clear hK K hb
                    refine norm_ (a' := ?_) ?_ ?_
                    rotate_left
                    · show Act.put _ (some 17) _ = _
                      simp only [Act.put, List.setIfInBounds_toArray, List.set_cons_zero, List.set_cons_succ, i64_w, i32_w]
                      rfl
                    exact norm_ (by simp only [putAll, Act.put, List.setIfInBounds_toArray, List.set_cons_zero, List.set_cons_succ]) (hCont (.agg #[.slice A15 t0.length c15, .slice A16 t1.length c16], gx) _ ⟨hHeld, HX.out⟩)
                  · skip
                    refine box_step ?hg (N := 17) ?hd (cs := #[.int .i64 0, .int .i64 0]) (t := 28) ?hr ?_; (case hd => rfl); (case hg => rfl); (case hr => first | (go_simp; done) | (go_simp; rfl))
                    intro gx hg wr5 hbox hb
                    replace HP0 := Aside0.mk (And.intro HP0.out.1 (Kd.C_below HP0.out.2 hb))
                    replace HP1 := Aside0.mk (And.intro HP1.out.1 (Kd.C_below HP1.out.2 hb))
                    have HX : Aside0 (Box w15 gx #[.int .i64 0, .int .i64 0] 28 _) := ⟨⟨by rw [hg]; exact hHeld.2.2.2.2.2.size, hbox⟩⟩
                    clear hg hbox
                    refine hK.out _ _ (CC.below hHeld hb) (fun hHeld => ?_)
                    clear hK K hb
                    refine norm_ (a' := ?_) ?_ ?_
                    rotate_left
                    · show Act.put _ (some 17) _ = _
                      simp only [Act.put, List.setIfInBounds_toArray, List.set_cons_zero, List.set_cons_succ, i64_w, i32_w]
                      rfl
                    refine one_ (i := 4) (N := some 126) #[true, true, true, true, true, false, false, false, true, false, false] rfl rfl (one_of HT_.out (by kernel_rfl)) (by decide) (fun K hK => ?_)
                    refine goes_ Try.func19 (by kernel_rfl) rfl #[.agg #[.slice A15 t0.length c15, .slice A16 t1.length c16], .agg #[.int .i64 y, .int .i64 o]] (by rfl) rfl rfl (by (try simp only [List.map_toArray, List.map_cons, List.map_nil]); first | done | rfl | (simp only [List.length_drop, List.length_take]; rfl)) ?_
                    refine (lots_Taken.calls k A15 c15 t0 A16 c16 t1 y o x1 x2 0 _ HP0.out.2 HP0.out.1 HP1.out.2 HP1.out.1 HTK.out).mono ?_
                    rintro e wr6 ⟨rfl, hb⟩
                    refine ⟨_, rfl, ?_⟩
                    replace HP0 := Aside0.mk (And.intro HP0.out.1 (Kd.C_below HP0.out.2 hb))
                    replace HP1 := Aside0.mk (And.intro HP1.out.1 (Kd.C_below HP1.out.2 hb))
                    replace HX := Aside0.mk (HX.out.below hb)
                    refine hK.out _ _ (CC.below hHeld hb) (fun hHeld => ?_)
                    clear hK K hb
                    refine norm_ (a' := ?_) ?_ ?_
                    rotate_left
                    · show Act.put _ (some 126) _ = _
                      simp only [Act.put, List.setIfInBounds_toArray, List.set_cons_zero, List.set_cons_succ, i64_w, i32_w]
                      rfl
                    refine pure_ (i := 5) (N := some 121) (v := ?_) (a' := ?_) #[true, true, true, true, true, true, false, false, true, false, false] rfl rfl (any_of HT_.out (by kernel_rfl)) (fun _ _ _ h => h) (Or.inl ⟨by rfl, ?_⟩) ?_ ?_
                    rotate_left
                    · intro w'
                      go_simp
                      with_reducible rfl
                    rotate_left
                    · simp only [Act.put, List.setIfInBounds_toArray, List.set_cons_zero, List.set_cons_succ, i64_w, i32_w]
                      rfl
                    refine pure_ (i := 6) (N := some 127) (v := ?_) (a' := ?_) #[true, true, true, true, true, true, true, false, true, false, false] rfl rfl (any_of HT_.out (by kernel_rfl)) (fun _ _ _ h => h) (Or.inl ⟨by rfl, ?_⟩) ?_ ?_
                    rotate_left
                    · intro w'
                      go_simp
                      with_reducible rfl
                    rotate_left
                    · simp only [Act.put, List.setIfInBounds_toArray, List.set_cons_zero, List.set_cons_succ, i64_w, i32_w]
                      rfl
                    refine pure_ (i := 7) (N := some 128) (v := ?_) (a' := ?_) #[true, true, true, true, true, true, true, true, true, false, false] rfl rfl (any_of HT_.out (by kernel_rfl)) (fun _ _ _ h => h) (Or.inl ⟨by rfl, ?_⟩) ?_ ?_
                    rotate_left
                    · intro w'
                      go_simp
                      with_reducible rfl
                    rotate_left
                    · simp only [Act.put, List.setIfInBounds_toArray, List.set_cons_zero, List.set_cons_succ, i64_w, i32_w]
                      rfl
                    exact norm_ (by simp only [putAll, Act.put, List.setIfInBounds_toArray, List.set_cons_zero, List.set_cons_succ]) (hCont (.agg #[.slice A15 t0.length c15, .slice A16 t1.length c16], gx) _ ⟨hHeld, HX.out⟩)
                · skip
                  refine box_step ?hg (N := 17) ?hd (cs := #[.int .i64 0, .int .i64 0]) (t := 28) ?hr ?_; (case hd => rfl); (case hg => rfl); (case hr => first | (go_simp; done) | (go_simp; rfl))
                  intro gx hg wr7 hbox hb
                  replace HP0 := Aside0.mk (And.intro HP0.out.1 (Kd.C_below HP0.out.2 hb))
                  replace HP1 := Aside0.mk (And.intro HP1.out.1 (Kd.C_below HP1.out.2 hb))
                  have HX : Aside0 (Box w15 gx #[.int .i64 0, .int .i64 0] 28 _) := ⟨⟨by rw [hg]; exact hHeld.2.2.2.2.2.size, hbox⟩⟩
                  clear hg hbox
                  refine hK.out _ _ (CC.below hHeld hb) (fun hHeld => ?_)
                  clear hK K hb
                  refine norm_ (a' := ?_) ?_ ?_
                  rotate_left
                  · show Act.put _ (some 17) _ = _
                    simp only [Act.put, List.setIfInBounds_toArray, List.set_cons_zero, List.set_cons_succ, i64_w, i32_w]
                    rfl
                  refine one_ (i := 3) (N := some 125) #[true, true, true, true, false, false, false, false, true, false, false] rfl rfl (one_of HT_.out (by kernel_rfl)) (by decide) (fun K hK => ?_)
                  refine goes_ Try.func21 (by kernel_rfl) rfl #[.agg #[.int .i64 y, .int .i64 o]] (by rfl) rfl rfl (by (try simp only [List.map_toArray, List.map_cons, List.map_nil]); first | done | rfl | (simp only [List.length_drop, List.length_take]; rfl)) ?_
                  refine (comfitlaw02_chance.calls y o y o _ HCN.out).mono ?_
                  rintro e wr8 ⟨rfl, hb⟩
                  refine ⟨_, rfl, ?_⟩
                  replace HP0 := Aside0.mk (And.intro HP0.out.1 (Kd.C_below HP0.out.2 hb))
                  replace HP1 := Aside0.mk (And.intro HP1.out.1 (Kd.C_below HP1.out.2 hb))
                  replace HX := Aside0.mk (HX.out.below hb)
                  refine hK.out _ _ (CC.below hHeld hb) (fun hHeld => ?_)
                  clear hK K hb
                  refine norm_ (a' := ?_) ?_ ?_
                  rotate_left
                  · show Act.put _ (some 125) _ = _
                    simp only [Act.put, List.setIfInBounds_toArray, List.set_cons_zero, List.set_cons_succ, i64_w, i32_w]
                    rfl
                  refine one_ (i := 4) (N := some 126) #[true, true, true, true, true, false, false, false, true, false, false] rfl rfl (one_of HT_.out (by kernel_rfl)) (by decide) (fun K hK => ?_)
                  refine goes_ Try.func19 (by kernel_rfl) rfl #[.agg #[.slice A15 t0.length c15, .slice A16 t1.length c16], .agg #[.int .i64 y, .int .i64 o]] (by rfl) rfl rfl (by (try simp only [List.map_toArray, List.map_cons, List.map_nil]); first | done | rfl | (simp only [List.length_drop, List.length_take]; rfl)) ?_
                  refine (lots_Taken.calls k A15 c15 t0 A16 c16 t1 y o x1 x2 0 _ HP0.out.2 HP0.out.1 HP1.out.2 HP1.out.1 HTK.out).mono ?_
                  rintro e wr9 ⟨rfl, hb⟩
                  refine ⟨_, rfl, ?_⟩
                  replace HP0 := Aside0.mk (And.intro HP0.out.1 (Kd.C_below HP0.out.2 hb))
                  replace HP1 := Aside0.mk (And.intro HP1.out.1 (Kd.C_below HP1.out.2 hb))
                  replace HX := Aside0.mk (HX.out.below hb)
                  refine hK.out _ _ (CC.below hHeld hb) (fun hHeld => ?_)
                  clear hK K hb
                  refine norm_ (a' := ?_) ?_ ?_
                  rotate_left
                  · show Act.put _ (some 126) _ = _
                    simp only [Act.put, List.setIfInBounds_toArray, List.set_cons_zero, List.set_cons_succ, i64_w, i32_w]
                    rfl
                  refine pure_ (i := 5) (N := some 121) (v := ?_) (a' := ?_) #[true, true, true, true, true, true, false, false, true, false, false] rfl rfl (any_of HT_.out (by kernel_rfl)) (fun _ _ _ h => h) (Or.inl ⟨by rfl, ?_⟩) ?_ ?_
                  rotate_left
                  · intro w'
                    go_simp
                    with_reducible rfl
                  rotate_left
                  · simp only [Act.put, List.setIfInBounds_toArray, List.set_cons_zero, List.set_cons_succ, i64_w, i32_w]
                    rfl
                  refine pure_ (i := 6) (N := some 127) (v := ?_) (a' := ?_) #[true, true, true, true, true, true, true, false, true, false, false] rfl rfl (any_of HT_.out (by kernel_rfl)) (fun _ _ _ h => h) (Or.inl ⟨by rfl, ?_⟩) ?_ ?_
                  rotate_left
                  · intro w'
                    go_simp
                    with_reducible rfl
                  rotate_left
                  · simp only [Act.put, List.setIfInBounds_toArray, List.set_cons_zero, List.set_cons_succ, i64_w, i32_w]
                    rfl
                  refine pure_ (i := 7) (N := some 128) (v := ?_) (a' := ?_) #[true, true, true, true, true, true, true, true, true, false, false] rfl rfl (any_of HT_.out (by kernel_rfl)) (fun _ _ _ h => h) (Or.inl ⟨by rfl, ?_⟩) ?_ ?_
                  rotate_left
                  · intro w'
                    go_simp
                    with_reducible rfl
                  rotate_left
                  · simp only [Act.put, List.setIfInBounds_toArray, List.set_cons_zero, List.set_cons_succ, i64_w, i32_w]
                    rfl
                  exact norm_ (by simp only [putAll, Act.put, List.setIfInBounds_toArray, List.set_cons_zero, List.set_cons_succ]) (hCont (.agg #[.slice A15 t0.length c15, .slice A16 t1.length c16], gx) _ ⟨hHeld, HX.out⟩)
              · skip
                refine box_step ?hg (N := 17) ?hd (cs := #[.int .i64 0, .int .i64 0]) (t := 28) ?hr ?_; (case hd => rfl); (case hg => rfl); (case hr => first | (go_simp; done) | (go_simp; rfl))
                intro gx hg wr10 hbox hb
                have HX : Aside0 (Box w15 gx #[.int .i64 0, .int .i64 0] 28 _) := ⟨⟨by rw [hg]; exact hHeld.2.2.2.2.2.size, hbox⟩⟩
                clear hg hbox
                refine hK.out _ _ (CC.below hHeld hb) (fun hHeld => ?_)
                clear hK K hb
                refine norm_ (a' := ?_) ?_ ?_
                rotate_left
                · show Act.put _ (some 17) _ = _
                  simp only [Act.put, List.setIfInBounds_toArray, List.set_cons_zero, List.set_cons_succ, i64_w, i32_w]
                  rfl
                refine one_ (i := 1) (N := some 123) #[true, true, true, false, false, false, false, false, true, false, false] rfl rfl (one_of HT_.out (by kernel_rfl)) (by decide) (fun K hK => ?_)
                refine goes_ Try.func20 (by kernel_rfl) rfl #[.agg #[.slice A0 l0.length c0, .slice A1 l1.length c1]] (by rfl) rfl rfl (by (try simp only [List.map_toArray, List.map_cons, List.map_nil]); first | done | rfl | (simp only [List.length_drop, List.length_take]; rfl)) ?_
                refine (comfitlaw02_Of.calls A0 c0 l0 A1 c1 l1 t0 t1 _ (Kd.C_below HR0.out hHeld.2.2.2.2.1) HC0.out (Kd.C_below HR1.out hHeld.2.2.2.2.1) HC1.out HOF.out).mono ?_
                rintro e wr11 ⟨v1, v2, rfl, ho0, ho1, hb⟩
                refine ⟨_, rfl, ?_⟩
                replace HX := Aside0.mk (HX.out.below hb)
                obtain ⟨A15, c15, rfl⟩ := Kd.R_slice ho0
                obtain ⟨A16, c16, rfl⟩ := Kd.R_slice ho1
                have HP0 := Aside0.mk (Kd.R_reads' ho0).2
                have HP1 := Aside0.mk (Kd.R_reads' ho1).2
                clear ho0 ho1
                refine hK.out _ _ (CC.below hHeld hb) (fun hHeld => ?_)
                clear hK K hb
                refine norm_ (a' := ?_) ?_ ?_
                rotate_left
                · show Act.put _ (some 123) _ = _
                  simp only [Act.put, List.setIfInBounds_toArray, List.set_cons_zero, List.set_cons_succ, i64_w, i32_w]
                  rfl
                refine one_ (i := 3) (N := some 125) #[true, true, true, true, false, false, false, false, true, false, false] rfl rfl (one_of HT_.out (by kernel_rfl)) (by decide) (fun K hK => ?_)
                refine goes_ Try.func21 (by kernel_rfl) rfl #[.agg #[.int .i64 y, .int .i64 o]] (by rfl) rfl rfl (by (try simp only [List.map_toArray, List.map_cons, List.map_nil]); first | done | rfl | (simp only [List.length_drop, List.length_take]; rfl)) ?_
                refine (comfitlaw02_chance.calls y o y o _ HCN.out).mono ?_
                rintro e wr12 ⟨rfl, hb⟩
                refine ⟨_, rfl, ?_⟩
                replace HP0 := Aside0.mk (And.intro HP0.out.1 (Kd.C_below HP0.out.2 hb))
                replace HP1 := Aside0.mk (And.intro HP1.out.1 (Kd.C_below HP1.out.2 hb))
                replace HX := Aside0.mk (HX.out.below hb)
                refine hK.out _ _ (CC.below hHeld hb) (fun hHeld => ?_)
                clear hK K hb
                refine norm_ (a' := ?_) ?_ ?_
                rotate_left
                · show Act.put _ (some 125) _ = _
                  simp only [Act.put, List.setIfInBounds_toArray, List.set_cons_zero, List.set_cons_succ, i64_w, i32_w]
                  rfl
                refine one_ (i := 4) (N := some 126) #[true, true, true, true, true, false, false, false, true, false, false] rfl rfl (one_of HT_.out (by kernel_rfl)) (by decide) (fun K hK => ?_)
                refine goes_ Try.func19 (by kernel_rfl) rfl #[.agg #[.slice A15 t0.length c15, .slice A16 t1.length c16], .agg #[.int .i64 y, .int .i64 o]] (by rfl) rfl rfl (by (try simp only [List.map_toArray, List.map_cons, List.map_nil]); first | done | rfl | (simp only [List.length_drop, List.length_take]; rfl)) ?_
                refine (lots_Taken.calls k A15 c15 t0 A16 c16 t1 y o x1 x2 0 _ HP0.out.2 HP0.out.1 HP1.out.2 HP1.out.1 HTK.out).mono ?_
                rintro e wr13 ⟨rfl, hb⟩
                refine ⟨_, rfl, ?_⟩
                replace HP0 := Aside0.mk (And.intro HP0.out.1 (Kd.C_below HP0.out.2 hb))
                replace HP1 := Aside0.mk (And.intro HP1.out.1 (Kd.C_below HP1.out.2 hb))
                replace HX := Aside0.mk (HX.out.below hb)
                refine hK.out _ _ (CC.below hHeld hb) (fun hHeld => ?_)
                clear hK K hb
                refine norm_ (a' := ?_) ?_ ?_
                rotate_left
                · show Act.put _ (some 126) _ = _
                  simp only [Act.put, List.setIfInBounds_toArray, List.set_cons_zero, List.set_cons_succ, i64_w, i32_w]
                  rfl
                refine pure_ (i := 5) (N := some 121) (v := ?_) (a' := ?_) #[true, true, true, true, true, true, false, false, true, false, false] rfl rfl (any_of HT_.out (by kernel_rfl)) (fun _ _ _ h => h) (Or.inl ⟨by rfl, ?_⟩) ?_ ?_
                rotate_left
                · intro w'
                  go_simp
                  with_reducible rfl
                rotate_left
                · simp only [Act.put, List.setIfInBounds_toArray, List.set_cons_zero, List.set_cons_succ, i64_w, i32_w]
                  rfl
                refine pure_ (i := 6) (N := some 127) (v := ?_) (a' := ?_) #[true, true, true, true, true, true, true, false, true, false, false] rfl rfl (any_of HT_.out (by kernel_rfl)) (fun _ _ _ h => h) (Or.inl ⟨by rfl, ?_⟩) ?_ ?_
                rotate_left
                · intro w'
                  go_simp
                  with_reducible rfl
                rotate_left
                · simp only [Act.put, List.setIfInBounds_toArray, List.set_cons_zero, List.set_cons_succ, i64_w, i32_w]
                  rfl
                refine pure_ (i := 7) (N := some 128) (v := ?_) (a' := ?_) #[true, true, true, true, true, true, true, true, true, false, false] rfl rfl (any_of HT_.out (by kernel_rfl)) (fun _ _ _ h => h) (Or.inl ⟨by rfl, ?_⟩) ?_ ?_
                rotate_left
                · intro w'
                  go_simp
                  with_reducible rfl
                rotate_left
                · simp only [Act.put, List.setIfInBounds_toArray, List.set_cons_zero, List.set_cons_succ, i64_w, i32_w]
                  rfl
                exact norm_ (by simp only [putAll, Act.put, List.setIfInBounds_toArray, List.set_cons_zero, List.set_cons_succ]) (hCont (.agg #[.slice A15 t0.length c15, .slice A16 t1.length c16], gx) _ ⟨hHeld, HX.out⟩)
            rintro ⟨va, gx⟩ w17 ⟨hHeld, hbx⟩
            have HX := Aside0.mk hbx
            clear hbx
            refine norm_ (a' := ?_) ?_ ?_
            rotate_left
            · simp only [putAll, Act.put, List.setIfInBounds_toArray, List.set_cons_zero, List.set_cons_succ]
              rfl
            refine one_ (i := 9) (N := none) #[true, true, true, true, true, true, true, true, true, true, false] rfl rfl (one_of HT_.out (by kernel_rfl)) (by decide) (fun K hK => ?_)
            have hs0_ := HX.out.cell 0 rfl
            have hs1_ := HX.out.cell 1 rfl
            have fs0_ := HX.out.frozen 0
            have fs1_ := HX.out.frozen 1
            refine skip_ (w1 := ?_) (by rfl) rfl ?_ ?_
            rotate_left
            · go_simp
              rfl
            have HL := Aside0.mk (below_set' (below_set' hHeld.2.2.2.2.2 (p := ⟨gx, 0, none⟩) HX.out.1 (.int .i64 x1)) (p := ⟨gx, 1, none⟩) HX.out.1 (.int .i64 x2))
            refine hK.out _ _ (B2.out.cc B4.out HB.out HL.out) (fun hHeld => ?_)
            clear hK K hHeld
            replace HX : Aside0 (Box w15 gx #[.int .i64 x1, .int .i64 x2] 28 _) := ⟨(HX.out.put 0 (.int .i64 x1)).put 1 (.int .i64 x2)⟩
            clear hs0_ hs1_ fs0_ fs1_
            refine pure_ (i := 10) (N := some 18) (v := ?_) (a' := ?_) #[true, true, true, true, true, true, true, true, true, true, true] rfl rfl (any_of HT_.out (by kernel_rfl)) (fun _ _ _ h => h) (Or.inl ⟨by rfl, ?_⟩) ?_ ?_
            rotate_left
            · intro w'
              go_simp
              with_reducible rfl
            rotate_left
            · simp only [Act.put, List.setIfInBounds_toArray, List.set_cons_zero, List.set_cons_succ, i64_w, i32_w]
              rfl
            refine done_ (done_of HT_.out (by kernel_rfl)) ?_
            generalize ((w17.setCell _ _).setCell _ _) = w18 at HX HL ⊢
            replace B2 := Aside0.mk (B2.out.below HL.out)
            replace B4 := Aside0.mk (B4.out.below HL.out)
            replace B7 := Aside0.mk (B7.out.below HL.out)
            replace HQ0 := Aside0.mk (And.intro HQ0.out.1 (Kd.C_below HQ0.out.2 HL.out))
            replace HQ1 := Aside0.mk (And.intro HQ1.out.1 (Kd.C_below HQ1.out.2 HL.out))
            replace HB := Aside0.mk (below_step HB.out HL.out)
            clear HL
            have s0_ := B7.out.cell 0 rfl
            have s1_ := B7.out.cell 1 rfl
            have b0_ := B4.out.cell 0 rfl
            have b1_ := B4.out.cell 1 rfl
            go_wp2_with fail
            refine (lots_Taken.calls k A5 c5 q0 A6 c6 q1 (wrap64 (o - y)) o y1 y2 0 _ HQ0.out.2 HQ0.out.1 HQ1.out.2 HQ1.out.1 HTQ.out).mono ?_
            rintro e w19 ⟨rfl, hb⟩
            replace B2 := Aside0.mk (B2.out.below hb)
            replace B4 := Aside0.mk (B4.out.below hb)
            replace B7 := Aside0.mk (B7.out.below hb)
            replace HX := Aside0.mk (HX.out.below hb)
            replace HQ0 := Aside0.mk (And.intro HQ0.out.1 (Kd.C_below HQ0.out.2 hb))
            replace HQ1 := Aside0.mk (And.intro HQ1.out.1 (Kd.C_below HQ1.out.2 hb))
            replace HB := Aside0.mk (below_step HB.out hb)
            clear hb s0_ s1_ b0_ b1_
            have BYn := Aside0.mk (Box.new HB.out #[.int .i64 0, .int .i64 0] 28)
            have z0_ := BYn.out.cell 0 rfl
            have z1_ := BYn.out.cell 1 rfl
            have f0_ := BYn.out.frozen 0
            have f1_ := BYn.out.frozen 1
            have HN := Aside0.mk (box2 HB.out (.int .i64 y1) (.int .i64 y2) 28)
            have hx_ := HX.out.below HN.out.1
            have x0_ := hx_.cell 0 rfl
            have x1_ := hx_.cell 1 rfl
            clear hx_
            go_wp2_with fail
            refine (comfitlaw02_unit.calls x1 x2 true _ HUX.out).mono ?_
            rintro e w20 ⟨rfl, hb⟩
            clear z0_ z1_ f0_ f1_ x0_ x1_ BYn
            have HY := Aside0.mk (HN.out.2.below hb)
            replace HX := Aside0.mk (HX.out.below (below_step HN.out.1 hb))
            replace HB := Aside0.mk (below_step HB.out (below_step HN.out.1 hb))
            clear HN hb
            have y0_ := HY.out.cell 0 rfl
            have y1_ := HY.out.cell 1 rfl
            go_wp2_with fail
            refine (comfitlaw02_unit.calls y1 y2 true _ HUY.out).mono ?_
            rintro e w21 ⟨rfl, hb⟩
            clear y0_ y1_
            replace HY := Aside0.mk (HY.out.below hb)
            replace HX := Aside0.mk (HX.out.below hb)
            replace HB := Aside0.mk (below_step HB.out hb)
            clear hb
            obtain rfl := HXY.out
            have hsum := HSUM.out
            have y0_ := HY.out.cell 0 rfl
            have y1_ := HY.out.cell 1 rfl
            have x0_ := HX.out.cell 0 rfl
            have x1_ := HX.out.cell 1 rfl
            go_wp2_with fail
            refine (comfitlaw02_awake.calls k true _ HAW.out).mono ?_
            rintro e w22 ⟨rfl, hb⟩
            go_wp2_with fail
            go_ret
            exact ⟨rfl, below_step HB.out hb⟩
end Go.Proofs.Ytdppnmfljfdhaaa.X
