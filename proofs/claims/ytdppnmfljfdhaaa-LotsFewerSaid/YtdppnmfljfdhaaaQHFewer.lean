/- The walk through the law LotsFewer: told by the results that its calls are known to have. -/
import Derived.Test.YtdppnmfljfdhaaaQHTwice
import Derived.Test.YtdppnmfljfdhaaaQHTaken
import Derived.Test.YtdppnmfljfdhaaaQHShort
import Derived.Test.YtdppnmfljfdhaaaQXlotsSingle
import Derived.Test.YtdppnmfljfdhaaaQXL
import Derived.Test.YtdppnmfljfdhaaaQXLO
import Derived.Test.YtdppnmfljfdhaaaQXR
import Derived.Test.YtdppnmfljfdhaaaQXcomfitlaw02awake
set_option linter.unusedVariables false
set_option linter.unusedSimpArgs false
namespace Go.Proofs.Ytdppnmfljfdhaaa.X
open Go.RowKit Go.Proofs.YtdppnmfljfdhaaaW.PrintWords Go.Proofs.YtdppnmfljfdhaaaW.PrintLast Go.Proofs.YtdppnmfljfdhaaaW.PrintMore
attribute [local go_sem] max2_int min2_int max_two min_two max_three min_three max_four min_four
attribute [local go_sem] Oper.semAt_some

/-- Two variables of two cells, and what lay before. -/
def CF (g : Nat) (u0 u1 : Value) (g' : Nat) (u2 u3 : Value) (w w7 W : World) : Prop := W.cell? ⟨g, 0, none⟩ = some u0 ∧ W.cell? ⟨g, 1, none⟩ = some u1 ∧ W.cell? ⟨g', 0, none⟩ = some u2 ∧ W.cell? ⟨g', 1, none⟩ = some u3 ∧ Below w.heap.size w W ∧ Below w7.heap.size w7 W
section
variable {g g' : Nat} {u0 u1 u2 u3 : Value} {w w7 W W1 : World}
theorem cell_keep2 {a : Addr} {u : Value} (h : W.cell? a = some u) (hb : Below W.heap.size W W1) : W1.cell? a = some u := (hb.cell (World.block_lt_of_cell? W _ h)).trans h
theorem CF.below (h : CF g u0 u1 g' u2 u3 w w7 W) (hb : Below W.heap.size W W1) : CF g u0 u1 g' u2 u3 w w7 W1 := by
  obtain ⟨h0, h1, h2, h3, h4, h5⟩ := h
  exact ⟨cell_keep2 h0 hb, cell_keep2 h1 hb, cell_keep2 h2 hb, cell_keep2 h3 hb, below_step h4 hb, below_step h5 hb⟩
theorem cf_of {t0 t1 : TypeId} {x0 x1 : World} (h0 : Box x0 g #[u0, u1] t0 W) (h1 : Box x1 g' #[u2, u3] t1 W) (hb : Below w.heap.size w W) (hw : Below W.heap.size W W1) : CF g u0 u1 g' u2 u3 w W W1 :=
  ⟨(h0.below hw).cell 0 rfl, (h0.below hw).cell 1 rfl, (h1.below hw).cell 0 rfl, (h1.below hw).cell 1 rfl, below_step hb hw, hw⟩
end
/-- The row of two plans. -/
theorem row2 {w0 W : World} {g : Nat} {A B C D : Option Addr} {a b c d : Nat} {T0 L0 T1 L1 : List Int} (hb : Box w0 g #[.slice A T0.length a, .slice B L0.length b, .slice C T1.length c, .slice D L1.length d] 32 W)
    (a0 : T0.length ≤ a) (a1 : (Kd.int .i64).C W A T0.length T0) (b0 : L0.length ≤ b) (b1 : (Kd.int .i64).C W B L0.length L0) (c0 : T1.length ≤ c) (c1 : (Kd.int .i64).C W C T1.length T1) (d0 : L1.length ≤ d) (d1 : (Kd.int .i64).C W D L1.length L1) :
    Kd.C k32 W (some ⟨g, 0, none⟩) 2 [⟨T0, L0⟩, ⟨T1, L1⟩] := by
  refine ⟨rfl, by decide, fun _ => ⟨_, rfl, fun j p hj => ?_⟩⟩
  have hc : ∀ i u, ([.slice A T0.length a, .slice B L0.length b, .slice C T1.length c, .slice D L1.length d] : List Value)[i]? = some u → W.cell? (Addr.add ⟨g, 0, none⟩ i) = some u := by
    intro i u hu
    rw [add_plain]
    exact hb.cell i (by simpa using hu)
  match j, hj with
  | 0, hj =>
    obtain rfl : (⟨T0, L0⟩ : S32) = p := by simpa using hj
    refine ⟨_, rfl, k32_mk W ⟨T0, L0⟩ a0 a1 b0 b1, fun i u hu => hc _ _ ?_⟩
    match i, hu with
    | 0, hu => exact hu
    | 1, hu => exact hu
  | 1, hj =>
    obtain rfl : (⟨T1, L1⟩ : S32) = p := by simpa using hj
    refine ⟨_, rfl, k32_mk W ⟨T1, L1⟩ c0 c1 d0 d1, fun i u hu => hc _ _ ?_⟩
    match i, hu with
    | 0, hu => exact hu
    | 1, hu => exact hu
theorem meas_down3 (n : Int) (i : Nat) (x : Int) (hx : x = ((i + 1 : Nat) : Int)) (h : (i : Int) < n) : n.toNat - (intOf (.int .i64 x)).toNat < n.toNat - (intOf (.int .i64 (i : Int))).toNat := by
  subst hx
  simp only [intOf, Int.toNat_natCast]
  omega
theorem meas_down4 (n j : Nat) (x : Int) (hx : x = ((j + 1 : Nat) : Int)) (h : j < n) : n - (intOf (.int .i64 x)).toNat < n - (intOf (.int .i64 (j : Int))).toNat := by
  subst hx
  simp only [intOf, Int.toNat_natCast]
  omega
/-- A power, round by round. -/
def powI (o : Int) : Nat → Int
  | 0 => 1
  | j + 1 => wrap64 (powI o j * o)
theorem powI_succ (o : Int) (j : Nat) : wrap64 (powI o j * o) = powI o (j + 1) := rfl
/-- What the law finds of one plan. -/
def FewOk (k : Nat) (n y o ls : Int) (first : Prop) (T L : List Int) : Prop := ∃ (P Q : List Int) (a1 a2 b1 b2 m1 m2 : Int), comfitlaw02_Of.f T L = some (P, Q) ∧ lots_Taken.f k P Q y o = some (a1, a2, 0) ∧ lots_Taken.f k P Q ls o = some (b1, b2, 0) ∧ lots_Looks.f k P Q y o = some (m1, m2, 0) ∧
  comfitlaw02_unit.f a1 a2 = some true ∧ comfitlaw02_unit.f b1 b2 = some true ∧ 1 ≤ m2 ∧ m2 ≤ m1 ∧ m1 ≤ wrap64 (n * m2) ∧ (first → m1 = n ∧ m2 = 1) ∧ 1 ≤ a2 ∧ 1 ≤ b2 ∧ Int.tmod (powI o n.toNat) a2 = 0 ∧ Int.tmod (powI o n.toNat) b2 = 0 ∧
  ¬ wrap64 (b1 * wrap64 (Int.tdiv (powI o n.toNat) b2)) < wrap64 (a1 * wrap64 (Int.tdiv (powI o n.toNat) a2))
def fewT.T9 : Bool × List (List Nat × List Nat) := (true, [([], []), ([0], [0]), ([1, 1], [1]), ([], []), ([3, 2], [3]), ([2, 4, 4], [2, 4]), ([5], [5]), ([6], [6]), ([6], [6]), ([], []), ([9, 7, 5, 0, 1, 2, 3, 4, 5, 6, 7, 9], [7, 9]), ([8, 10, 0, 1, 2, 3, 4, 5, 6, 7, 8, 9, 10], [8])])
def fewT.B9 : List Nat := [0, 1, 3, 0, 15, 31, 63, 127, 127, 0, 767, 2047]
theorem fewT.tab9 : rtab .any (opsOf Try.f16 9) = fewT.T9 := by kernel_rfl
theorem fewT.bits9 : waitsOk fewT.T9.2 fewT.B9 = true := by kernel_rfl
def fewT.T10 : Bool × List (List Nat × List Nat) := (true, [([], []), ([0], [0]), ([1, 1], [1]), ([], []), ([], []), ([4], [4]), ([3, 5], [3, 5]), ([2, 6, 2], [2, 6]), ([7], [7]), ([8], [8]), ([8], [8]), ([], []), ([11, 9, 7, 0, 1, 2, 3, 4, 5, 6, 7, 8, 9, 11], [9, 11]), ([10, 12, 0, 1, 2, 3, 4, 5, 6, 7, 8, 9, 10, 11, 12], [10])])
def fewT.B10 : List Nat := [0, 1, 3, 0, 0, 16, 56, 127, 255, 511, 511, 0, 3071, 8191]
theorem fewT.tab10 : rtab .any (opsOf Try.f16 10) = fewT.T10 := by kernel_rfl
theorem fewT.bits10 : waitsOk fewT.T10.2 fewT.B10 = true := by kernel_rfl
def fewT.T11 : Bool × List (List Nat × List Nat) := (true, [([], []), ([0], [0]), ([1, 1], [1]), ([], []), ([3, 2], [3]), ([2, 4, 4], [2, 4]), ([5], [5]), ([6], [6]), ([6], [6]), ([], []), ([9, 7, 5, 0, 1, 2, 3, 4, 5, 6, 7, 9], [7, 9]), ([8, 10, 0, 1, 2, 3, 4, 5, 6, 7, 8, 9, 10], [8])])
def fewT.B11 : List Nat := [0, 1, 3, 0, 15, 31, 63, 127, 127, 0, 767, 2047]
theorem fewT.tab11 : rtab .any (opsOf Try.f16 11) = fewT.T11 := by kernel_rfl
theorem fewT.bits11 : waitsOk fewT.T11.2 fewT.B11 = true := by kernel_rfl
def fewT.T19 : Bool × List (List Nat × List Nat) := (true, [([], []), ([], []), ([1], [1]), ([0, 2], [0, 2]), ([3], [3]), ([4], [4]), ([5], [5]), ([5], [5]), ([7, 5], [5, 7]), ([6, 8, 5], [5, 6, 8]), ([9, 5], [5, 9]), ([5, 10], [5, 10]), ([11, 5], [11]), ([12], [12]), ([13, 12], [12, 13]), ([12], [12]), ([12], [12]), ([16, 12], [12, 16]), ([15, 17, 12], [12, 15, 17]), ([14, 18, 12], [12, 14, 18]), ([12], [12]), ([20, 12], [12, 20]), ([12], [12]), ([12], [12]), ([23, 12], [12, 23]), ([22, 24, 12], [12, 22, 24]), ([21, 25, 12], [12, 21, 25]), ([19, 26, 12], [12, 19, 26]), ([12, 27], [12, 27])])
def fewT.B19 : List Nat := [0, 0, 2, 7, 15, 31, 63, 63, 191, 511, 1023, 2047, 4095, 8191, 16383, 8191, 8191, 73727, 237567, 524287, 8191, 1056767, 8191, 8191, 8396799, 29368319, 66068479, 134217727, 268435455]
theorem fewT.tab19 : rtab .any (opsOf Try.f16 19) = fewT.T19 := by kernel_rfl
theorem fewT.bits19 : waitsOk fewT.T19.2 fewT.B19 = true := by kernel_rfl
set_option maxRecDepth 100000 in
set_option maxHeartbeats 16000000 in
theorem LotsFewer_calls (k : Nat) (n c y o less : Int) (T0 L0 T1 L1 : List Int) (e0 ls : Int) (w : World)
    (hs : lots_Single.f n c = some (T0, L0, e0)) (hq : lots_Short.f n c = some (T1, L1, e0)) (haw : comfitlaw02_awake.f k = some true)
    (h : e0 = 2 ∨ (e0 = 0 ∧ comfitref02_Numbers.f n c = some true ∧ (comfitref02_Is.f y o = some false ∨ (comfitref02_Is.f y o = some true ∧ 0 ≤ n ∧ n ≤ 12 ∧ (¬ IntKind.u64.wrap (wrap64 (y + 1)) = 0 ∧ wrap64 (Int.tmod (IntKind.u64.wrap less) (IntKind.u64.wrap (wrap64 (y + 1)))) = ls) ∧ FewOk k n y o ls True T0 L0 ∧ FewOk k n y o ls False T1 L1)))) :
    Calls Try.prog 16 #[.int .i64 n, .int .i64 c, .agg #[.int .i64 y, .int .i64 o], .int .i64 less] w fun e w' => e = .returned (.bool true) ∧ Below w.heap.size w w' := by
  have hu26 := Try.underlying26
  have hu34 := Try.underlying34
  have hu28 := Try.underlying28
  have hu24 := Try.underlying24
  have hu32 := Try.underlying32
  have HS := Aside0.mk hs
  have HQ := Aside0.mk hq
  have HAW := Aside0.mk haw
  have HCH : Aside0 (comfitlaw02_chance.f y o = some (y, o)) := ⟨rfl⟩
  have HH := Aside0.mk h
  clear hs hq haw h
  have HB := Aside0.mk (below_alloc (Below.refl w.heap.size w) (.cells #[.int .i64 y, .int .i64 o] 26))
  have B6 := Aside0.mk (Box.new (Below.refl w.heap.size w) #[.int .i64 y, .int .i64 o] 26)
  go_enter Try.func16, Try.ntmps16
  go_wp2_with fail
  refine (lots_Single.calls n c T0 L0 e0 _ HS.out).mono ?_
  rintro e w1 ⟨v1, v2, rfl, ho0, ho1, hb⟩
  have RT0 := Aside0.mk (Kd.R_lower ho0 (below_size HB.out))
  have RL0 := Aside0.mk (Kd.R_lower ho1 (below_size HB.out))
  obtain ⟨A3, c3, rfl⟩ := Kd.R_slice ho0
  obtain ⟨A4, c4, rfl⟩ := Kd.R_slice ho1
  replace RT0 := Aside0.mk (Kd.R_mono RT0.out (fun _ _ => trivial) (ok' := fun _ => True))
  replace RL0 := Aside0.mk (Kd.R_mono RL0.out (fun _ _ => trivial) (ok' := fun _ => True))
  clear ho0 ho1 HS
  replace B6 := Aside0.mk (B6.out.below hb)
  replace HB := Aside0.mk (below_step HB.out hb)
  clear hb
  have B9n := Aside0.mk (Box.new HB.out #[.slice none 0 0, .slice none 0 0] 32)
  have z0_ := B9n.out.cell 0 rfl
  have z1_ := B9n.out.cell 1 rfl
  have y0_ := B9n.out.frozen 0
  have y1_ := B9n.out.frozen 1
  have HN := Aside0.mk (box2 HB.out (.slice A3 T0.length c3) (.slice A4 L0.length c4) 32)
  go_wp2_with fail
  refine (lots_Short.calls n c T1 L1 e0 _ HQ.out).mono ?_
  rintro e w2 ⟨v1, v2, rfl, ho0, ho1, hb⟩
  have h12 := below_step HN.out.1 hb
  have RT1 := Aside0.mk (Kd.R_lower ho0 (below_size (below_step HB.out HN.out.1)))
  have RL1 := Aside0.mk (Kd.R_lower ho1 (below_size (below_step HB.out HN.out.1)))
  obtain ⟨A5, c5, rfl⟩ := Kd.R_slice ho0
  obtain ⟨A6, c6, rfl⟩ := Kd.R_slice ho1
  replace RT1 := Aside0.mk (Kd.R_mono RT1.out (fun _ _ => trivial) (ok' := fun _ => True))
  replace RL1 := Aside0.mk (Kd.R_mono RL1.out (fun _ _ => trivial) (ok' := fun _ => True))
  have B9 := Aside0.mk (HN.out.2.below hb)
  clear ho0 ho1 HQ z0_ z1_ y0_ y1_ B9n
  replace B6 := Aside0.mk (B6.out.below h12)
  replace RT0 := Aside0.mk (Kd.R_below RT0.out h12)
  replace RL0 := Aside0.mk (Kd.R_below RL0.out h12)
  replace HB := Aside0.mk (below_step HB.out h12)
  clear hb h12 HN
  have B11n := Aside0.mk (Box.new HB.out #[.slice none 0 0, .slice none 0 0] 32)
  have z0_ := B11n.out.cell 0 rfl
  have z1_ := B11n.out.cell 1 rfl
  have y0_ := B11n.out.frozen 0
  have y1_ := B11n.out.frozen 1
  have HN := Aside0.mk (box2 HB.out (.slice A5 T1.length c5) (.slice A6 L1.length c6) 32)
  rcases HH.out with rfl | ⟨rfl, hnum, hcase⟩
  · clear HH
    go_wp2_with fail
    refine (comfitlaw02_awake.calls k true _ HAW.out).mono ?_
    rintro e w4 ⟨rfl, hb⟩
    go_wp2_with fail
    go_ret
    exact ⟨rfl, below_step HB.out (below_step HN.out.1 hb)⟩
  have HNU := Aside0.mk hnum
  have HCA := Aside0.mk hcase
  clear hnum hcase HH
  go_wp2_with fail
  refine (comfitref02_Numbers.calls n c true _ HNU.out).mono ?_
  rintro e w3 ⟨rfl, hd⟩
  have hb := hd.below
  have h12 := below_step HN.out.1 hb
  have B11 := Aside0.mk (HN.out.2.below hb)
  clear z0_ z1_ y0_ y1_ B11n hd
  replace B6 := Aside0.mk (B6.out.below h12)
  replace B9 := Aside0.mk (B9.out.below h12)
  replace RT0 := Aside0.mk (Kd.R_below RT0.out h12)
  replace RL0 := Aside0.mk (Kd.R_below RL0.out h12)
  replace RT1 := Aside0.mk (Kd.R_below RT1.out h12)
  replace RL1 := Aside0.mk (Kd.R_below RL1.out h12)
  replace HB := Aside0.mk (below_step HB.out h12)
  clear hb h12 HN HNU
  have fB60_ := B6.out.cell 0 rfl
  have fB61_ := B6.out.cell 1 rfl
  go_wp2_with fail
  rcases HCA.out with hisf | ⟨hist, hn0, hn12, hls, hf0, hf1⟩
  · refine (comfitref02_Is.calls y o false _ hisf).mono ?_
    rintro e w4 ⟨rfl, hb⟩
    clear HCA hisf
    go_wp2_with fail
    refine (comfitlaw02_awake.calls k true _ HAW.out).mono ?_
    rintro e w5 ⟨rfl, hb'⟩
    go_wp2_with fail
    go_ret
    exact ⟨rfl, below_step HB.out (below_step hb hb')⟩
  refine (comfitref02_Is.calls y o true _ hist).mono ?_
  rintro e w4 ⟨rfl, hb⟩
  have HF0 := Aside0.mk hf0
  have HF1 := Aside0.mk hf1
  have HN0 := Aside0.mk hn0
  have HN12 := Aside0.mk hn12
  have HLS := Aside0.mk hls
  clear HCA hist hn0 hn12 hls hf0 hf1
  clear fB60_ fB61_
  replace B6 := Aside0.mk (B6.out.below hb)
  replace B9 := Aside0.mk (B9.out.below hb)
  replace B11 := Aside0.mk (B11.out.below hb)
  replace RT0 := Aside0.mk (Kd.R_below RT0.out hb)
  replace RL0 := Aside0.mk (Kd.R_below RL0.out hb)
  replace RT1 := Aside0.mk (Kd.R_below RT1.out hb)
  replace RL1 := Aside0.mk (Kd.R_below RL1.out hb)
  replace HB := Aside0.mk (below_step HB.out hb)
  clear hb
  have fB60_ := B6.out.cell 0 rfl
  have fB61_ := B6.out.cell 1 rfl
  have fB90_ := B9.out.cell 0 rfl
  have fB91_ := B9.out.cell 1 rfl
  have fB110_ := B11.out.cell 0 rfl
  have fB111_ := B11.out.cell 1 rfl
  obtain ⟨hu0, hls⟩ := HLS.out
  clear HLS
  go_wp2_with fail
  rw [hls]
  clear hu0 hls
  clear fB60_ fB61_ fB90_ fB91_ fB110_ fB111_
  have BR := Aside0.mk (Box.new HB.out #[.slice A3 T0.length c3, .slice A4 L0.length c4, .slice A5 T1.length c5, .slice A6 L1.length c6] 32)
  have hba := below_alloc (Below.refl w4.heap.size w4) (.cells #[.slice A3 T0.length c3, .slice A4 L0.length c4, .slice A5 T1.length c5, .slice A6 L1.length c6] 32)
  replace B6 := Aside0.mk (B6.out.below hba)
  replace RT0 := Aside0.mk (Kd.R_below RT0.out hba)
  replace RL0 := Aside0.mk (Kd.R_below RL0.out hba)
  replace RT1 := Aside0.mk (Kd.R_below RT1.out hba)
  replace RL1 := Aside0.mk (Kd.R_below RL1.out hba)
  replace HB := Aside0.mk (below_step HB.out hba)
  have HC := Aside0.mk (row2 BR.out (Kd.R_reads' RT0.out).2.1 (Kd.R_reads' RT0.out).2.2 (Kd.R_reads' RL0.out).2.1 (Kd.R_reads' RL0.out).2.2 (Kd.R_reads' RT1.out).2.1 (Kd.R_reads' RT1.out).2.2 (Kd.R_reads' RL1.out).2.1 (Kd.R_reads' RL1.out).2.2)
  clear hba BR B9 B11 RT0 RL0 RT1 RL1
  generalize (w4.alloc _) = w5 at HC B6 HB ⊢
  generalize (some (⟨w4.heap.size, 0, none⟩ : Addr)) = AR at HC ⊢
  go_loopw [73] (fun v73 W => ∃ j : Nat, v73 = .int .i64 (j : Int) ∧ j ≤ 2 ∧ Aside0 (Below w5.heap.size w5 W)) (fun v73 _ => 2 - (intOf v73).toNat)
  case atStart => exact ⟨0, rfl, by omega, ⟨Below.refl _ _⟩⟩
  case round =>
    obtain ⟨j, rfl, hj, HW⟩ := hrel
    replace B6 := Aside0.mk (B6.out.below HW.out)
    replace HC := Aside0.mk (Kd.C_below HC.out HW.out)
    replace HB := Aside0.mk (below_step HB.out HW.out)
    by_cases hjl : j < 2
    · have hjb : decide ((j : Int) < 2) = true := decide_eq_true (by omega)
      have hjp : ((j : Int) < 2) = True := eq_true (by omega)
      have hj0 : (0 ≤ (j : Int)) = True := eq_true (by omega)
      have hround : ∃ (T L : List Int), (rd_T32 [⟨T0, L0⟩, ⟨T1, L1⟩] (j : Int)).f0 = T ∧ (rd_T32 [⟨T0, L0⟩, ⟨T1, L1⟩] (j : Int)).f1 = L ∧ FewOk k n y o ls (j = 0) T L := by
        rcases (by omega : j = 0 ∨ j = 1) with rfl | rfl
        · refine ⟨T0, L0, rfl, rfl, ?_⟩
          obtain ⟨P, Q, a1, a2, b1, b2, m1, m2, q⟩ := HF0.out
          exact ⟨P, Q, a1, a2, b1, b2, m1, m2, q.1, q.2.1, q.2.2.1, q.2.2.2.1, q.2.2.2.2.1, q.2.2.2.2.2.1, q.2.2.2.2.2.2.1, q.2.2.2.2.2.2.2.1, q.2.2.2.2.2.2.2.2.1, fun _ => q.2.2.2.2.2.2.2.2.2.1 trivial, q.2.2.2.2.2.2.2.2.2.2⟩
        · refine ⟨T1, L1, rfl, rfl, ?_⟩
          obtain ⟨P, Q, a1, a2, b1, b2, m1, m2, q⟩ := HF1.out
          exact ⟨P, Q, a1, a2, b1, b2, m1, m2, q.1, q.2.1, q.2.2.1, q.2.2.2.1, q.2.2.2.2.1, q.2.2.2.2.2.1, q.2.2.2.2.2.2.1, q.2.2.2.2.2.2.2.1, q.2.2.2.2.2.2.2.2.1, fun e => absurd e (by omega), q.2.2.2.2.2.2.2.2.2.2⟩
      obtain ⟨T, L, hT, hL, P, Q, a1, a2, b1, b2, m1, m2, hof, hta, htb, hlo, hua, hub, hm2, hm12, hmn, hfst, ha2, hb2, hma, hmb, hcmp⟩ := hround
      obtain ⟨ad, AT, cT, AL, cL, ea, e0_, e1_, lT, gT, lL, gL⟩ := at_T32 HC.out (j : Int) (by omega) (by omega)
      rw [hT] at e0_ lT gT
      rw [hL] at e1_ lL gL
      rw [Int.toNat_natCast] at e0_ e1_
      have HTR := Aside0.mk (And.intro lT gT)
      have HLR := Aside0.mk (And.intro lL gL)
      have HOF := Aside0.mk hof
      have HTA := Aside0.mk hta
      have HTB := Aside0.mk htb
      have HLO := Aside0.mk hlo
      have HUA := Aside0.mk hua
      have HUB := Aside0.mk hub
      have HM2 := Aside0.mk hm2
      have HM12 := Aside0.mk hm12
      have HMN := Aside0.mk hmn
      have HFST := Aside0.mk hfst
      have HA2 := Aside0.mk ha2
      have HB2 := Aside0.mk hb2
      have HMA := Aside0.mk hma
      have HMB := Aside0.mk hmb
      have HCMP := Aside0.mk hcmp
      clear hof hta htb hlo hua hub hm2 hm12 hmn hfst ha2 hb2 hma hmb hcmp hT hL lT gT lL gL
      subst ea
      have BPn := Aside0.mk (Box.new HB.out #[.slice none 0 0, .slice none 0 0] 32)
      have z0_ := BPn.out.cell 0 rfl
      have z1_ := BPn.out.cell 1 rfl
      have y0_ := BPn.out.frozen 0
      have y1_ := BPn.out.frozen 1
      have HN := Aside0.mk (box2 HB.out (.slice AT T.length cT) (.slice AL L.length cL) 32)
      go_wp2_with fail
      clear z0_ z1_ y0_ y1_ e0_ e1_ BPn hjb hjp hj0
      have B14 := Aside0.mk HN.out.2
      have hba := HN.out.1
      clear HN
      generalize (wr.alloc _) = w6 at B14 hba ⊢
      replace B6 := Aside0.mk (B6.out.below hba)
      replace HTR := Aside0.mk (And.intro HTR.out.1 (Kd.C_below HTR.out.2 hba))
      replace HLR := Aside0.mk (And.intro HLR.out.1 (Kd.C_below HLR.out.2 hba))
      replace HB := Aside0.mk (below_step HB.out hba)
      replace HW := Aside0.mk (below_step HW.out hba)
      clear hba HC
      refine start_ (n := 12) (S := CF wr.heap.size (.slice AT T.length cT) (.slice AL L.length cL) w.heap.size (.int .i64 y) (.int .i64 o) w w6) (ds := []) #[false, false, false, false, false, false, false, false, false, false, false, false] (by kernel_rfl) rfl rfl (cf_of B14.out B6.out HB.out (below_drew (Below.refl _ _))) (fun hHeld => ?_)
      refine with_tabW fewT.tab9 fewT.bits9 (fun HT_ HW_ => ?_)
      generalize (World.drew _) = w7 at hHeld ⊢
      refine take_ (i := 0) (N := some 79) (v := ?_) (a' := ?_) #[true, false, false, false, false, false, false, false, false, false, false, false] rfl rfl (take_ofW HT_.out HW_.out (by kernel_rfl)) (fun _ _ _ h => h) (Or.inl ⟨by rfl, ?_⟩) hHeld ?_ ?_
      rotate_left
      · rintro w' ⟨s0, s1, s2, s3, s4, s5⟩
        go_simp
        with_reducible rfl
      rotate_left
      · simp only [Act.put, List.setIfInBounds_toArray, List.set_cons_zero, List.set_cons_succ, i64_w, i32_w]
        rfl
      refine take_ (i := 3) (N := some 82) (v := ?_) (a' := ?_) #[true, false, false, true, false, false, false, false, false, false, false, false] rfl rfl (take_ofW HT_.out HW_.out (by kernel_rfl)) (fun _ _ _ h => h) (Or.inl ⟨by rfl, ?_⟩) hHeld ?_ ?_
      rotate_left
      · rintro w' ⟨s0, s1, s2, s3, s4, s5⟩
        go_simp
        with_reducible rfl
      rotate_left
      · simp only [Act.put, List.setIfInBounds_toArray, List.set_cons_zero, List.set_cons_succ, i64_w, i32_w]
        rfl
      refine join_ (σ := Value × Nat) 2 #[true, true, true, true, true, true, true, true, true, true, false, false] (fun s_ => [(80, .agg #[.slice AT T.length cT, .slice AL L.length cL]), (81, s_.1), (83, .agg #[.int .i64 y, .int .i64 o]), (84, .tuple #[.agg #[.int .i64 a1, .int .i64 a2], .int .i64 0]), (15, .pointer (some ⟨s_.2, 0, none⟩)), (78, .tuple #[.agg #[.int .i64 a1, .int .i64 a2], .int .i64 0]), (85, .agg #[.int .i64 a1, .int .i64 a2]), (86, .int .i64 0)]) (fun s_ w' => CF wr.heap.size (.slice AT T.length cT) (.slice AL L.length cL) w.heap.size (.int .i64 y) (.int .i64 o) w w6 w' ∧ Box w6 s_.2 #[.int .i64 0, .int .i64 0] 28 w') ?_ ?_
      rotate_left
      · intro hCont
        refine two_ (i := 1) (j := 9) (Ni := some 80) (Nj := some 15) #[true, true, false, true, false, false, false, false, false, false, false, false] #[true, false, false, true, false, false, false, false, false, true, false, false] rfl rfl rfl rfl (two_of HT_.out (by kernel_rfl)) (by decide) (by decide) (fun K hK => ?_) (fun K hK => ?_)
        · skip
          refine goes_ Try.func38 (by kernel_rfl) rfl #[.agg #[.slice AT T.length cT, .slice AL L.length cL]] (by rfl) rfl rfl (by (try simp only [List.map_toArray, List.map_cons, List.map_nil]); first | done | rfl | (simp only [List.length_drop, List.length_take]; rfl)) ?_
          refine (own_calls AT AL T.length cT L.length cL _).mono ?_
          rintro e wr1 ⟨rfl, hb⟩
          refine ⟨_, rfl, ?_⟩
          refine hK.out _ _ (CF.below hHeld hb) (fun hHeld => ?_)
          clear hK K hb
          refine norm_ (a' := ?_) ?_ ?_
          rotate_left
          · show Act.put _ (some 80) _ = _
            simp only [Act.put, List.setIfInBounds_toArray, List.set_cons_zero, List.set_cons_succ, i64_w, i32_w]
            rfl
          refine two_ (i := 2) (j := 9) (Ni := some 81) (Nj := some 15) #[true, true, true, true, false, false, false, false, false, false, false, false] #[true, true, false, true, false, false, false, false, false, true, false, false] rfl rfl rfl rfl (two_of HT_.out (by kernel_rfl)) (by decide) (by decide) (fun K hK => ?_) (fun K hK => ?_)
          · skip
            refine goes_ Try.func20 (by kernel_rfl) rfl #[.agg #[.slice AT T.length cT, .slice AL L.length cL]] (by rfl) rfl rfl (by (try simp only [List.map_toArray, List.map_cons, List.map_nil]); first | done | rfl | (simp only [List.length_drop, List.length_take]; rfl)) ?_
            refine (comfitlaw02_Of.calls AT cT T AL cL L P Q _ (Kd.C_below HTR.out.2 hHeld.2.2.2.2.2) HTR.out.1 (Kd.C_below HLR.out.2 hHeld.2.2.2.2.2) HLR.out.1 HOF.out).mono ?_
            rintro e wr2 ⟨v1, v2, rfl, ho0, ho1, hb⟩
            refine ⟨_, rfl, ?_⟩
            obtain ⟨Ap, cp, rfl⟩ := Kd.R_slice ho0
            obtain ⟨Aq, cq, rfl⟩ := Kd.R_slice ho1
            have HP0 := Aside0.mk (Kd.R_reads' ho0).2
            have HP1 := Aside0.mk (Kd.R_reads' ho1).2
            clear ho0 ho1
            refine hK.out _ _ (CF.below hHeld hb) (fun hHeld => ?_)
            clear hK K hb
            refine norm_ (a' := ?_) ?_ ?_
            rotate_left
            · show Act.put _ (some 81) _ = _
              simp only [Act.put, List.setIfInBounds_toArray, List.set_cons_zero, List.set_cons_succ, i64_w, i32_w]
              rfl
            refine two_ (i := 4) (j := 9) (Ni := some 83) (Nj := some 15) #[true, true, true, true, true, false, false, false, false, false, false, false] #[true, true, true, true, false, false, false, false, false, true, false, false] rfl rfl rfl rfl (two_of HT_.out (by kernel_rfl)) (by decide) (by decide) (fun K hK => ?_) (fun K hK => ?_)
            · skip
              refine goes_ Try.func21 (by kernel_rfl) rfl #[.agg #[.int .i64 y, .int .i64 o]] (by rfl) rfl rfl (by (try simp only [List.map_toArray, List.map_cons, List.map_nil]); first | done | rfl | (simp only [List.length_drop, List.length_take]; rfl)) ?_
              refine (comfitlaw02_chance.calls y o y o _ HCH.out).mono ?_
              rintro e wr3 ⟨rfl, hb⟩
              refine ⟨_, rfl, ?_⟩
              replace HP0 := Aside0.mk (And.intro HP0.out.1 (Kd.C_below HP0.out.2 hb))
              replace HP1 := Aside0.mk (And.intro HP1.out.1 (Kd.C_below HP1.out.2 hb))
              refine hK.out _ _ (CF.below hHeld hb) (fun hHeld => ?_)
              clear hK K hb
              refine norm_ (a' := ?_) ?_ ?_
              rotate_left
              · show Act.put _ (some 83) _ = _
                simp only [Act.put, List.setIfInBounds_toArray, List.set_cons_zero, List.set_cons_succ, i64_w, i32_w]
                rfl
              refine two_ (i := 5) (j := 9) (Ni := some 84) (Nj := some 15) #[true, true, true, true, true, true, false, false, false, false, false, false] #[true, true, true, true, true, false, false, false, false, true, false, false] rfl rfl rfl rfl (two_of HT_.out (by kernel_rfl)) (by decide) (by decide) (fun K hK => ?_) (fun K hK => ?_)
              · skip
                refine goes_ Try.func19 (by kernel_rfl) rfl #[.agg #[.slice Ap P.length cp, .slice Aq Q.length cq], .agg #[.int .i64 y, .int .i64 o]] (by rfl) rfl rfl (by (try simp only [List.map_toArray, List.map_cons, List.map_nil]); first | done | rfl | (simp only [List.length_drop, List.length_take]; rfl)) ?_
                refine (lots_Taken.calls k Ap cp P Aq cq Q y o a1 a2 0 _ HP0.out.2 HP0.out.1 HP1.out.2 HP1.out.1 HTA.out).mono ?_
                rintro e wr4 ⟨rfl, hb⟩
                refine ⟨_, rfl, ?_⟩
                replace HP0 := Aside0.mk (And.intro HP0.out.1 (Kd.C_below HP0.out.2 hb))
                replace HP1 := Aside0.mk (And.intro HP1.out.1 (Kd.C_below HP1.out.2 hb))
                refine hK.out _ _ (CF.below hHeld hb) (fun hHeld => ?_)
                clear hK K hb
                refine norm_ (a' := ?_) ?_ ?_
                rotate_left
                · show Act.put _ (some 84) _ = _
                  simp only [Act.put, List.setIfInBounds_toArray, List.set_cons_zero, List.set_cons_succ, i64_w, i32_w]
                  rfl
                refine pure_ (i := 6) (N := some 78) (v := ?_) (a' := ?_) #[true, true, true, true, true, true, true, false, false, false, false, false] rfl rfl (any_of HT_.out (by kernel_rfl)) (fun _ _ _ h => h) (Or.inl ⟨by rfl, ?_⟩) ?_ ?_
                rotate_left
                · intro w'
                  go_simp
                  with_reducible rfl
                rotate_left
                · simp only [Act.put, List.setIfInBounds_toArray, List.set_cons_zero, List.set_cons_succ, i64_w, i32_w]
                  rfl
                refine pure_ (i := 7) (N := some 85) (v := ?_) (a' := ?_) #[true, true, true, true, true, true, true, true, false, false, false, false] rfl rfl (any_of HT_.out (by kernel_rfl)) (fun _ _ _ h => h) (Or.inl ⟨by rfl, ?_⟩) ?_ ?_
                rotate_left
                · intro w'
                  go_simp
                  with_reducible rfl
                rotate_left
                · simp only [Act.put, List.setIfInBounds_toArray, List.set_cons_zero, List.set_cons_succ, i64_w, i32_w]
                  rfl
                refine pure_ (i := 8) (N := some 86) (v := ?_) (a' := ?_) #[true, true, true, true, true, true, true, true, true, false, false, false] rfl rfl (any_of HT_.out (by kernel_rfl)) (fun _ _ _ h => h) (Or.inl ⟨by rfl, ?_⟩) ?_ ?_
                rotate_left
                · intro w'
                  go_simp
                  with_reducible rfl
                rotate_left
                · simp only [Act.put, List.setIfInBounds_toArray, List.set_cons_zero, List.set_cons_succ, i64_w, i32_w]
                  rfl
                refine one_ (i := 9) (N := some 15) #[true, true, true, true, true, true, true, true, true, true, false, false] rfl rfl (one_of HT_.out (by kernel_rfl)) (by decide) (fun K hK => ?_)
                refine box_step ?hg (N := 15) ?hd (cs := #[.int .i64 0, .int .i64 0]) (t := 28) ?hr ?_; (case hd => rfl); (case hg => rfl); (case hr => first | (go_simp; done) | (go_simp; rfl))
                intro gx hg wr5 hbox hb
                replace HP0 := Aside0.mk (And.intro HP0.out.1 (Kd.C_below HP0.out.2 hb))
                replace HP1 := Aside0.mk (And.intro HP1.out.1 (Kd.C_below HP1.out.2 hb))
                have HX : Aside0 (Box w6 gx #[.int .i64 0, .int .i64 0] 28 _) := ⟨⟨by rw [hg]; exact hHeld.2.2.2.2.2.size, hbox⟩⟩
                clear hg hbox
                refine hK.out _ _ (CF.below hHeld hb) (fun hHeld => ?_)
                clear hK K hb
                refine norm_ (a' := ?_) ?_ ?_
                rotate_left
                · show Act.put _ (some 15) _ = _
                  simp only [Act.put, List.setIfInBounds_toArray, List.set_cons_zero, List.set_cons_succ, i64_w, i32_w]
                  rfl
                exact norm_ (by simp only [putAll, Act.put, List.setIfInBounds_toArray, List.set_cons_zero, List.set_cons_succ]) (hCont (.agg #[.slice Ap P.length cp, .slice Aq Q.length cq], gx) _ ⟨hHeld, HX.out⟩)
              · skip
                refine box_step ?hg (N := 15) ?hd (cs := #[.int .i64 0, .int .i64 0]) (t := 28) ?hr ?_; (case hd => rfl); (case hg => rfl); (case hr => first | (go_simp; done) | (go_simp; rfl))
                intro gx hg wr6 hbox hb
                replace HP0 := Aside0.mk (And.intro HP0.out.1 (Kd.C_below HP0.out.2 hb))
                replace HP1 := Aside0.mk (And.intro HP1.out.1 (Kd.C_below HP1.out.2 hb))
                have HX : Aside0 (Box w6 gx #[.int .i64 0, .int .i64 0] 28 _) := ⟨⟨by rw [hg]; exact hHeld.2.2.2.2.2.size, hbox⟩⟩
                clear hg hbox
                refine hK.out _ _ (CF.below hHeld hb) (fun hHeld => ?_)
                clear hK K hb
                refine norm_ (a' := ?_) ?_ ?_
                rotate_left
                · show Act.put _ (some 15) _ = _
                  simp only [Act.put, List.setIfInBounds_toArray, List.set_cons_zero, List.set_cons_succ, i64_w, i32_w]
                  rfl
                refine one_ (i := 5) (N := some 84) #[true, true, true, true, true, true, false, false, false, true, false, false] rfl rfl (one_of HT_.out (by kernel_rfl)) (by decide) (fun K hK => ?_)
                refine goes_ Try.func19 (by kernel_rfl) rfl #[.agg #[.slice Ap P.length cp, .slice Aq Q.length cq], .agg #[.int .i64 y, .int .i64 o]] (by rfl) rfl rfl (by (try simp only [List.map_toArray, List.map_cons, List.map_nil]); first | done | rfl | (simp only [List.length_drop, List.length_take]; rfl)) ?_
                refine (lots_Taken.calls k Ap cp P Aq cq Q y o a1 a2 0 _ HP0.out.2 HP0.out.1 HP1.out.2 HP1.out.1 HTA.out).mono ?_
                rintro e wr7 ⟨rfl, hb⟩
                refine ⟨_, rfl, ?_⟩
                replace HP0 := Aside0.mk (And.intro HP0.out.1 (Kd.C_below HP0.out.2 hb))
                replace HP1 := Aside0.mk (And.intro HP1.out.1 (Kd.C_below HP1.out.2 hb))
                replace HX := Aside0.mk (HX.out.below hb)
                refine hK.out _ _ (CF.below hHeld hb) (fun hHeld => ?_)
                clear hK K hb
                refine norm_ (a' := ?_) ?_ ?_
                rotate_left
                · show Act.put _ (some 84) _ = _
                  simp only [Act.put, List.setIfInBounds_toArray, List.set_cons_zero, List.set_cons_succ, i64_w, i32_w]
                  rfl
                refine pure_ (i := 6) (N := some 78) (v := ?_) (a' := ?_) #[true, true, true, true, true, true, true, false, false, true, false, false] rfl rfl (any_of HT_.out (by kernel_rfl)) (fun _ _ _ h => h) (Or.inl ⟨by rfl, ?_⟩) ?_ ?_
                rotate_left
                · intro w'
                  go_simp
                  with_reducible rfl
                rotate_left
                · simp only [Act.put, List.setIfInBounds_toArray, List.set_cons_zero, List.set_cons_succ, i64_w, i32_w]
                  rfl
                refine pure_ (i := 7) (N := some 85) (v := ?_) (a' := ?_) #[true, true, true, true, true, true, true, true, false, true, false, false] rfl rfl (any_of HT_.out (by kernel_rfl)) (fun _ _ _ h => h) (Or.inl ⟨by rfl, ?_⟩) ?_ ?_
                rotate_left
                · intro w'
                  go_simp
                  with_reducible rfl
                rotate_left
                · simp only [Act.put, List.setIfInBounds_toArray, List.set_cons_zero, List.set_cons_succ, i64_w, i32_w]
                  rfl
                refine pure_ (i := 8) (N := some 86) (v := ?_) (a' := ?_) #[true, true, true, true, true, true, true, true, true, true, false, false] rfl rfl (any_of HT_.out (by kernel_rfl)) (fun _ _ _ h => h) (Or.inl ⟨by rfl, ?_⟩) ?_ ?_
                rotate_left
                · intro w'
                  go_simp
                  with_reducible rfl
                rotate_left
                · simp only [Act.put, List.setIfInBounds_toArray, List.set_cons_zero, List.set_cons_succ, i64_w, i32_w]
                  rfl
                exact norm_ (by simp only [putAll, Act.put, List.setIfInBounds_toArray, List.set_cons_zero, List.set_cons_succ]) (hCont (.agg #[.slice Ap P.length cp, .slice Aq Q.length cq], gx) _ ⟨hHeld, HX.out⟩)
            · skip
              refine box_step ?hg (N := 15) ?hd (cs := #[.int .i64 0, .int .i64 0]) (t := 28) ?hr ?_; (case hd => rfl); (case hg => rfl); (case hr => first | (go_simp; done) | (go_simp; rfl))
              intro gx hg wr8 hbox hb
              replace HP0 := Aside0.mk (And.intro HP0.out.1 (Kd.C_below HP0.out.2 hb))
              replace HP1 := Aside0.mk (And.intro HP1.out.1 (Kd.C_below HP1.out.2 hb))
              have HX : Aside0 (Box w6 gx #[.int .i64 0, .int .i64 0] 28 _) := ⟨⟨by rw [hg]; exact hHeld.2.2.2.2.2.size, hbox⟩⟩
              clear hg hbox
              refine hK.out _ _ (CF.below hHeld hb) (fun hHeld => ?_)
              clear hK K hb
              refine norm_ (a' := ?_) ?_ ?_
              rotate_left
              · show Act.put _ (some 15) _ = _
                simp only [Act.put, List.setIfInBounds_toArray, List.set_cons_zero, List.set_cons_succ, i64_w, i32_w]
                rfl
              refine one_ (i := 4) (N := some 83) #[true, true, true, true, true, false, false, false, false, true, false, false] rfl rfl (one_of HT_.out (by kernel_rfl)) (by decide) (fun K hK => ?_)
              refine goes_ Try.func21 (by kernel_rfl) rfl #[.agg #[.int .i64 y, .int .i64 o]] (by rfl) rfl rfl (by (try simp only [List.map_toArray, List.map_cons, List.map_nil]); first | done | rfl | (simp only [List.length_drop, List.length_take]; rfl)) ?_
              refine (comfitlaw02_chance.calls y o y o _ HCH.out).mono ?_
              rintro e wr9 ⟨rfl, hb⟩
              refine ⟨_, rfl, ?_⟩
              replace HP0 := Aside0.mk (And.intro HP0.out.1 (Kd.C_below HP0.out.2 hb))
              replace HP1 := Aside0.mk (And.intro HP1.out.1 (Kd.C_below HP1.out.2 hb))
              replace HX := Aside0.mk (HX.out.below hb)
              refine hK.out _ _ (CF.below hHeld hb) (fun hHeld => ?_)
              clear hK K hb
              refine norm_ (a' := ?_) ?_ ?_
              rotate_left
              · show Act.put _ (some 83) _ = _
                simp only [Act.put, List.setIfInBounds_toArray, List.set_cons_zero, List.set_cons_succ, i64_w, i32_w]
                rfl
              refine one_ (i := 5) (N := some 84) #[true, true, true, true, true, true, false, false, false, true, false, false] rfl rfl (one_of HT_.out (by kernel_rfl)) (by decide) (fun K hK => ?_)
              refine goes_ Try.func19 (by kernel_rfl) rfl #[.agg #[.slice Ap P.length cp, .slice Aq Q.length cq], .agg #[.int .i64 y, .int .i64 o]] (by rfl) rfl rfl (by (try simp only [List.map_toArray, List.map_cons, List.map_nil]); first | done | rfl | (simp only [List.length_drop, List.length_take]; rfl)) ?_
              refine (lots_Taken.calls k Ap cp P Aq cq Q y o a1 a2 0 _ HP0.out.2 HP0.out.1 HP1.out.2 HP1.out.1 HTA.out).mono ?_
              rintro e wr10 ⟨rfl, hb⟩
              refine ⟨_, rfl, ?_⟩
              replace HP0 := Aside0.mk (And.intro HP0.out.1 (Kd.C_below HP0.out.2 hb))
              replace HP1 := Aside0.mk (And.intro HP1.out.1 (Kd.C_below HP1.out.2 hb))
              replace HX := Aside0.mk (HX.out.below hb)
              refine hK.out _ _ (CF.below hHeld hb) (fun hHeld => ?_)
              clear hK K hb
              refine norm_ (a' := ?_) ?_ ?_
              rotate_left
              · show Act.put _ (some 84) _ = _
                simp only [Act.put, List.setIfInBounds_toArray, List.set_cons_zero, List.set_cons_succ, i64_w, i32_w]
                rfl
              refine pure_ (i := 6) (N := some 78) (v := ?_) (a' := ?_) #[true, true, true, true, true, true, true, false, false, true, false, false] rfl rfl (any_of HT_.out (by kernel_rfl)) (fun _ _ _ h => h) (Or.inl ⟨by rfl, ?_⟩) ?_ ?_
              rotate_left
              · intro w'
                go_simp
                with_reducible rfl
              rotate_left
              · simp only [Act.put, List.setIfInBounds_toArray, List.set_cons_zero, List.set_cons_succ, i64_w, i32_w]
                rfl
              refine pure_ (i := 7) (N := some 85) (v := ?_) (a' := ?_) #[true, true, true, true, true, true, true, true, false, true, false, false] rfl rfl (any_of HT_.out (by kernel_rfl)) (fun _ _ _ h => h) (Or.inl ⟨by rfl, ?_⟩) ?_ ?_
              rotate_left
              · intro w'
                go_simp
                with_reducible rfl
              rotate_left
              · simp only [Act.put, List.setIfInBounds_toArray, List.set_cons_zero, List.set_cons_succ, i64_w, i32_w]
                rfl
              refine pure_ (i := 8) (N := some 86) (v := ?_) (a' := ?_) #[true, true, true, true, true, true, true, true, true, true, false, false] rfl rfl (any_of HT_.out (by kernel_rfl)) (fun _ _ _ h => h) (Or.inl ⟨by rfl, ?_⟩) ?_ ?_
              rotate_left
              · intro w'
                go_simp
                with_reducible rfl
              rotate_left
              · simp only [Act.put, List.setIfInBounds_toArray, List.set_cons_zero, List.set_cons_succ, i64_w, i32_w]
                rfl
              exact norm_ (by simp only [putAll, Act.put, List.setIfInBounds_toArray, List.set_cons_zero, List.set_cons_succ]) (hCont (.agg #[.slice Ap P.length cp, .slice Aq Q.length cq], gx) _ ⟨hHeld, HX.out⟩)
          · skip
            refine box_step ?hg (N := 15) ?hd (cs := #[.int .i64 0, .int .i64 0]) (t := 28) ?hr ?_; (case hd => rfl); (case hg => rfl); (case hr => first | (go_simp; done) | (go_simp; rfl))
            intro gx hg wr11 hbox hb
            have HX : Aside0 (Box w6 gx #[.int .i64 0, .int .i64 0] 28 _) := ⟨⟨by rw [hg]; exact hHeld.2.2.2.2.2.size, hbox⟩⟩
            clear hg hbox
            refine hK.out _ _ (CF.below hHeld hb) (fun hHeld => ?_)
            clear hK K hb
            refine norm_ (a' := ?_) ?_ ?_
            rotate_left
            · show Act.put _ (some 15) _ = _
              simp only [Act.put, List.setIfInBounds_toArray, List.set_cons_zero, List.set_cons_succ, i64_w, i32_w]
              rfl
            refine one_ (i := 2) (N := some 81) #[true, true, true, true, false, false, false, false, false, true, false, false] rfl rfl (one_of HT_.out (by kernel_rfl)) (by decide) (fun K hK => ?_)
            refine goes_ Try.func20 (by kernel_rfl) rfl #[.agg #[.slice AT T.length cT, .slice AL L.length cL]] (by rfl) rfl rfl (by (try simp only [List.map_toArray, List.map_cons, List.map_nil]); first | done | rfl | (simp only [List.length_drop, List.length_take]; rfl)) ?_
            refine (comfitlaw02_Of.calls AT cT T AL cL L P Q _ (Kd.C_below HTR.out.2 hHeld.2.2.2.2.2) HTR.out.1 (Kd.C_below HLR.out.2 hHeld.2.2.2.2.2) HLR.out.1 HOF.out).mono ?_
            rintro e wr12 ⟨v1, v2, rfl, ho0, ho1, hb⟩
            refine ⟨_, rfl, ?_⟩
            replace HX := Aside0.mk (HX.out.below hb)
            obtain ⟨Ap, cp, rfl⟩ := Kd.R_slice ho0
            obtain ⟨Aq, cq, rfl⟩ := Kd.R_slice ho1
            have HP0 := Aside0.mk (Kd.R_reads' ho0).2
            have HP1 := Aside0.mk (Kd.R_reads' ho1).2
            clear ho0 ho1
            refine hK.out _ _ (CF.below hHeld hb) (fun hHeld => ?_)
            clear hK K hb
            refine norm_ (a' := ?_) ?_ ?_
            rotate_left
            · show Act.put _ (some 81) _ = _
              simp only [Act.put, List.setIfInBounds_toArray, List.set_cons_zero, List.set_cons_succ, i64_w, i32_w]
              rfl
            refine one_ (i := 4) (N := some 83) #[true, true, true, true, true, false, false, false, false, true, false, false] rfl rfl (one_of HT_.out (by kernel_rfl)) (by decide) (fun K hK => ?_)
            refine goes_ Try.func21 (by kernel_rfl) rfl #[.agg #[.int .i64 y, .int .i64 o]] (by rfl) rfl rfl (by (try simp only [List.map_toArray, List.map_cons, List.map_nil]); first | done | rfl | (simp only [List.length_drop, List.length_take]; rfl)) ?_
            refine (comfitlaw02_chance.calls y o y o _ HCH.out).mono ?_
            rintro e wr13 ⟨rfl, hb⟩
            refine ⟨_, rfl, ?_⟩
            replace HP0 := Aside0.mk (And.intro HP0.out.1 (Kd.C_below HP0.out.2 hb))
            replace HP1 := Aside0.mk (And.intro HP1.out.1 (Kd.C_below HP1.out.2 hb))
            replace HX := Aside0.mk (HX.out.below hb)
            refine hK.out _ _ (CF.below hHeld hb) (fun hHeld => ?_)
            clear hK K hb
            refine norm_ (a' := ?_) ?_ ?_
            rotate_left
            · show Act.put _ (some 83) _ = _
              simp only [Act.put, List.setIfInBounds_toArray, List.set_cons_zero, List.set_cons_succ, i64_w, i32_w]
              rfl
            refine one_ (i := 5) (N := some 84) #[true, true, true, true, true, true, false, false, false, true, false, false] rfl rfl (one_of HT_.out (by kernel_rfl)) (by decide) (fun K hK => ?_)
            refine goes_ Try.func19 (by kernel_rfl) rfl #[.agg #[.slice Ap P.length cp, .slice Aq Q.length cq], .agg #[.int .i64 y, .int .i64 o]] (by rfl) rfl rfl (by (try simp only [List.map_toArray, List.map_cons, List.map_nil]); first | done | rfl | (simp only [List.length_drop, List.length_take]; rfl)) ?_
            refine (lots_Taken.calls k Ap cp P Aq cq Q y o a1 a2 0 _ HP0.out.2 HP0.out.1 HP1.out.2 HP1.out.1 HTA.out).mono ?_
            rintro e wr14 ⟨rfl, hb⟩
            refine ⟨_, rfl, ?_⟩
            replace HP0 := Aside0.mk (And.intro HP0.out.1 (Kd.C_below HP0.out.2 hb))
            replace HP1 := Aside0.mk (And.intro HP1.out.1 (Kd.C_below HP1.out.2 hb))
            replace HX := Aside0.mk (HX.out.below hb)
            refine hK.out _ _ (CF.below hHeld hb) (fun hHeld => ?_)
            clear hK K hb
            refine norm_ (a' := ?_) ?_ ?_
            rotate_left
            · show Act.put _ (some 84) _ = _
              simp only [Act.put, List.setIfInBounds_toArray, List.set_cons_zero, List.set_cons_succ, i64_w, i32_w]
              rfl
            refine pure_ (i := 6) (N := some 78) (v := ?_) (a' := ?_) #[true, true, true, true, true, true, true, false, false, true, false, false] rfl rfl (any_of HT_.out (by kernel_rfl)) (fun _ _ _ h => h) (Or.inl ⟨by rfl, ?_⟩) ?_ ?_
            rotate_left
            · intro w'
              go_simp
              with_reducible rfl
            rotate_left
            · simp only [Act.put, List.setIfInBounds_toArray, List.set_cons_zero, List.set_cons_succ, i64_w, i32_w]
              rfl
            refine pure_ (i := 7) (N := some 85) (v := ?_) (a' := ?_) #[true, true, true, true, true, true, true, true, false, true, false, false] rfl rfl (any_of HT_.out (by kernel_rfl)) (fun _ _ _ h => h) (Or.inl ⟨by rfl, ?_⟩) ?_ ?_
            rotate_left
            · intro w'
              go_simp
              with_reducible rfl
            rotate_left
            · simp only [Act.put, List.setIfInBounds_toArray, List.set_cons_zero, List.set_cons_succ, i64_w, i32_w]
              rfl
            refine pure_ (i := 8) (N := some 86) (v := ?_) (a' := ?_) #[true, true, true, true, true, true, true, true, true, true, false, false] rfl rfl (any_of HT_.out (by kernel_rfl)) (fun _ _ _ h => h) (Or.inl ⟨by rfl, ?_⟩) ?_ ?_
            rotate_left
            · intro w'
              go_simp
              with_reducible rfl
            rotate_left
            · simp only [Act.put, List.setIfInBounds_toArray, List.set_cons_zero, List.set_cons_succ, i64_w, i32_w]
              rfl
            exact norm_ (by simp only [putAll, Act.put, List.setIfInBounds_toArray, List.set_cons_zero, List.set_cons_succ]) (hCont (.agg #[.slice Ap P.length cp, .slice Aq Q.length cq], gx) _ ⟨hHeld, HX.out⟩)
        · skip
          refine box_step ?hg (N := 15) ?hd (cs := #[.int .i64 0, .int .i64 0]) (t := 28) ?hr ?_; (case hd => rfl); (case hg => rfl); (case hr => first | (go_simp; done) | (go_simp; rfl))
          intro gx hg wr15 hbox hb
          have HX : Aside0 (Box w6 gx #[.int .i64 0, .int .i64 0] 28 _) := ⟨⟨by rw [hg]; exact hHeld.2.2.2.2.2.size, hbox⟩⟩
          clear hg hbox
          refine hK.out _ _ (CF.below hHeld hb) (fun hHeld => ?_)
          clear hK K hb
          refine norm_ (a' := ?_) ?_ ?_
          rotate_left
          · show Act.put _ (some 15) _ = _
            simp only [Act.put, List.setIfInBounds_toArray, List.set_cons_zero, List.set_cons_succ, i64_w, i32_w]
            rfl
          refine one_ (i := 1) (N := some 80) #[true, true, false, true, false, false, false, false, false, true, false, false] rfl rfl (one_of HT_.out (by kernel_rfl)) (by decide) (fun K hK => ?_)
          refine goes_ Try.func38 (by kernel_rfl) rfl #[.agg #[.slice AT T.length cT, .slice AL L.length cL]] (by rfl) rfl rfl (by (try simp only [List.map_toArray, List.map_cons, List.map_nil]); first | done | rfl | (simp only [List.length_drop, List.length_take]; rfl)) ?_
          refine (own_calls AT AL T.length cT L.length cL _).mono ?_
          rintro e wr16 ⟨rfl, hb⟩
          refine ⟨_, rfl, ?_⟩
          replace HX := Aside0.mk (HX.out.below hb)
          refine hK.out _ _ (CF.below hHeld hb) (fun hHeld => ?_)
          clear hK K hb
          refine norm_ (a' := ?_) ?_ ?_
          rotate_left
          · show Act.put _ (some 80) _ = _
            simp only [Act.put, List.setIfInBounds_toArray, List.set_cons_zero, List.set_cons_succ, i64_w, i32_w]
            rfl
          refine one_ (i := 2) (N := some 81) #[true, true, true, true, false, false, false, false, false, true, false, false] rfl rfl (one_of HT_.out (by kernel_rfl)) (by decide) (fun K hK => ?_)
          refine goes_ Try.func20 (by kernel_rfl) rfl #[.agg #[.slice AT T.length cT, .slice AL L.length cL]] (by rfl) rfl rfl (by (try simp only [List.map_toArray, List.map_cons, List.map_nil]); first | done | rfl | (simp only [List.length_drop, List.length_take]; rfl)) ?_
          refine (comfitlaw02_Of.calls AT cT T AL cL L P Q _ (Kd.C_below HTR.out.2 hHeld.2.2.2.2.2) HTR.out.1 (Kd.C_below HLR.out.2 hHeld.2.2.2.2.2) HLR.out.1 HOF.out).mono ?_
          rintro e wr17 ⟨v1, v2, rfl, ho0, ho1, hb⟩
          refine ⟨_, rfl, ?_⟩
          replace HX := Aside0.mk (HX.out.below hb)
          obtain ⟨Ap, cp, rfl⟩ := Kd.R_slice ho0
          obtain ⟨Aq, cq, rfl⟩ := Kd.R_slice ho1
          have HP0 := Aside0.mk (Kd.R_reads' ho0).2
          have HP1 := Aside0.mk (Kd.R_reads' ho1).2
          clear ho0 ho1
          refine hK.out _ _ (CF.below hHeld hb) (fun hHeld => ?_)
          clear hK K hb
          refine norm_ (a' := ?_) ?_ ?_
          rotate_left
          · show Act.put _ (some 81) _ = _
            simp only [Act.put, List.setIfInBounds_toArray, List.set_cons_zero, List.set_cons_succ, i64_w, i32_w]
            rfl
          refine one_ (i := 4) (N := some 83) #[true, true, true, true, true, false, false, false, false, true, false, false] rfl rfl (one_of HT_.out (by kernel_rfl)) (by decide) (fun K hK => ?_)
          refine goes_ Try.func21 (by kernel_rfl) rfl #[.agg #[.int .i64 y, .int .i64 o]] (by rfl) rfl rfl (by (try simp only [List.map_toArray, List.map_cons, List.map_nil]); first | done | rfl | (simp only [List.length_drop, List.length_take]; rfl)) ?_
          refine (comfitlaw02_chance.calls y o y o _ HCH.out).mono ?_
          rintro e wr18 ⟨rfl, hb⟩
          refine ⟨_, rfl, ?_⟩
          replace HP0 := Aside0.mk (And.intro HP0.out.1 (Kd.C_below HP0.out.2 hb))
          replace HP1 := Aside0.mk (And.intro HP1.out.1 (Kd.C_below HP1.out.2 hb))
          replace HX := Aside0.mk (HX.out.below hb)
          refine hK.out _ _ (CF.below hHeld hb) (fun hHeld => ?_)
          clear hK K hb
          refine norm_ (a' := ?_) ?_ ?_
          rotate_left
          · show Act.put _ (some 83) _ = _
            simp only [Act.put, List.setIfInBounds_toArray, List.set_cons_zero, List.set_cons_succ, i64_w, i32_w]
            rfl
          refine one_ (i := 5) (N := some 84) #[true, true, true, true, true, true, false, false, false, true, false, false] rfl rfl (one_of HT_.out (by kernel_rfl)) (by decide) (fun K hK => ?_)
          refine goes_ Try.func19 (by kernel_rfl) rfl #[.agg #[.slice Ap P.length cp, .slice Aq Q.length cq], .agg #[.int .i64 y, .int .i64 o]] (by rfl) rfl rfl (by (try simp only [List.map_toArray, List.map_cons, List.map_nil]); first | done | rfl | (simp only [List.length_drop, List.length_take]; rfl)) ?_
          refine (lots_Taken.calls k Ap cp P Aq cq Q y o a1 a2 0 _ HP0.out.2 HP0.out.1 HP1.out.2 HP1.out.1 HTA.out).mono ?_
          rintro e wr19 ⟨rfl, hb⟩
          refine ⟨_, rfl, ?_⟩
          replace HP0 := Aside0.mk (And.intro HP0.out.1 (Kd.C_below HP0.out.2 hb))
          replace HP1 := Aside0.mk (And.intro HP1.out.1 (Kd.C_below HP1.out.2 hb))
          replace HX := Aside0.mk (HX.out.below hb)
          refine hK.out _ _ (CF.below hHeld hb) (fun hHeld => ?_)
          clear hK K hb
          refine norm_ (a' := ?_) ?_ ?_
          rotate_left
          · show Act.put _ (some 84) _ = _
            simp only [Act.put, List.setIfInBounds_toArray, List.set_cons_zero, List.set_cons_succ, i64_w, i32_w]
            rfl
          refine pure_ (i := 6) (N := some 78) (v := ?_) (a' := ?_) #[true, true, true, true, true, true, true, false, false, true, false, false] rfl rfl (any_of HT_.out (by kernel_rfl)) (fun _ _ _ h => h) (Or.inl ⟨by rfl, ?_⟩) ?_ ?_
          rotate_left
          · intro w'
            go_simp
            with_reducible rfl
          rotate_left
          · simp only [Act.put, List.setIfInBounds_toArray, List.set_cons_zero, List.set_cons_succ, i64_w, i32_w]
            rfl
          refine pure_ (i := 7) (N := some 85) (v := ?_) (a' := ?_) #[true, true, true, true, true, true, true, true, false, true, false, false] rfl rfl (any_of HT_.out (by kernel_rfl)) (fun _ _ _ h => h) (Or.inl ⟨by rfl, ?_⟩) ?_ ?_
          rotate_left
          · intro w'
            go_simp
            with_reducible rfl
          rotate_left
          · simp only [Act.put, List.setIfInBounds_toArray, List.set_cons_zero, List.set_cons_succ, i64_w, i32_w]
            rfl
          refine pure_ (i := 8) (N := some 86) (v := ?_) (a' := ?_) #[true, true, true, true, true, true, true, true, true, true, false, false] rfl rfl (any_of HT_.out (by kernel_rfl)) (fun _ _ _ h => h) (Or.inl ⟨by rfl, ?_⟩) ?_ ?_
          rotate_left
          · intro w'
            go_simp
            with_reducible rfl
          rotate_left
          · simp only [Act.put, List.setIfInBounds_toArray, List.set_cons_zero, List.set_cons_succ, i64_w, i32_w]
            rfl
          exact norm_ (by simp only [putAll, Act.put, List.setIfInBounds_toArray, List.set_cons_zero, List.set_cons_succ]) (hCont (.agg #[.slice Ap P.length cp, .slice Aq Q.length cq], gx) _ ⟨hHeld, HX.out⟩)
      rintro ⟨va, gx_BA⟩ wt ⟨hHeld, hbx⟩
      have HX := Aside0.mk hbx
      clear hbx
      refine norm_ (a' := ?_) ?_ ?_
      rotate_left
      · simp only [putAll, Act.put, List.setIfInBounds_toArray, List.set_cons_zero, List.set_cons_succ]
        rfl
      refine one_ (i := 10) (N := none) #[true, true, true, true, true, true, true, true, true, true, true, false] rfl rfl (one_of HT_.out (by kernel_rfl)) (by decide) (fun K hK => ?_)
      have hs0_ := HX.out.cell 0 rfl
      have hs1_ := HX.out.cell 1 rfl
      have fs0_ := HX.out.frozen 0
      have fs1_ := HX.out.frozen 1
      refine skip_ (w1 := ?_) (by rfl) rfl ?_ ?_
      rotate_left
      · go_simp
        rfl
      have HL := Aside0.mk (below_set' (below_set' hHeld.2.2.2.2.2 (p := ⟨gx_BA, 0, none⟩) HX.out.1 (.int .i64 a1)) (p := ⟨gx_BA, 1, none⟩) HX.out.1 (.int .i64 a2))
      refine hK.out _ _ (cf_of B14.out B6.out HB.out HL.out) (fun hHeld => ?_)
      clear hK K hHeld
      have BA : Aside0 (Box w6 gx_BA #[.int .i64 a1, .int .i64 a2] 28 _) := ⟨(HX.out.put 0 (.int .i64 a1)).put 1 (.int .i64 a2)⟩
      clear hs0_ hs1_ fs0_ fs1_ HX
      refine pure_ (i := 11) (N := some 16) (v := ?_) (a' := ?_) #[true, true, true, true, true, true, true, true, true, true, true, true] rfl rfl (any_of HT_.out (by kernel_rfl)) (fun _ _ _ h => h) (Or.inl ⟨by rfl, ?_⟩) ?_ ?_
      rotate_left
      · intro w'
        go_simp
        with_reducible rfl
      rotate_left
      · simp only [Act.put, List.setIfInBounds_toArray, List.set_cons_zero, List.set_cons_succ, i64_w, i32_w]
        rfl
      refine done_ (done_of HT_.out (by kernel_rfl)) ?_
      clear HT_ HW_
      generalize ((wt.setCell _ _).setCell _ _) = w8 at BA HL ⊢
      replace B6 := Aside0.mk (B6.out.below HL.out)
      replace B14 := Aside0.mk (B14.out.below HL.out)
      replace HTR := Aside0.mk (And.intro HTR.out.1 (Kd.C_below HTR.out.2 HL.out))
      replace HLR := Aside0.mk (And.intro HLR.out.1 (Kd.C_below HLR.out.2 HL.out))
      replace HW := Aside0.mk (below_step HW.out HL.out)
      replace HB := Aside0.mk (below_step HB.out HL.out)
      clear HL HTA
      go_wp2_with fail
      refine start_ (n := 14) (S := CF wr.heap.size (.slice AT T.length cT) (.slice AL L.length cL) w.heap.size (.int .i64 y) (.int .i64 o) w w8) (ds := []) #[false, false, false, false, false, false, false, false, false, false, false, false, false, false] (by kernel_rfl) rfl rfl (cf_of B14.out B6.out HB.out (below_drew (Below.refl _ _))) (fun hHeld => ?_)
      refine with_tabW fewT.tab10 fewT.bits10 (fun HT_ HW_ => ?_)
      generalize (World.drew _) = w9 at hHeld ⊢
      refine take_ (i := 0) (N := some 88) (v := ?_) (a' := ?_) #[true, false, false, false, false, false, false, false, false, false, false, false, false, false] rfl rfl (take_ofW HT_.out HW_.out (by kernel_rfl)) (fun _ _ _ h => h) (Or.inl ⟨by rfl, ?_⟩) hHeld ?_ ?_
      rotate_left
      · rintro w' ⟨s0, s1, s2, s3, s4, s5⟩
        go_simp
        with_reducible rfl
      rotate_left
      · simp only [Act.put, List.setIfInBounds_toArray, List.set_cons_zero, List.set_cons_succ, i64_w, i32_w]
        rfl
      refine pure_ (i := 3) (N := some 91) (v := ?_) (a' := ?_) #[true, false, false, true, false, false, false, false, false, false, false, false, false, false] rfl rfl (any_of HT_.out (by kernel_rfl)) (fun _ _ _ h => h) (Or.inl ⟨by rfl, ?_⟩) ?_ ?_
      rotate_left
      · intro w'
        go_simp
        with_reducible rfl
      rotate_left
      · simp only [Act.put, List.setIfInBounds_toArray, List.set_cons_zero, List.set_cons_succ, i64_w, i32_w]
        rfl
      refine pure_ (i := 4) (N := some 92) (v := ?_) (a' := ?_) #[true, false, false, true, true, false, false, false, false, false, false, false, false, false] rfl rfl (any_of HT_.out (by kernel_rfl)) (fun _ _ _ h => h) (Or.inl ⟨by rfl, ?_⟩) ?_ ?_
      rotate_left
      · intro w'
        go_simp
        with_reducible rfl
      rotate_left
      · simp only [Act.put, List.setIfInBounds_toArray, List.set_cons_zero, List.set_cons_succ, i64_w, i32_w]
        rfl
      refine take_ (i := 5) (N := some 93) (v := ?_) (a' := ?_) #[true, false, false, true, true, true, false, false, false, false, false, false, false, false] rfl rfl (take_ofW HT_.out HW_.out (by kernel_rfl)) (fun _ _ _ h => h) (Or.inl ⟨by rfl, ?_⟩) hHeld ?_ ?_
      rotate_left
      · rintro w' ⟨s0, s1, s2, s3, s4, s5⟩
        go_simp
        with_reducible rfl
      rotate_left
      · simp only [Act.put, List.setIfInBounds_toArray, List.set_cons_zero, List.set_cons_succ, i64_w, i32_w]
        rfl
      refine pure_ (i := 6) (N := some 94) (v := ?_) (a' := ?_) #[true, false, false, true, true, true, true, false, false, false, false, false, false, false] rfl rfl (any_of HT_.out (by kernel_rfl)) (fun _ _ _ h => h) (Or.inl ⟨by rfl, ?_⟩) ?_ ?_
      rotate_left
      · intro w'
        go_simp
        with_reducible rfl
      rotate_left
      · simp only [Act.put, List.setIfInBounds_toArray, List.set_cons_zero, List.set_cons_succ, i64_w, i32_w]
        rfl
      refine join_ (σ := Value × Nat) 2 #[true, true, true, true, true, true, true, true, true, true, true, true, false, false] (fun s_ => [(89, .agg #[.slice AT T.length cT, .slice AL L.length cL]), (90, s_.1), (95, .tuple #[.agg #[.int .i64 b1, .int .i64 b2], .int .i64 0]), (17, .pointer (some ⟨s_.2, 0, none⟩)), (87, .tuple #[.agg #[.int .i64 b1, .int .i64 b2], .int .i64 0]), (96, .agg #[.int .i64 b1, .int .i64 b2]), (97, .int .i64 0)]) (fun s_ w' => CF wr.heap.size (.slice AT T.length cT) (.slice AL L.length cL) w.heap.size (.int .i64 y) (.int .i64 o) w w8 w' ∧ Box w8 s_.2 #[.int .i64 0, .int .i64 0] 28 w') ?_ ?_
      rotate_left
      · intro hCont
        refine two_ (i := 1) (j := 11) (Ni := some 89) (Nj := some 17) #[true, true, false, true, true, true, true, false, false, false, false, false, false, false] #[true, false, false, true, true, true, true, false, false, false, false, true, false, false] rfl rfl rfl rfl (two_of HT_.out (by kernel_rfl)) (by decide) (by decide) (fun K hK => ?_) (fun K hK => ?_)
        · skip
          refine goes_ Try.func38 (by kernel_rfl) rfl #[.agg #[.slice AT T.length cT, .slice AL L.length cL]] (by rfl) rfl rfl (by (try simp only [List.map_toArray, List.map_cons, List.map_nil]); first | done | rfl | (simp only [List.length_drop, List.length_take]; rfl)) ?_
          refine (own_calls AT AL T.length cT L.length cL _).mono ?_
          rintro e wr1 ⟨rfl, hb⟩
          refine ⟨_, rfl, ?_⟩
          refine hK.out _ _ (CF.below hHeld hb) (fun hHeld => ?_)
          clear hK K hb
          refine norm_ (a' := ?_) ?_ ?_
          rotate_left
          · show Act.put _ (some 89) _ = _
            simp only [Act.put, List.setIfInBounds_toArray, List.set_cons_zero, List.set_cons_succ, i64_w, i32_w]
            rfl
          refine two_ (i := 2) (j := 11) (Ni := some 90) (Nj := some 17) #[true, true, true, true, true, true, true, false, false, false, false, false, false, false] #[true, true, false, true, true, true, true, false, false, false, false, true, false, false] rfl rfl rfl rfl (two_of HT_.out (by kernel_rfl)) (by decide) (by decide) (fun K hK => ?_) (fun K hK => ?_)
          · skip
            refine goes_ Try.func20 (by kernel_rfl) rfl #[.agg #[.slice AT T.length cT, .slice AL L.length cL]] (by rfl) rfl rfl (by (try simp only [List.map_toArray, List.map_cons, List.map_nil]); first | done | rfl | (simp only [List.length_drop, List.length_take]; rfl)) ?_
            refine (comfitlaw02_Of.calls AT cT T AL cL L P Q _ (Kd.C_below HTR.out.2 hHeld.2.2.2.2.2) HTR.out.1 (Kd.C_below HLR.out.2 hHeld.2.2.2.2.2) HLR.out.1 HOF.out).mono ?_
            rintro e wr2 ⟨v1, v2, rfl, ho0, ho1, hb⟩
            refine ⟨_, rfl, ?_⟩
            obtain ⟨Ap, cp, rfl⟩ := Kd.R_slice ho0
            obtain ⟨Aq, cq, rfl⟩ := Kd.R_slice ho1
            have HP0 := Aside0.mk (Kd.R_reads' ho0).2
            have HP1 := Aside0.mk (Kd.R_reads' ho1).2
            clear ho0 ho1
            refine hK.out _ _ (CF.below hHeld hb) (fun hHeld => ?_)
            clear hK K hb
            refine norm_ (a' := ?_) ?_ ?_
            rotate_left
            · show Act.put _ (some 90) _ = _
              simp only [Act.put, List.setIfInBounds_toArray, List.set_cons_zero, List.set_cons_succ, i64_w, i32_w]
              rfl
            refine two_ (i := 7) (j := 11) (Ni := some 95) (Nj := some 17) #[true, true, true, true, true, true, true, true, false, false, false, false, false, false] #[true, true, true, true, true, true, true, false, false, false, false, true, false, false] rfl rfl rfl rfl (two_of HT_.out (by kernel_rfl)) (by decide) (by decide) (fun K hK => ?_) (fun K hK => ?_)
            · skip
              refine goes_ Try.func19 (by kernel_rfl) rfl #[.agg #[.slice Ap P.length cp, .slice Aq Q.length cq], .agg #[.int .i64 ls, .int .i64 o]] (by rfl) rfl rfl (by (try simp only [List.map_toArray, List.map_cons, List.map_nil]); first | done | rfl | (simp only [List.length_drop, List.length_take]; rfl)) ?_
              refine (lots_Taken.calls k Ap cp P Aq cq Q ls o b1 b2 0 _ HP0.out.2 HP0.out.1 HP1.out.2 HP1.out.1 HTB.out).mono ?_
              rintro e wr3 ⟨rfl, hb⟩
              refine ⟨_, rfl, ?_⟩
              replace HP0 := Aside0.mk (And.intro HP0.out.1 (Kd.C_below HP0.out.2 hb))
              replace HP1 := Aside0.mk (And.intro HP1.out.1 (Kd.C_below HP1.out.2 hb))
              refine hK.out _ _ (CF.below hHeld hb) (fun hHeld => ?_)
              clear hK K hb
              refine norm_ (a' := ?_) ?_ ?_
              rotate_left
              · show Act.put _ (some 95) _ = _
                simp only [Act.put, List.setIfInBounds_toArray, List.set_cons_zero, List.set_cons_succ, i64_w, i32_w]
                rfl
              refine pure_ (i := 8) (N := some 87) (v := ?_) (a' := ?_) #[true, true, true, true, true, true, true, true, true, false, false, false, false, false] rfl rfl (any_of HT_.out (by kernel_rfl)) (fun _ _ _ h => h) (Or.inl ⟨by rfl, ?_⟩) ?_ ?_
              rotate_left
              · intro w'
                go_simp
                with_reducible rfl
              rotate_left
              · simp only [Act.put, List.setIfInBounds_toArray, List.set_cons_zero, List.set_cons_succ, i64_w, i32_w]
                rfl
              refine pure_ (i := 9) (N := some 96) (v := ?_) (a' := ?_) #[true, true, true, true, true, true, true, true, true, true, false, false, false, false] rfl rfl (any_of HT_.out (by kernel_rfl)) (fun _ _ _ h => h) (Or.inl ⟨by rfl, ?_⟩) ?_ ?_
              rotate_left
              · intro w'
                go_simp
                with_reducible rfl
              rotate_left
              · simp only [Act.put, List.setIfInBounds_toArray, List.set_cons_zero, List.set_cons_succ, i64_w, i32_w]
                rfl
              refine pure_ (i := 10) (N := some 97) (v := ?_) (a' := ?_) #[true, true, true, true, true, true, true, true, true, true, true, false, false, false] rfl rfl (any_of HT_.out (by kernel_rfl)) (fun _ _ _ h => h) (Or.inl ⟨by rfl, ?_⟩) ?_ ?_
              rotate_left
              · intro w'
                go_simp
                with_reducible rfl
              rotate_left
              · simp only [Act.put, List.setIfInBounds_toArray, List.set_cons_zero, List.set_cons_succ, i64_w, i32_w]
                rfl
              refine one_ (i := 11) (N := some 17) #[true, true, true, true, true, true, true, true, true, true, true, true, false, false] rfl rfl (one_of HT_.out (by kernel_rfl)) (by decide) (fun K hK => ?_)
              refine box_step ?hg (N := 17) ?hd (cs := #[.int .i64 0, .int .i64 0]) (t := 28) ?hr ?_; (case hd => rfl); (case hg => rfl); (case hr => first | (go_simp; done) | (go_simp; rfl))
              intro gx hg wr4 hbox hb
              replace HP0 := Aside0.mk (And.intro HP0.out.1 (Kd.C_below HP0.out.2 hb))
              replace HP1 := Aside0.mk (And.intro HP1.out.1 (Kd.C_below HP1.out.2 hb))
              have HX : Aside0 (Box w8 gx #[.int .i64 0, .int .i64 0] 28 _) := ⟨⟨by rw [hg]; exact hHeld.2.2.2.2.2.size, hbox⟩⟩
              clear hg hbox
              refine hK.out _ _ (CF.below hHeld hb) (fun hHeld => ?_)
              clear hK K hb
              refine norm_ (a' := ?_) ?_ ?_
              rotate_left
              · show Act.put _ (some 17) _ = _
                simp only [Act.put, List.setIfInBounds_toArray, List.set_cons_zero, List.set_cons_succ, i64_w, i32_w]
                rfl
              exact norm_ (by simp only [putAll, Act.put, List.setIfInBounds_toArray, List.set_cons_zero, List.set_cons_succ]) (hCont (.agg #[.slice Ap P.length cp, .slice Aq Q.length cq], gx) _ ⟨hHeld, HX.out⟩)
            · skip
              refine box_step ?hg (N := 17) ?hd (cs := #[.int .i64 0, .int .i64 0]) (t := 28) ?hr ?_; (case hd => rfl); (case hg => rfl); (case hr => first | (go_simp; done) | (go_simp; rfl))
              intro gx hg wr5 hbox hb
              replace HP0 := Aside0.mk (And.intro HP0.out.1 (Kd.C_below HP0.out.2 hb))
              replace HP1 := Aside0.mk (And.intro HP1.out.1 (Kd.C_below HP1.out.2 hb))
              have HX : Aside0 (Box w8 gx #[.int .i64 0, .int .i64 0] 28 _) := ⟨⟨by rw [hg]; exact hHeld.2.2.2.2.2.size, hbox⟩⟩
              clear hg hbox
              refine hK.out _ _ (CF.below hHeld hb) (fun hHeld => ?_)
              clear hK K hb
              refine norm_ (a' := ?_) ?_ ?_
              rotate_left
              · show Act.put _ (some 17) _ = _
                simp only [Act.put, List.setIfInBounds_toArray, List.set_cons_zero, List.set_cons_succ, i64_w, i32_w]
                rfl
              refine one_ (i := 7) (N := some 95) #[true, true, true, true, true, true, true, true, false, false, false, true, false, false] rfl rfl (one_of HT_.out (by kernel_rfl)) (by decide) (fun K hK => ?_)
              refine goes_ Try.func19 (by kernel_rfl) rfl #[.agg #[.slice Ap P.length cp, .slice Aq Q.length cq], .agg #[.int .i64 ls, .int .i64 o]] (by rfl) rfl rfl (by (try simp only [List.map_toArray, List.map_cons, List.map_nil]); first | done | rfl | (simp only [List.length_drop, List.length_take]; rfl)) ?_
              refine (lots_Taken.calls k Ap cp P Aq cq Q ls o b1 b2 0 _ HP0.out.2 HP0.out.1 HP1.out.2 HP1.out.1 HTB.out).mono ?_
              rintro e wr6 ⟨rfl, hb⟩
              refine ⟨_, rfl, ?_⟩
              replace HP0 := Aside0.mk (And.intro HP0.out.1 (Kd.C_below HP0.out.2 hb))
              replace HP1 := Aside0.mk (And.intro HP1.out.1 (Kd.C_below HP1.out.2 hb))
              replace HX := Aside0.mk (HX.out.below hb)
              refine hK.out _ _ (CF.below hHeld hb) (fun hHeld => ?_)
              clear hK K hb
              refine norm_ (a' := ?_) ?_ ?_
              rotate_left
              · show Act.put _ (some 95) _ = _
                simp only [Act.put, List.setIfInBounds_toArray, List.set_cons_zero, List.set_cons_succ, i64_w, i32_w]
                rfl
              refine pure_ (i := 8) (N := some 87) (v := ?_) (a' := ?_) #[true, true, true, true, true, true, true, true, true, false, false, true, false, false] rfl rfl (any_of HT_.out (by kernel_rfl)) (fun _ _ _ h => h) (Or.inl ⟨by rfl, ?_⟩) ?_ ?_
              rotate_left
              · intro w'
                go_simp
                with_reducible rfl
              rotate_left
              · simp only [Act.put, List.setIfInBounds_toArray, List.set_cons_zero, List.set_cons_succ, i64_w, i32_w]
                rfl
              refine pure_ (i := 9) (N := some 96) (v := ?_) (a' := ?_) #[true, true, true, true, true, true, true, true, true, true, false, true, false, false] rfl rfl (any_of HT_.out (by kernel_rfl)) (fun _ _ _ h => h) (Or.inl ⟨by rfl, ?_⟩) ?_ ?_
              rotate_left
              · intro w'
                go_simp
                with_reducible rfl
              rotate_left
              · simp only [Act.put, List.setIfInBounds_toArray, List.set_cons_zero, List.set_cons_succ, i64_w, i32_w]
                rfl
              refine pure_ (i := 10) (N := some 97) (v := ?_) (a' := ?_) #[true, true, true, true, true, true, true, true, true, true, true, true, false, false] rfl rfl (any_of HT_.out (by kernel_rfl)) (fun _ _ _ h => h) (Or.inl ⟨by rfl, ?_⟩) ?_ ?_
              rotate_left
              · intro w'
                go_simp
                with_reducible rfl
              rotate_left
              · simp only [Act.put, List.setIfInBounds_toArray, List.set_cons_zero, List.set_cons_succ, i64_w, i32_w]
                rfl
              exact norm_ (by simp only [putAll, Act.put, List.setIfInBounds_toArray, List.set_cons_zero, List.set_cons_succ]) (hCont (.agg #[.slice Ap P.length cp, .slice Aq Q.length cq], gx) _ ⟨hHeld, HX.out⟩)
          · skip
            refine box_step ?hg (N := 17) ?hd (cs := #[.int .i64 0, .int .i64 0]) (t := 28) ?hr ?_; (case hd => rfl); (case hg => rfl); (case hr => first | (go_simp; done) | (go_simp; rfl))
            intro gx hg wr7 hbox hb
            have HX : Aside0 (Box w8 gx #[.int .i64 0, .int .i64 0] 28 _) := ⟨⟨by rw [hg]; exact hHeld.2.2.2.2.2.size, hbox⟩⟩
            clear hg hbox
            refine hK.out _ _ (CF.below hHeld hb) (fun hHeld => ?_)
            clear hK K hb
            refine norm_ (a' := ?_) ?_ ?_
            rotate_left
            · show Act.put _ (some 17) _ = _
              simp only [Act.put, List.setIfInBounds_toArray, List.set_cons_zero, List.set_cons_succ, i64_w, i32_w]
              rfl
            refine one_ (i := 2) (N := some 90) #[true, true, true, true, true, true, true, false, false, false, false, true, false, false] rfl rfl (one_of HT_.out (by kernel_rfl)) (by decide) (fun K hK => ?_)
            refine goes_ Try.func20 (by kernel_rfl) rfl #[.agg #[.slice AT T.length cT, .slice AL L.length cL]] (by rfl) rfl rfl (by (try simp only [List.map_toArray, List.map_cons, List.map_nil]); first | done | rfl | (simp only [List.length_drop, List.length_take]; rfl)) ?_
            refine (comfitlaw02_Of.calls AT cT T AL cL L P Q _ (Kd.C_below HTR.out.2 hHeld.2.2.2.2.2) HTR.out.1 (Kd.C_below HLR.out.2 hHeld.2.2.2.2.2) HLR.out.1 HOF.out).mono ?_
            rintro e wr8 ⟨v1, v2, rfl, ho0, ho1, hb⟩
            refine ⟨_, rfl, ?_⟩
            replace HX := Aside0.mk (HX.out.below hb)
            obtain ⟨Ap, cp, rfl⟩ := Kd.R_slice ho0
            obtain ⟨Aq, cq, rfl⟩ := Kd.R_slice ho1
            have HP0 := Aside0.mk (Kd.R_reads' ho0).2
            have HP1 := Aside0.mk (Kd.R_reads' ho1).2
            clear ho0 ho1
            refine hK.out _ _ (CF.below hHeld hb) (fun hHeld => ?_)
            clear hK K hb
            refine norm_ (a' := ?_) ?_ ?_
            rotate_left
            · show Act.put _ (some 90) _ = _
              simp only [Act.put, List.setIfInBounds_toArray, List.set_cons_zero, List.set_cons_succ, i64_w, i32_w]
              rfl
            refine one_ (i := 7) (N := some 95) #[true, true, true, true, true, true, true, true, false, false, false, true, false, false] rfl rfl (one_of HT_.out (by kernel_rfl)) (by decide) (fun K hK => ?_)
            refine goes_ Try.func19 (by kernel_rfl) rfl #[.agg #[.slice Ap P.length cp, .slice Aq Q.length cq], .agg #[.int .i64 ls, .int .i64 o]] (by rfl) rfl rfl (by (try simp only [List.map_toArray, List.map_cons, List.map_nil]); first | done | rfl | (simp only [List.length_drop, List.length_take]; rfl)) ?_
            refine (lots_Taken.calls k Ap cp P Aq cq Q ls o b1 b2 0 _ HP0.out.2 HP0.out.1 HP1.out.2 HP1.out.1 HTB.out).mono ?_
            rintro e wr9 ⟨rfl, hb⟩
            refine ⟨_, rfl, ?_⟩
            replace HP0 := Aside0.mk (And.intro HP0.out.1 (Kd.C_below HP0.out.2 hb))
            replace HP1 := Aside0.mk (And.intro HP1.out.1 (Kd.C_below HP1.out.2 hb))
            replace HX := Aside0.mk (HX.out.below hb)
            refine hK.out _ _ (CF.below hHeld hb) (fun hHeld => ?_)
            clear hK K hb
            refine norm_ (a' := ?_) ?_ ?_
            rotate_left
            · show Act.put _ (some 95) _ = _
              simp only [Act.put, List.setIfInBounds_toArray, List.set_cons_zero, List.set_cons_succ, i64_w, i32_w]
              rfl
            refine pure_ (i := 8) (N := some 87) (v := ?_) (a' := ?_) #[true, true, true, true, true, true, true, true, true, false, false, true, false, false] rfl rfl (any_of HT_.out (by kernel_rfl)) (fun _ _ _ h => h) (Or.inl ⟨by rfl, ?_⟩) ?_ ?_
            rotate_left
            · intro w'
              go_simp
              with_reducible rfl
            rotate_left
            · simp only [Act.put, List.setIfInBounds_toArray, List.set_cons_zero, List.set_cons_succ, i64_w, i32_w]
              rfl
            refine pure_ (i := 9) (N := some 96) (v := ?_) (a' := ?_) #[true, true, true, true, true, true, true, true, true, true, false, true, false, false] rfl rfl (any_of HT_.out (by kernel_rfl)) (fun _ _ _ h => h) (Or.inl ⟨by rfl, ?_⟩) ?_ ?_
            rotate_left
            · intro w'
              go_simp
              with_reducible rfl
            rotate_left
            · simp only [Act.put, List.setIfInBounds_toArray, List.set_cons_zero, List.set_cons_succ, i64_w, i32_w]
              rfl
            refine pure_ (i := 10) (N := some 97) (v := ?_) (a' := ?_) #[true, true, true, true, true, true, true, true, true, true, true, true, false, false] rfl rfl (any_of HT_.out (by kernel_rfl)) (fun _ _ _ h => h) (Or.inl ⟨by rfl, ?_⟩) ?_ ?_
            rotate_left
            · intro w'
              go_simp
              with_reducible rfl
            rotate_left
            · simp only [Act.put, List.setIfInBounds_toArray, List.set_cons_zero, List.set_cons_succ, i64_w, i32_w]
              rfl
            exact norm_ (by simp only [putAll, Act.put, List.setIfInBounds_toArray, List.set_cons_zero, List.set_cons_succ]) (hCont (.agg #[.slice Ap P.length cp, .slice Aq Q.length cq], gx) _ ⟨hHeld, HX.out⟩)
        · skip
          refine box_step ?hg (N := 17) ?hd (cs := #[.int .i64 0, .int .i64 0]) (t := 28) ?hr ?_; (case hd => rfl); (case hg => rfl); (case hr => first | (go_simp; done) | (go_simp; rfl))
          intro gx hg wr10 hbox hb
          have HX : Aside0 (Box w8 gx #[.int .i64 0, .int .i64 0] 28 _) := ⟨⟨by rw [hg]; exact hHeld.2.2.2.2.2.size, hbox⟩⟩
          clear hg hbox
          refine hK.out _ _ (CF.below hHeld hb) (fun hHeld => ?_)
          clear hK K hb
          refine norm_ (a' := ?_) ?_ ?_
          rotate_left
          · show Act.put _ (some 17) _ = _
            simp only [Act.put, List.setIfInBounds_toArray, List.set_cons_zero, List.set_cons_succ, i64_w, i32_w]
            rfl
          refine one_ (i := 1) (N := some 89) #[true, true, false, true, true, true, true, false, false, false, false, true, false, false] rfl rfl (one_of HT_.out (by kernel_rfl)) (by decide) (fun K hK => ?_)
          refine goes_ Try.func38 (by kernel_rfl) rfl #[.agg #[.slice AT T.length cT, .slice AL L.length cL]] (by rfl) rfl rfl (by (try simp only [List.map_toArray, List.map_cons, List.map_nil]); first | done | rfl | (simp only [List.length_drop, List.length_take]; rfl)) ?_
          refine (own_calls AT AL T.length cT L.length cL _).mono ?_
          rintro e wr11 ⟨rfl, hb⟩
          refine ⟨_, rfl, ?_⟩
          replace HX := Aside0.mk (HX.out.below hb)
          refine hK.out _ _ (CF.below hHeld hb) (fun hHeld => ?_)
          clear hK K hb
          refine norm_ (a' := ?_) ?_ ?_
          rotate_left
          · show Act.put _ (some 89) _ = _
            simp only [Act.put, List.setIfInBounds_toArray, List.set_cons_zero, List.set_cons_succ, i64_w, i32_w]
            rfl
          refine one_ (i := 2) (N := some 90) #[true, true, true, true, true, true, true, false, false, false, false, true, false, false] rfl rfl (one_of HT_.out (by kernel_rfl)) (by decide) (fun K hK => ?_)
          refine goes_ Try.func20 (by kernel_rfl) rfl #[.agg #[.slice AT T.length cT, .slice AL L.length cL]] (by rfl) rfl rfl (by (try simp only [List.map_toArray, List.map_cons, List.map_nil]); first | done | rfl | (simp only [List.length_drop, List.length_take]; rfl)) ?_
          refine (comfitlaw02_Of.calls AT cT T AL cL L P Q _ (Kd.C_below HTR.out.2 hHeld.2.2.2.2.2) HTR.out.1 (Kd.C_below HLR.out.2 hHeld.2.2.2.2.2) HLR.out.1 HOF.out).mono ?_
          rintro e wr12 ⟨v1, v2, rfl, ho0, ho1, hb⟩
          refine ⟨_, rfl, ?_⟩
          replace HX := Aside0.mk (HX.out.below hb)
          obtain ⟨Ap, cp, rfl⟩ := Kd.R_slice ho0
          obtain ⟨Aq, cq, rfl⟩ := Kd.R_slice ho1
          have HP0 := Aside0.mk (Kd.R_reads' ho0).2
          have HP1 := Aside0.mk (Kd.R_reads' ho1).2
          clear ho0 ho1
          refine hK.out _ _ (CF.below hHeld hb) (fun hHeld => ?_)
          clear hK K hb
          refine norm_ (a' := ?_) ?_ ?_
          rotate_left
          · show Act.put _ (some 90) _ = _
            simp only [Act.put, List.setIfInBounds_toArray, List.set_cons_zero, List.set_cons_succ, i64_w, i32_w]
            rfl
          refine one_ (i := 7) (N := some 95) #[true, true, true, true, true, true, true, true, false, false, false, true, false, false] rfl rfl (one_of HT_.out (by kernel_rfl)) (by decide) (fun K hK => ?_)
          refine goes_ Try.func19 (by kernel_rfl) rfl #[.agg #[.slice Ap P.length cp, .slice Aq Q.length cq], .agg #[.int .i64 ls, .int .i64 o]] (by rfl) rfl rfl (by (try simp only [List.map_toArray, List.map_cons, List.map_nil]); first | done | rfl | (simp only [List.length_drop, List.length_take]; rfl)) ?_
          refine (lots_Taken.calls k Ap cp P Aq cq Q ls o b1 b2 0 _ HP0.out.2 HP0.out.1 HP1.out.2 HP1.out.1 HTB.out).mono ?_
          rintro e wr13 ⟨rfl, hb⟩
          refine ⟨_, rfl, ?_⟩
          replace HP0 := Aside0.mk (And.intro HP0.out.1 (Kd.C_below HP0.out.2 hb))
          replace HP1 := Aside0.mk (And.intro HP1.out.1 (Kd.C_below HP1.out.2 hb))
          replace HX := Aside0.mk (HX.out.below hb)
          refine hK.out _ _ (CF.below hHeld hb) (fun hHeld => ?_)
          clear hK K hb
          refine norm_ (a' := ?_) ?_ ?_
          rotate_left
          · show Act.put _ (some 95) _ = _
            simp only [Act.put, List.setIfInBounds_toArray, List.set_cons_zero, List.set_cons_succ, i64_w, i32_w]
            rfl
          refine pure_ (i := 8) (N := some 87) (v := ?_) (a' := ?_) #[true, true, true, true, true, true, true, true, true, false, false, true, false, false] rfl rfl (any_of HT_.out (by kernel_rfl)) (fun _ _ _ h => h) (Or.inl ⟨by rfl, ?_⟩) ?_ ?_
          rotate_left
          · intro w'
            go_simp
            with_reducible rfl
          rotate_left
          · simp only [Act.put, List.setIfInBounds_toArray, List.set_cons_zero, List.set_cons_succ, i64_w, i32_w]
            rfl
          refine pure_ (i := 9) (N := some 96) (v := ?_) (a' := ?_) #[true, true, true, true, true, true, true, true, true, true, false, true, false, false] rfl rfl (any_of HT_.out (by kernel_rfl)) (fun _ _ _ h => h) (Or.inl ⟨by rfl, ?_⟩) ?_ ?_
          rotate_left
          · intro w'
            go_simp
            with_reducible rfl
          rotate_left
          · simp only [Act.put, List.setIfInBounds_toArray, List.set_cons_zero, List.set_cons_succ, i64_w, i32_w]
            rfl
          refine pure_ (i := 10) (N := some 97) (v := ?_) (a' := ?_) #[true, true, true, true, true, true, true, true, true, true, true, true, false, false] rfl rfl (any_of HT_.out (by kernel_rfl)) (fun _ _ _ h => h) (Or.inl ⟨by rfl, ?_⟩) ?_ ?_
          rotate_left
          · intro w'
            go_simp
            with_reducible rfl
          rotate_left
          · simp only [Act.put, List.setIfInBounds_toArray, List.set_cons_zero, List.set_cons_succ, i64_w, i32_w]
            rfl
          exact norm_ (by simp only [putAll, Act.put, List.setIfInBounds_toArray, List.set_cons_zero, List.set_cons_succ]) (hCont (.agg #[.slice Ap P.length cp, .slice Aq Q.length cq], gx) _ ⟨hHeld, HX.out⟩)
      rintro ⟨va, gx_BB⟩ wt ⟨hHeld, hbx⟩
      have HX := Aside0.mk hbx
      clear hbx
      refine norm_ (a' := ?_) ?_ ?_
      rotate_left
      · simp only [putAll, Act.put, List.setIfInBounds_toArray, List.set_cons_zero, List.set_cons_succ]
        rfl
      refine one_ (i := 12) (N := none) #[true, true, true, true, true, true, true, true, true, true, true, true, true, false] rfl rfl (one_of HT_.out (by kernel_rfl)) (by decide) (fun K hK => ?_)
      have hs0_ := HX.out.cell 0 rfl
      have hs1_ := HX.out.cell 1 rfl
      have fs0_ := HX.out.frozen 0
      have fs1_ := HX.out.frozen 1
      refine skip_ (w1 := ?_) (by rfl) rfl ?_ ?_
      rotate_left
      · go_simp
        rfl
      have HL := Aside0.mk (below_set' (below_set' hHeld.2.2.2.2.2 (p := ⟨gx_BB, 0, none⟩) HX.out.1 (.int .i64 b1)) (p := ⟨gx_BB, 1, none⟩) HX.out.1 (.int .i64 b2))
      refine hK.out _ _ (cf_of B14.out B6.out HB.out HL.out) (fun hHeld => ?_)
      clear hK K hHeld
      have BB : Aside0 (Box w8 gx_BB #[.int .i64 b1, .int .i64 b2] 28 _) := ⟨(HX.out.put 0 (.int .i64 b1)).put 1 (.int .i64 b2)⟩
      clear hs0_ hs1_ fs0_ fs1_ HX
      refine pure_ (i := 13) (N := some 18) (v := ?_) (a' := ?_) #[true, true, true, true, true, true, true, true, true, true, true, true, true, true] rfl rfl (any_of HT_.out (by kernel_rfl)) (fun _ _ _ h => h) (Or.inl ⟨by rfl, ?_⟩) ?_ ?_
      rotate_left
      · intro w'
        go_simp
        with_reducible rfl
      rotate_left
      · simp only [Act.put, List.setIfInBounds_toArray, List.set_cons_zero, List.set_cons_succ, i64_w, i32_w]
        rfl
      refine done_ (done_of HT_.out (by kernel_rfl)) ?_
      clear HT_ HW_
      generalize ((wt.setCell _ _).setCell _ _) = w10 at BB HL ⊢
      replace B6 := Aside0.mk (B6.out.below HL.out)
      replace B14 := Aside0.mk (B14.out.below HL.out)
      replace BA := Aside0.mk (BA.out.below HL.out)
      replace HTR := Aside0.mk (And.intro HTR.out.1 (Kd.C_below HTR.out.2 HL.out))
      replace HLR := Aside0.mk (And.intro HLR.out.1 (Kd.C_below HLR.out.2 HL.out))
      replace HW := Aside0.mk (below_step HW.out HL.out)
      replace HB := Aside0.mk (below_step HB.out HL.out)
      clear HL HTB
      go_wp2_with fail
      refine start_ (n := 12) (S := CF wr.heap.size (.slice AT T.length cT) (.slice AL L.length cL) w.heap.size (.int .i64 y) (.int .i64 o) w w10) (ds := []) #[false, false, false, false, false, false, false, false, false, false, false, false] (by kernel_rfl) rfl rfl (cf_of B14.out B6.out HB.out (below_drew (Below.refl _ _))) (fun hHeld => ?_)
      refine with_tabW fewT.tab11 fewT.bits11 (fun HT_ HW_ => ?_)
      generalize (World.drew _) = w11 at hHeld ⊢
      refine take_ (i := 0) (N := some 99) (v := ?_) (a' := ?_) #[true, false, false, false, false, false, false, false, false, false, false, false] rfl rfl (take_ofW HT_.out HW_.out (by kernel_rfl)) (fun _ _ _ h => h) (Or.inl ⟨by rfl, ?_⟩) hHeld ?_ ?_
      rotate_left
      · rintro w' ⟨s0, s1, s2, s3, s4, s5⟩
        go_simp
        with_reducible rfl
      rotate_left
      · simp only [Act.put, List.setIfInBounds_toArray, List.set_cons_zero, List.set_cons_succ, i64_w, i32_w]
        rfl
      refine take_ (i := 3) (N := some 102) (v := ?_) (a' := ?_) #[true, false, false, true, false, false, false, false, false, false, false, false] rfl rfl (take_ofW HT_.out HW_.out (by kernel_rfl)) (fun _ _ _ h => h) (Or.inl ⟨by rfl, ?_⟩) hHeld ?_ ?_
      rotate_left
      · rintro w' ⟨s0, s1, s2, s3, s4, s5⟩
        go_simp
        with_reducible rfl
      rotate_left
      · simp only [Act.put, List.setIfInBounds_toArray, List.set_cons_zero, List.set_cons_succ, i64_w, i32_w]
        rfl
      refine join_ (σ := Value × Nat) 2 #[true, true, true, true, true, true, true, true, true, true, false, false] (fun s_ => [(100, .agg #[.slice AT T.length cT, .slice AL L.length cL]), (101, s_.1), (103, .agg #[.int .i64 y, .int .i64 o]), (104, .tuple #[.agg #[.int .i64 m1, .int .i64 m2], .int .i64 0]), (19, .pointer (some ⟨s_.2, 0, none⟩)), (98, .tuple #[.agg #[.int .i64 m1, .int .i64 m2], .int .i64 0]), (105, .agg #[.int .i64 m1, .int .i64 m2]), (106, .int .i64 0)]) (fun s_ w' => CF wr.heap.size (.slice AT T.length cT) (.slice AL L.length cL) w.heap.size (.int .i64 y) (.int .i64 o) w w10 w' ∧ Box w10 s_.2 #[.int .i64 0, .int .i64 0] 28 w') ?_ ?_
      rotate_left
      · intro hCont
        refine two_ (i := 1) (j := 9) (Ni := some 100) (Nj := some 19) #[true, true, false, true, false, false, false, false, false, false, false, false] #[true, false, false, true, false, false, false, false, false, true, false, false] rfl rfl rfl rfl (two_of HT_.out (by kernel_rfl)) (by decide) (by decide) (fun K hK => ?_) (fun K hK => ?_)
        · skip
          refine goes_ Try.func38 (by kernel_rfl) rfl #[.agg #[.slice AT T.length cT, .slice AL L.length cL]] (by rfl) rfl rfl (by (try simp only [List.map_toArray, List.map_cons, List.map_nil]); first | done | rfl | (simp only [List.length_drop, List.length_take]; rfl)) ?_
          refine (own_calls AT AL T.length cT L.length cL _).mono ?_
          rintro e wr1 ⟨rfl, hb⟩
          refine ⟨_, rfl, ?_⟩
          refine hK.out _ _ (CF.below hHeld hb) (fun hHeld => ?_)
          clear hK K hb
          refine norm_ (a' := ?_) ?_ ?_
          rotate_left
          · show Act.put _ (some 100) _ = _
            simp only [Act.put, List.setIfInBounds_toArray, List.set_cons_zero, List.set_cons_succ, i64_w, i32_w]
            rfl
          refine two_ (i := 2) (j := 9) (Ni := some 101) (Nj := some 19) #[true, true, true, true, false, false, false, false, false, false, false, false] #[true, true, false, true, false, false, false, false, false, true, false, false] rfl rfl rfl rfl (two_of HT_.out (by kernel_rfl)) (by decide) (by decide) (fun K hK => ?_) (fun K hK => ?_)
          · skip
            refine goes_ Try.func20 (by kernel_rfl) rfl #[.agg #[.slice AT T.length cT, .slice AL L.length cL]] (by rfl) rfl rfl (by (try simp only [List.map_toArray, List.map_cons, List.map_nil]); first | done | rfl | (simp only [List.length_drop, List.length_take]; rfl)) ?_
            refine (comfitlaw02_Of.calls AT cT T AL cL L P Q _ (Kd.C_below HTR.out.2 hHeld.2.2.2.2.2) HTR.out.1 (Kd.C_below HLR.out.2 hHeld.2.2.2.2.2) HLR.out.1 HOF.out).mono ?_
            rintro e wr2 ⟨v1, v2, rfl, ho0, ho1, hb⟩
            refine ⟨_, rfl, ?_⟩
            obtain ⟨Ap, cp, rfl⟩ := Kd.R_slice ho0
            obtain ⟨Aq, cq, rfl⟩ := Kd.R_slice ho1
            have HP0 := Aside0.mk (Kd.R_reads' ho0).2
            have HP1 := Aside0.mk (Kd.R_reads' ho1).2
            clear ho0 ho1
            refine hK.out _ _ (CF.below hHeld hb) (fun hHeld => ?_)
            clear hK K hb
            refine norm_ (a' := ?_) ?_ ?_
            rotate_left
            · show Act.put _ (some 101) _ = _
              simp only [Act.put, List.setIfInBounds_toArray, List.set_cons_zero, List.set_cons_succ, i64_w, i32_w]
              rfl
            refine two_ (i := 4) (j := 9) (Ni := some 103) (Nj := some 19) #[true, true, true, true, true, false, false, false, false, false, false, false] #[true, true, true, true, false, false, false, false, false, true, false, false] rfl rfl rfl rfl (two_of HT_.out (by kernel_rfl)) (by decide) (by decide) (fun K hK => ?_) (fun K hK => ?_)
            · skip
              refine goes_ Try.func21 (by kernel_rfl) rfl #[.agg #[.int .i64 y, .int .i64 o]] (by rfl) rfl rfl (by (try simp only [List.map_toArray, List.map_cons, List.map_nil]); first | done | rfl | (simp only [List.length_drop, List.length_take]; rfl)) ?_
              refine (comfitlaw02_chance.calls y o y o _ HCH.out).mono ?_
              rintro e wr3 ⟨rfl, hb⟩
              refine ⟨_, rfl, ?_⟩
              replace HP0 := Aside0.mk (And.intro HP0.out.1 (Kd.C_below HP0.out.2 hb))
              replace HP1 := Aside0.mk (And.intro HP1.out.1 (Kd.C_below HP1.out.2 hb))
              refine hK.out _ _ (CF.below hHeld hb) (fun hHeld => ?_)
              clear hK K hb
              refine norm_ (a' := ?_) ?_ ?_
              rotate_left
              · show Act.put _ (some 103) _ = _
                simp only [Act.put, List.setIfInBounds_toArray, List.set_cons_zero, List.set_cons_succ, i64_w, i32_w]
                rfl
              refine two_ (i := 5) (j := 9) (Ni := some 104) (Nj := some 19) #[true, true, true, true, true, true, false, false, false, false, false, false] #[true, true, true, true, true, false, false, false, false, true, false, false] rfl rfl rfl rfl (two_of HT_.out (by kernel_rfl)) (by decide) (by decide) (fun K hK => ?_) (fun K hK => ?_)
              · skip
                refine goes_ Try.func22 (by kernel_rfl) rfl #[.agg #[.slice Ap P.length cp, .slice Aq Q.length cq], .agg #[.int .i64 y, .int .i64 o]] (by rfl) rfl rfl (by (try simp only [List.map_toArray, List.map_cons, List.map_nil]); first | done | rfl | (simp only [List.length_drop, List.length_take]; rfl)) ?_
                refine (lots_Looks.calls k Ap cp P Aq cq Q y o m1 m2 0 _ HP0.out.2 HP0.out.1 HP1.out.2 HP1.out.1 HLO.out).mono ?_
                rintro e wr4 ⟨rfl, hb⟩
                refine ⟨_, rfl, ?_⟩
                replace HP0 := Aside0.mk (And.intro HP0.out.1 (Kd.C_below HP0.out.2 hb))
                replace HP1 := Aside0.mk (And.intro HP1.out.1 (Kd.C_below HP1.out.2 hb))
                refine hK.out _ _ (CF.below hHeld hb) (fun hHeld => ?_)
                clear hK K hb
                refine norm_ (a' := ?_) ?_ ?_
                rotate_left
                · show Act.put _ (some 104) _ = _
                  simp only [Act.put, List.setIfInBounds_toArray, List.set_cons_zero, List.set_cons_succ, i64_w, i32_w]
                  rfl
                refine pure_ (i := 6) (N := some 98) (v := ?_) (a' := ?_) #[true, true, true, true, true, true, true, false, false, false, false, false] rfl rfl (any_of HT_.out (by kernel_rfl)) (fun _ _ _ h => h) (Or.inl ⟨by rfl, ?_⟩) ?_ ?_
                rotate_left
                · intro w'
                  go_simp
                  with_reducible rfl
                rotate_left
                · simp only [Act.put, List.setIfInBounds_toArray, List.set_cons_zero, List.set_cons_succ, i64_w, i32_w]
                  rfl
                refine pure_ (i := 7) (N := some 105) (v := ?_) (a' := ?_) #[true, true, true, true, true, true, true, true, false, false, false, false] rfl rfl (any_of HT_.out (by kernel_rfl)) (fun _ _ _ h => h) (Or.inl ⟨by rfl, ?_⟩) ?_ ?_
                rotate_left
                · intro w'
                  go_simp
                  with_reducible rfl
                rotate_left
                · simp only [Act.put, List.setIfInBounds_toArray, List.set_cons_zero, List.set_cons_succ, i64_w, i32_w]
                  rfl
                refine pure_ (i := 8) (N := some 106) (v := ?_) (a' := ?_) #[true, true, true, true, true, true, true, true, true, false, false, false] rfl rfl (any_of HT_.out (by kernel_rfl)) (fun _ _ _ h => h) (Or.inl ⟨by rfl, ?_⟩) ?_ ?_
                rotate_left
                · intro w'
                  go_simp
                  with_reducible rfl
                rotate_left
                · simp only [Act.put, List.setIfInBounds_toArray, List.set_cons_zero, List.set_cons_succ, i64_w, i32_w]
                  rfl
                refine one_ (i := 9) (N := some 19) #[true, true, true, true, true, true, true, true, true, true, false, false] rfl rfl (one_of HT_.out (by kernel_rfl)) (by decide) (fun K hK => ?_)
                refine box_step ?hg (N := 19) ?hd (cs := #[.int .i64 0, .int .i64 0]) (t := 28) ?hr ?_; (case hd => rfl); (case hg => rfl); (case hr => first | (go_simp; done) | (go_simp; rfl))
                intro gx hg wr5 hbox hb
                replace HP0 := Aside0.mk (And.intro HP0.out.1 (Kd.C_below HP0.out.2 hb))
                replace HP1 := Aside0.mk (And.intro HP1.out.1 (Kd.C_below HP1.out.2 hb))
                have HX : Aside0 (Box w10 gx #[.int .i64 0, .int .i64 0] 28 _) := ⟨⟨by rw [hg]; exact hHeld.2.2.2.2.2.size, hbox⟩⟩
                clear hg hbox
                refine hK.out _ _ (CF.below hHeld hb) (fun hHeld => ?_)
                clear hK K hb
                refine norm_ (a' := ?_) ?_ ?_
                rotate_left
                · show Act.put _ (some 19) _ = _
                  simp only [Act.put, List.setIfInBounds_toArray, List.set_cons_zero, List.set_cons_succ, i64_w, i32_w]
                  rfl
                exact norm_ (by simp only [putAll, Act.put, List.setIfInBounds_toArray, List.set_cons_zero, List.set_cons_succ]) (hCont (.agg #[.slice Ap P.length cp, .slice Aq Q.length cq], gx) _ ⟨hHeld, HX.out⟩)
              · skip
                refine box_step ?hg (N := 19) ?hd (cs := #[.int .i64 0, .int .i64 0]) (t := 28) ?hr ?_; (case hd => rfl); (case hg => rfl); (case hr => first | (go_simp; done) | (go_simp; rfl))
                intro gx hg wr6 hbox hb
                replace HP0 := Aside0.mk (And.intro HP0.out.1 (Kd.C_below HP0.out.2 hb))
                replace HP1 := Aside0.mk (And.intro HP1.out.1 (Kd.C_below HP1.out.2 hb))
                have HX : Aside0 (Box w10 gx #[.int .i64 0, .int .i64 0] 28 _) := ⟨⟨by rw [hg]; exact hHeld.2.2.2.2.2.size, hbox⟩⟩
                clear hg hbox
                refine hK.out _ _ (CF.below hHeld hb) (fun hHeld => ?_)
                clear hK K hb
                refine norm_ (a' := ?_) ?_ ?_
                rotate_left
                · show Act.put _ (some 19) _ = _
                  simp only [Act.put, List.setIfInBounds_toArray, List.set_cons_zero, List.set_cons_succ, i64_w, i32_w]
                  rfl
                refine one_ (i := 5) (N := some 104) #[true, true, true, true, true, true, false, false, false, true, false, false] rfl rfl (one_of HT_.out (by kernel_rfl)) (by decide) (fun K hK => ?_)
                refine goes_ Try.func22 (by kernel_rfl) rfl #[.agg #[.slice Ap P.length cp, .slice Aq Q.length cq], .agg #[.int .i64 y, .int .i64 o]] (by rfl) rfl rfl (by (try simp only [List.map_toArray, List.map_cons, List.map_nil]); first | done | rfl | (simp only [List.length_drop, List.length_take]; rfl)) ?_
                refine (lots_Looks.calls k Ap cp P Aq cq Q y o m1 m2 0 _ HP0.out.2 HP0.out.1 HP1.out.2 HP1.out.1 HLO.out).mono ?_
                rintro e wr7 ⟨rfl, hb⟩
                refine ⟨_, rfl, ?_⟩
                replace HP0 := Aside0.mk (And.intro HP0.out.1 (Kd.C_below HP0.out.2 hb))
                replace HP1 := Aside0.mk (And.intro HP1.out.1 (Kd.C_below HP1.out.2 hb))
                replace HX := Aside0.mk (HX.out.below hb)
                refine hK.out _ _ (CF.below hHeld hb) (fun hHeld => ?_)
                clear hK K hb
                refine norm_ (a' := ?_) ?_ ?_
                rotate_left
                · show Act.put _ (some 104) _ = _
                  simp only [Act.put, List.setIfInBounds_toArray, List.set_cons_zero, List.set_cons_succ, i64_w, i32_w]
                  rfl
                refine pure_ (i := 6) (N := some 98) (v := ?_) (a' := ?_) #[true, true, true, true, true, true, true, false, false, true, false, false] rfl rfl (any_of HT_.out (by kernel_rfl)) (fun _ _ _ h => h) (Or.inl ⟨by rfl, ?_⟩) ?_ ?_
                rotate_left
                · intro w'
                  go_simp
                  with_reducible rfl
                rotate_left
                · simp only [Act.put, List.setIfInBounds_toArray, List.set_cons_zero, List.set_cons_succ, i64_w, i32_w]
                  rfl
                refine pure_ (i := 7) (N := some 105) (v := ?_) (a' := ?_) #[true, true, true, true, true, true, true, true, false, true, false, false] rfl rfl (any_of HT_.out (by kernel_rfl)) (fun _ _ _ h => h) (Or.inl ⟨by rfl, ?_⟩) ?_ ?_
                rotate_left
                · intro w'
                  go_simp
                  with_reducible rfl
                rotate_left
                · simp only [Act.put, List.setIfInBounds_toArray, List.set_cons_zero, List.set_cons_succ, i64_w, i32_w]
                  rfl
                refine pure_ (i := 8) (N := some 106) (v := ?_) (a' := ?_) #[true, true, true, true, true, true, true, true, true, true, false, false] rfl rfl (any_of HT_.out (by kernel_rfl)) (fun _ _ _ h => h) (Or.inl ⟨by rfl, ?_⟩) ?_ ?_
                rotate_left
                · intro w'
                  go_simp
                  with_reducible rfl
                rotate_left
                · simp only [Act.put, List.setIfInBounds_toArray, List.set_cons_zero, List.set_cons_succ, i64_w, i32_w]
                  rfl
                exact norm_ (by simp only [putAll, Act.put, List.setIfInBounds_toArray, List.set_cons_zero, List.set_cons_succ]) (hCont (.agg #[.slice Ap P.length cp, .slice Aq Q.length cq], gx) _ ⟨hHeld, HX.out⟩)
            · skip
              refine box_step ?hg (N := 19) ?hd (cs := #[.int .i64 0, .int .i64 0]) (t := 28) ?hr ?_; (case hd => rfl); (case hg => rfl); (case hr => first | (go_simp; done) | (go_simp; rfl))
              intro gx hg wr8 hbox hb
              replace HP0 := Aside0.mk (And.intro HP0.out.1 (Kd.C_below HP0.out.2 hb))
              replace HP1 := Aside0.mk (And.intro HP1.out.1 (Kd.C_below HP1.out.2 hb))
              have HX : Aside0 (Box w10 gx #[.int .i64 0, .int .i64 0] 28 _) := ⟨⟨by rw [hg]; exact hHeld.2.2.2.2.2.size, hbox⟩⟩
              clear hg hbox
              refine hK.out _ _ (CF.below hHeld hb) (fun hHeld => ?_)
              clear hK K hb
              refine norm_ (a' := ?_) ?_ ?_
              rotate_left
              · show Act.put _ (some 19) _ = _
                simp only [Act.put, List.setIfInBounds_toArray, List.set_cons_zero, List.set_cons_succ, i64_w, i32_w]
                rfl
              refine one_ (i := 4) (N := some 103) #[true, true, true, true, true, false, false, false, false, true, false, false] rfl rfl (one_of HT_.out (by kernel_rfl)) (by decide) (fun K hK => ?_)
              refine goes_ Try.func21 (by kernel_rfl) rfl #[.agg #[.int .i64 y, .int .i64 o]] (by rfl) rfl rfl (by (try simp only [List.map_toArray, List.map_cons, List.map_nil]); first | done | rfl | (simp only [List.length_drop, List.length_take]; rfl)) ?_
              refine (comfitlaw02_chance.calls y o y o _ HCH.out).mono ?_
              rintro e wr9 ⟨rfl, hb⟩
              refine ⟨_, rfl, ?_⟩
              replace HP0 := Aside0.mk (And.intro HP0.out.1 (Kd.C_below HP0.out.2 hb))
              replace HP1 := Aside0.mk (And.intro HP1.out.1 (Kd.C_below HP1.out.2 hb))
              replace HX := Aside0.mk (HX.out.below hb)
              refine hK.out _ _ (CF.below hHeld hb) (fun hHeld => ?_)
              clear hK K hb
              refine norm_ (a' := ?_) ?_ ?_
              rotate_left
              · show Act.put _ (some 103) _ = _
                simp only [Act.put, List.setIfInBounds_toArray, List.set_cons_zero, List.set_cons_succ, i64_w, i32_w]
                rfl
              refine one_ (i := 5) (N := some 104) #[true, true, true, true, true, true, false, false, false, true, false, false] rfl rfl (one_of HT_.out (by kernel_rfl)) (by decide) (fun K hK => ?_)
              refine goes_ Try.func22 (by kernel_rfl) rfl #[.agg #[.slice Ap P.length cp, .slice Aq Q.length cq], .agg #[.int .i64 y, .int .i64 o]] (by rfl) rfl rfl (by (try simp only [List.map_toArray, List.map_cons, List.map_nil]); first | done | rfl | (simp only [List.length_drop, List.length_take]; rfl)) ?_
              refine (lots_Looks.calls k Ap cp P Aq cq Q y o m1 m2 0 _ HP0.out.2 HP0.out.1 HP1.out.2 HP1.out.1 HLO.out).mono ?_
              rintro e wr10 ⟨rfl, hb⟩
              refine ⟨_, rfl, ?_⟩
              replace HP0 := Aside0.mk (And.intro HP0.out.1 (Kd.C_below HP0.out.2 hb))
              replace HP1 := Aside0.mk (And.intro HP1.out.1 (Kd.C_below HP1.out.2 hb))
              replace HX := Aside0.mk (HX.out.below hb)
              refine hK.out _ _ (CF.below hHeld hb) (fun hHeld => ?_)
              clear hK K hb
              refine norm_ (a' := ?_) ?_ ?_
              rotate_left
              · show Act.put _ (some 104) _ = _
                simp only [Act.put, List.setIfInBounds_toArray, List.set_cons_zero, List.set_cons_succ, i64_w, i32_w]
                rfl
              refine pure_ (i := 6) (N := some 98) (v := ?_) (a' := ?_) #[true, true, true, true, true, true, true, false, false, true, false, false] rfl rfl (any_of HT_.out (by kernel_rfl)) (fun _ _ _ h => h) (Or.inl ⟨by rfl, ?_⟩) ?_ ?_
              rotate_left
              · intro w'
                go_simp
                with_reducible rfl
              rotate_left
              · simp only [Act.put, List.setIfInBounds_toArray, List.set_cons_zero, List.set_cons_succ, i64_w, i32_w]
                rfl
              refine pure_ (i := 7) (N := some 105) (v := ?_) (a' := ?_) #[true, true, true, true, true, true, true, true, false, true, false, false] rfl rfl (any_of HT_.out (by kernel_rfl)) (fun _ _ _ h => h) (Or.inl ⟨by rfl, ?_⟩) ?_ ?_
              rotate_left
              · intro w'
                go_simp
                with_reducible rfl
              rotate_left
              · simp only [Act.put, List.setIfInBounds_toArray, List.set_cons_zero, List.set_cons_succ, i64_w, i32_w]
                rfl
              refine pure_ (i := 8) (N := some 106) (v := ?_) (a' := ?_) #[true, true, true, true, true, true, true, true, true, true, false, false] rfl rfl (any_of HT_.out (by kernel_rfl)) (fun _ _ _ h => h) (Or.inl ⟨by rfl, ?_⟩) ?_ ?_
              rotate_left
              · intro w'
                go_simp
                with_reducible rfl
              rotate_left
              · simp only [Act.put, List.setIfInBounds_toArray, List.set_cons_zero, List.set_cons_succ, i64_w, i32_w]
                rfl
              exact norm_ (by simp only [putAll, Act.put, List.setIfInBounds_toArray, List.set_cons_zero, List.set_cons_succ]) (hCont (.agg #[.slice Ap P.length cp, .slice Aq Q.length cq], gx) _ ⟨hHeld, HX.out⟩)
          · skip
            refine box_step ?hg (N := 19) ?hd (cs := #[.int .i64 0, .int .i64 0]) (t := 28) ?hr ?_; (case hd => rfl); (case hg => rfl); (case hr => first | (go_simp; done) | (go_simp; rfl))
            intro gx hg wr11 hbox hb
            have HX : Aside0 (Box w10 gx #[.int .i64 0, .int .i64 0] 28 _) := ⟨⟨by rw [hg]; exact hHeld.2.2.2.2.2.size, hbox⟩⟩
            clear hg hbox
            refine hK.out _ _ (CF.below hHeld hb) (fun hHeld => ?_)
            clear hK K hb
            refine norm_ (a' := ?_) ?_ ?_
            rotate_left
            · show Act.put _ (some 19) _ = _
              simp only [Act.put, List.setIfInBounds_toArray, List.set_cons_zero, List.set_cons_succ, i64_w, i32_w]
              rfl
            refine one_ (i := 2) (N := some 101) #[true, true, true, true, false, false, false, false, false, true, false, false] rfl rfl (one_of HT_.out (by kernel_rfl)) (by decide) (fun K hK => ?_)
            refine goes_ Try.func20 (by kernel_rfl) rfl #[.agg #[.slice AT T.length cT, .slice AL L.length cL]] (by rfl) rfl rfl (by (try simp only [List.map_toArray, List.map_cons, List.map_nil]); first | done | rfl | (simp only [List.length_drop, List.length_take]; rfl)) ?_
            refine (comfitlaw02_Of.calls AT cT T AL cL L P Q _ (Kd.C_below HTR.out.2 hHeld.2.2.2.2.2) HTR.out.1 (Kd.C_below HLR.out.2 hHeld.2.2.2.2.2) HLR.out.1 HOF.out).mono ?_
            rintro e wr12 ⟨v1, v2, rfl, ho0, ho1, hb⟩
            refine ⟨_, rfl, ?_⟩
            replace HX := Aside0.mk (HX.out.below hb)
            obtain ⟨Ap, cp, rfl⟩ := Kd.R_slice ho0
            obtain ⟨Aq, cq, rfl⟩ := Kd.R_slice ho1
            have HP0 := Aside0.mk (Kd.R_reads' ho0).2
            have HP1 := Aside0.mk (Kd.R_reads' ho1).2
            clear ho0 ho1
            refine hK.out _ _ (CF.below hHeld hb) (fun hHeld => ?_)
            clear hK K hb
            refine norm_ (a' := ?_) ?_ ?_
            rotate_left
            · show Act.put _ (some 101) _ = _
              simp only [Act.put, List.setIfInBounds_toArray, List.set_cons_zero, List.set_cons_succ, i64_w, i32_w]
              rfl
            refine one_ (i := 4) (N := some 103) #[true, true, true, true, true, false, false, false, false, true, false, false] rfl rfl (one_of HT_.out (by kernel_rfl)) (by decide) (fun K hK => ?_)
            refine goes_ Try.func21 (by kernel_rfl) rfl #[.agg #[.int .i64 y, .int .i64 o]] (by rfl) rfl rfl (by (try simp only [List.map_toArray, List.map_cons, List.map_nil]); first | done | rfl | (simp only [List.length_drop, List.length_take]; rfl)) ?_
            refine (comfitlaw02_chance.calls y o y o _ HCH.out).mono ?_
            rintro e wr13 ⟨rfl, hb⟩
            refine ⟨_, rfl, ?_⟩
            replace HP0 := Aside0.mk (And.intro HP0.out.1 (Kd.C_below HP0.out.2 hb))
            replace HP1 := Aside0.mk (And.intro HP1.out.1 (Kd.C_below HP1.out.2 hb))
            replace HX := Aside0.mk (HX.out.below hb)
            refine hK.out _ _ (CF.below hHeld hb) (fun hHeld => ?_)
            clear hK K hb
            refine norm_ (a' := ?_) ?_ ?_
            rotate_left
            · show Act.put _ (some 103) _ = _
              simp only [Act.put, List.setIfInBounds_toArray, List.set_cons_zero, List.set_cons_succ, i64_w, i32_w]
              rfl
            refine one_ (i := 5) (N := some 104) #[true, true, true, true, true, true, false, false, false, true, false, false] rfl rfl (one_of HT_.out (by kernel_rfl)) (by decide) (fun K hK => ?_)
            refine goes_ Try.func22 (by kernel_rfl) rfl #[.agg #[.slice Ap P.length cp, .slice Aq Q.length cq], .agg #[.int .i64 y, .int .i64 o]] (by rfl) rfl rfl (by (try simp only [List.map_toArray, List.map_cons, List.map_nil]); first | done | rfl | (simp only [List.length_drop, List.length_take]; rfl)) ?_
            refine (lots_Looks.calls k Ap cp P Aq cq Q y o m1 m2 0 _ HP0.out.2 HP0.out.1 HP1.out.2 HP1.out.1 HLO.out).mono ?_
            rintro e wr14 ⟨rfl, hb⟩
            refine ⟨_, rfl, ?_⟩
            replace HP0 := Aside0.mk (And.intro HP0.out.1 (Kd.C_below HP0.out.2 hb))
            replace HP1 := Aside0.mk (And.intro HP1.out.1 (Kd.C_below HP1.out.2 hb))
            replace HX := Aside0.mk (HX.out.below hb)
            refine hK.out _ _ (CF.below hHeld hb) (fun hHeld => ?_)
            clear hK K hb
            refine norm_ (a' := ?_) ?_ ?_
            rotate_left
            · show Act.put _ (some 104) _ = _
              simp only [Act.put, List.setIfInBounds_toArray, List.set_cons_zero, List.set_cons_succ, i64_w, i32_w]
              rfl
            refine pure_ (i := 6) (N := some 98) (v := ?_) (a' := ?_) #[true, true, true, true, true, true, true, false, false, true, false, false] rfl rfl (any_of HT_.out (by kernel_rfl)) (fun _ _ _ h => h) (Or.inl ⟨by rfl, ?_⟩) ?_ ?_
            rotate_left
            · intro w'
              go_simp
              with_reducible rfl
            rotate_left
            · simp only [Act.put, List.setIfInBounds_toArray, List.set_cons_zero, List.set_cons_succ, i64_w, i32_w]
              rfl
            refine pure_ (i := 7) (N := some 105) (v := ?_) (a' := ?_) #[true, true, true, true, true, true, true, true, false, true, false, false] rfl rfl (any_of HT_.out (by kernel_rfl)) (fun _ _ _ h => h) (Or.inl ⟨by rfl, ?_⟩) ?_ ?_
            rotate_left
            · intro w'
              go_simp
              with_reducible rfl
            rotate_left
            · simp only [Act.put, List.setIfInBounds_toArray, List.set_cons_zero, List.set_cons_succ, i64_w, i32_w]
              rfl
            refine pure_ (i := 8) (N := some 106) (v := ?_) (a' := ?_) #[true, true, true, true, true, true, true, true, true, true, false, false] rfl rfl (any_of HT_.out (by kernel_rfl)) (fun _ _ _ h => h) (Or.inl ⟨by rfl, ?_⟩) ?_ ?_
            rotate_left
            · intro w'
              go_simp
              with_reducible rfl
            rotate_left
            · simp only [Act.put, List.setIfInBounds_toArray, List.set_cons_zero, List.set_cons_succ, i64_w, i32_w]
              rfl
            exact norm_ (by simp only [putAll, Act.put, List.setIfInBounds_toArray, List.set_cons_zero, List.set_cons_succ]) (hCont (.agg #[.slice Ap P.length cp, .slice Aq Q.length cq], gx) _ ⟨hHeld, HX.out⟩)
        · skip
          refine box_step ?hg (N := 19) ?hd (cs := #[.int .i64 0, .int .i64 0]) (t := 28) ?hr ?_; (case hd => rfl); (case hg => rfl); (case hr => first | (go_simp; done) | (go_simp; rfl))
          intro gx hg wr15 hbox hb
          have HX : Aside0 (Box w10 gx #[.int .i64 0, .int .i64 0] 28 _) := ⟨⟨by rw [hg]; exact hHeld.2.2.2.2.2.size, hbox⟩⟩
          clear hg hbox
          refine hK.out _ _ (CF.below hHeld hb) (fun hHeld => ?_)
          clear hK K hb
          refine norm_ (a' := ?_) ?_ ?_
          rotate_left
          · show Act.put _ (some 19) _ = _
            simp only [Act.put, List.setIfInBounds_toArray, List.set_cons_zero, List.set_cons_succ, i64_w, i32_w]
            rfl
          refine one_ (i := 1) (N := some 100) #[true, true, false, true, false, false, false, false, false, true, false, false] rfl rfl (one_of HT_.out (by kernel_rfl)) (by decide) (fun K hK => ?_)
          refine goes_ Try.func38 (by kernel_rfl) rfl #[.agg #[.slice AT T.length cT, .slice AL L.length cL]] (by rfl) rfl rfl (by (try simp only [List.map_toArray, List.map_cons, List.map_nil]); first | done | rfl | (simp only [List.length_drop, List.length_take]; rfl)) ?_
          refine (own_calls AT AL T.length cT L.length cL _).mono ?_
          rintro e wr16 ⟨rfl, hb⟩
          refine ⟨_, rfl, ?_⟩
          replace HX := Aside0.mk (HX.out.below hb)
          refine hK.out _ _ (CF.below hHeld hb) (fun hHeld => ?_)
          clear hK K hb
          refine norm_ (a' := ?_) ?_ ?_
          rotate_left
          · show Act.put _ (some 100) _ = _
            simp only [Act.put, List.setIfInBounds_toArray, List.set_cons_zero, List.set_cons_succ, i64_w, i32_w]
            rfl
          refine one_ (i := 2) (N := some 101) #[true, true, true, true, false, false, false, false, false, true, false, false] rfl rfl (one_of HT_.out (by kernel_rfl)) (by decide) (fun K hK => ?_)
          refine goes_ Try.func20 (by kernel_rfl) rfl #[.agg #[.slice AT T.length cT, .slice AL L.length cL]] (by rfl) rfl rfl (by (try simp only [List.map_toArray, List.map_cons, List.map_nil]); first | done | rfl | (simp only [List.length_drop, List.length_take]; rfl)) ?_
          refine (comfitlaw02_Of.calls AT cT T AL cL L P Q _ (Kd.C_below HTR.out.2 hHeld.2.2.2.2.2) HTR.out.1 (Kd.C_below HLR.out.2 hHeld.2.2.2.2.2) HLR.out.1 HOF.out).mono ?_
          rintro e wr17 ⟨v1, v2, rfl, ho0, ho1, hb⟩
          refine ⟨_, rfl, ?_⟩
          replace HX := Aside0.mk (HX.out.below hb)
          obtain ⟨Ap, cp, rfl⟩ := Kd.R_slice ho0
          obtain ⟨Aq, cq, rfl⟩ := Kd.R_slice ho1
          have HP0 := Aside0.mk (Kd.R_reads' ho0).2
          have HP1 := Aside0.mk (Kd.R_reads' ho1).2
          clear ho0 ho1
          refine hK.out _ _ (CF.below hHeld hb) (fun hHeld => ?_)
          clear hK K hb
          refine norm_ (a' := ?_) ?_ ?_
          rotate_left
          · show Act.put _ (some 101) _ = _
            simp only [Act.put, List.setIfInBounds_toArray, List.set_cons_zero, List.set_cons_succ, i64_w, i32_w]
            rfl
          refine one_ (i := 4) (N := some 103) #[true, true, true, true, true, false, false, false, false, true, false, false] rfl rfl (one_of HT_.out (by kernel_rfl)) (by decide) (fun K hK => ?_)
          refine goes_ Try.func21 (by kernel_rfl) rfl #[.agg #[.int .i64 y, .int .i64 o]] (by rfl) rfl rfl (by (try simp only [List.map_toArray, List.map_cons, List.map_nil]); first | done | rfl | (simp only [List.length_drop, List.length_take]; rfl)) ?_
          refine (comfitlaw02_chance.calls y o y o _ HCH.out).mono ?_
          rintro e wr18 ⟨rfl, hb⟩
          refine ⟨_, rfl, ?_⟩
          replace HP0 := Aside0.mk (And.intro HP0.out.1 (Kd.C_below HP0.out.2 hb))
          replace HP1 := Aside0.mk (And.intro HP1.out.1 (Kd.C_below HP1.out.2 hb))
          replace HX := Aside0.mk (HX.out.below hb)
          refine hK.out _ _ (CF.below hHeld hb) (fun hHeld => ?_)
          clear hK K hb
          refine norm_ (a' := ?_) ?_ ?_
          rotate_left
          · show Act.put _ (some 103) _ = _
            simp only [Act.put, List.setIfInBounds_toArray, List.set_cons_zero, List.set_cons_succ, i64_w, i32_w]
            rfl
          refine one_ (i := 5) (N := some 104) #[true, true, true, true, true, true, false, false, false, true, false, false] rfl rfl (one_of HT_.out (by kernel_rfl)) (by decide) (fun K hK => ?_)
          refine goes_ Try.func22 (by kernel_rfl) rfl #[.agg #[.slice Ap P.length cp, .slice Aq Q.length cq], .agg #[.int .i64 y, .int .i64 o]] (by rfl) rfl rfl (by (try simp only [List.map_toArray, List.map_cons, List.map_nil]); first | done | rfl | (simp only [List.length_drop, List.length_take]; rfl)) ?_
          refine (lots_Looks.calls k Ap cp P Aq cq Q y o m1 m2 0 _ HP0.out.2 HP0.out.1 HP1.out.2 HP1.out.1 HLO.out).mono ?_
          rintro e wr19 ⟨rfl, hb⟩
          refine ⟨_, rfl, ?_⟩
          replace HP0 := Aside0.mk (And.intro HP0.out.1 (Kd.C_below HP0.out.2 hb))
          replace HP1 := Aside0.mk (And.intro HP1.out.1 (Kd.C_below HP1.out.2 hb))
          replace HX := Aside0.mk (HX.out.below hb)
          refine hK.out _ _ (CF.below hHeld hb) (fun hHeld => ?_)
          clear hK K hb
          refine norm_ (a' := ?_) ?_ ?_
          rotate_left
          · show Act.put _ (some 104) _ = _
            simp only [Act.put, List.setIfInBounds_toArray, List.set_cons_zero, List.set_cons_succ, i64_w, i32_w]
            rfl
          refine pure_ (i := 6) (N := some 98) (v := ?_) (a' := ?_) #[true, true, true, true, true, true, true, false, false, true, false, false] rfl rfl (any_of HT_.out (by kernel_rfl)) (fun _ _ _ h => h) (Or.inl ⟨by rfl, ?_⟩) ?_ ?_
          rotate_left
          · intro w'
            go_simp
            with_reducible rfl
          rotate_left
          · simp only [Act.put, List.setIfInBounds_toArray, List.set_cons_zero, List.set_cons_succ, i64_w, i32_w]
            rfl
          refine pure_ (i := 7) (N := some 105) (v := ?_) (a' := ?_) #[true, true, true, true, true, true, true, true, false, true, false, false] rfl rfl (any_of HT_.out (by kernel_rfl)) (fun _ _ _ h => h) (Or.inl ⟨by rfl, ?_⟩) ?_ ?_
          rotate_left
          · intro w'
            go_simp
            with_reducible rfl
          rotate_left
          · simp only [Act.put, List.setIfInBounds_toArray, List.set_cons_zero, List.set_cons_succ, i64_w, i32_w]
            rfl
          refine pure_ (i := 8) (N := some 106) (v := ?_) (a' := ?_) #[true, true, true, true, true, true, true, true, true, true, false, false] rfl rfl (any_of HT_.out (by kernel_rfl)) (fun _ _ _ h => h) (Or.inl ⟨by rfl, ?_⟩) ?_ ?_
          rotate_left
          · intro w'
            go_simp
            with_reducible rfl
          rotate_left
          · simp only [Act.put, List.setIfInBounds_toArray, List.set_cons_zero, List.set_cons_succ, i64_w, i32_w]
            rfl
          exact norm_ (by simp only [putAll, Act.put, List.setIfInBounds_toArray, List.set_cons_zero, List.set_cons_succ]) (hCont (.agg #[.slice Ap P.length cp, .slice Aq Q.length cq], gx) _ ⟨hHeld, HX.out⟩)
      rintro ⟨va, gx_BM⟩ wt ⟨hHeld, hbx⟩
      have HX := Aside0.mk hbx
      clear hbx
      refine norm_ (a' := ?_) ?_ ?_
      rotate_left
      · simp only [putAll, Act.put, List.setIfInBounds_toArray, List.set_cons_zero, List.set_cons_succ]
        rfl
      refine one_ (i := 10) (N := none) #[true, true, true, true, true, true, true, true, true, true, true, false] rfl rfl (one_of HT_.out (by kernel_rfl)) (by decide) (fun K hK => ?_)
      have hs0_ := HX.out.cell 0 rfl
      have hs1_ := HX.out.cell 1 rfl
      have fs0_ := HX.out.frozen 0
      have fs1_ := HX.out.frozen 1
      refine skip_ (w1 := ?_) (by rfl) rfl ?_ ?_
      rotate_left
      · go_simp
        rfl
      have HL := Aside0.mk (below_set' (below_set' hHeld.2.2.2.2.2 (p := ⟨gx_BM, 0, none⟩) HX.out.1 (.int .i64 m1)) (p := ⟨gx_BM, 1, none⟩) HX.out.1 (.int .i64 m2))
      refine hK.out _ _ (cf_of B14.out B6.out HB.out HL.out) (fun hHeld => ?_)
      clear hK K hHeld
      have BM : Aside0 (Box w10 gx_BM #[.int .i64 m1, .int .i64 m2] 28 _) := ⟨(HX.out.put 0 (.int .i64 m1)).put 1 (.int .i64 m2)⟩
      clear hs0_ hs1_ fs0_ fs1_ HX
      refine pure_ (i := 11) (N := some 20) (v := ?_) (a' := ?_) #[true, true, true, true, true, true, true, true, true, true, true, true] rfl rfl (any_of HT_.out (by kernel_rfl)) (fun _ _ _ h => h) (Or.inl ⟨by rfl, ?_⟩) ?_ ?_
      rotate_left
      · intro w'
        go_simp
        with_reducible rfl
      rotate_left
      · simp only [Act.put, List.setIfInBounds_toArray, List.set_cons_zero, List.set_cons_succ, i64_w, i32_w]
        rfl
      refine done_ (done_of HT_.out (by kernel_rfl)) ?_
      clear HT_ HW_
      generalize ((wt.setCell _ _).setCell _ _) = w12 at BM HL ⊢
      replace B6 := Aside0.mk (B6.out.below HL.out)
      replace B14 := Aside0.mk (B14.out.below HL.out)
      replace BA := Aside0.mk (BA.out.below HL.out)
      replace BB := Aside0.mk (BB.out.below HL.out)
      replace HW := Aside0.mk (below_step HW.out HL.out)
      replace HB := Aside0.mk (below_step HB.out HL.out)
      clear HL HLO HTR HLR HOF
      have fBA0_ := BA.out.cell 0 rfl
      have fBA1_ := BA.out.cell 1 rfl
      have fBB0_ := BB.out.cell 0 rfl
      have fBB1_ := BB.out.cell 1 rfl
      have fBM0_ := BM.out.cell 0 rfl
      have fBM1_ := BM.out.cell 1 rfl
      go_wp2_with fail
      refine (comfitlaw02_unit.calls a1 a2 true _ HUA.out).mono ?_
      rintro e w13 ⟨rfl, hb⟩
      clear fBA0_ fBA1_ fBB0_ fBB1_ fBM0_ fBM1_
      replace B6 := Aside0.mk (B6.out.below hb)
      replace BA := Aside0.mk (BA.out.below hb)
      replace BB := Aside0.mk (BB.out.below hb)
      replace BM := Aside0.mk (BM.out.below hb)
      replace HB := Aside0.mk (below_step HB.out hb)
      replace HW := Aside0.mk (below_step HW.out hb)
      clear hb
      have fBA0_ := BA.out.cell 0 rfl
      have fBA1_ := BA.out.cell 1 rfl
      have fBB0_ := BB.out.cell 0 rfl
      have fBB1_ := BB.out.cell 1 rfl
      have fBM0_ := BM.out.cell 0 rfl
      have fBM1_ := BM.out.cell 1 rfl
      go_wp2_with fail
      refine (comfitlaw02_unit.calls b1 b2 true _ HUB.out).mono ?_
      rintro e w14 ⟨rfl, hb⟩
      clear fBA0_ fBA1_ fBB0_ fBB1_ fBM0_ fBM1_
      replace B6 := Aside0.mk (B6.out.below hb)
      replace BA := Aside0.mk (BA.out.below hb)
      replace BB := Aside0.mk (BB.out.below hb)
      replace BM := Aside0.mk (BM.out.below hb)
      replace HB := Aside0.mk (below_step HB.out hb)
      replace HW := Aside0.mk (below_step HW.out hb)
      clear hb
      have fBA0_ := BA.out.cell 0 rfl
      have fBA1_ := BA.out.cell 1 rfl
      have fBB0_ := BB.out.cell 0 rfl
      have fBB1_ := BB.out.cell 1 rfl
      have fBM0_ := BM.out.cell 0 rfl
      have fBM1_ := BM.out.cell 1 rfl
      have hk0 : decide (m2 < 1) = false := decide_eq_false (by have := HM2.out; omega)
      have hk1 : decide (m1 < m2) = false := decide_eq_false (by have := HM12.out; omega)
      have hk2 : decide (wrap64 (n * m2) < m1) = false := decide_eq_false (by have := HMN.out; omega)
      have HWR : Aside0 (wrap64 ((j : Int) + 1) = ((j + 1 : Nat) : Int)) := ⟨by unfold wrap64; omega⟩
      generalize hpw : powI o n.toNat = pw at HMA HMB HCMP
      by_cases hjz : j = 0
      · as_aux_lemma =>
        obtain ⟨hm1e, hm2e⟩ := HFST.out hjz
        have hm1f := hm1e.symm
        subst hm1f
        clear hm1e
        subst hm2e
        have hk3 : decide (wrap64 n < n) = false := decide_eq_false (by have := HMN.out; rw [Int.mul_one] at this; omega)
        have hk3p : (wrap64 n < n) = False := eq_false (by have := HMN.out; rw [Int.mul_one] at this; omega)
        have hj00 : ((j : Int) == 0) = true := beq_iff_eq.mpr (by omega)
        go_wp2_with fail
        clear hk0 hk1 hk2 hj00 hk3 hk3p
        clear fBA0_ fBA1_ fBB0_ fBB1_ fBM0_ fBM1_
        go_loopw [21, 159] (fun v21 v159 W => ∃ i : Nat, v159 = .int .i64 (i : Int) ∧ v21 = .int .i64 (powI o i) ∧ (i : Int) ≤ n ∧ W = w14) (fun _ v159 _ => n.toNat - (intOf v159).toNat)
        case atStart => exact ⟨0, rfl, rfl, by have := HN0.out; omega, rfl⟩
        case round =>
          obtain ⟨i, rfl, rfl, hi, hWW⟩ := hrel
          have hWW' := hWW.symm
          clear hWW
          subst hWW'
          by_cases hil : (i : Int) < n
          · as_aux_lemma =>
            have hib : decide ((i : Int) < n) = true := decide_eq_true hil
            have hip := eq_true hil
            have HWR2 : Aside0 (wrap64 ((i : Int) + 1) = ((i + 1 : Nat) : Int)) := ⟨by have := HN12.out; unfold wrap64; omega⟩
            have hpo := powI_succ o i
            have fB60_ := B6.out.cell 0 rfl
            have fB61_ := B6.out.cell 1 rfl
            go_wp2_with fail
            exact ⟨⟨i + 1, by rw [HWR2.out], rfl, by omega, by first | trivial | rfl⟩, meas_down3 n i _ HWR2.out hil⟩
          · as_aux_lemma =>
            have hib : decide ((i : Int) < n) = false := decide_eq_false hil
            have hip := eq_false hil
            have hin : i = n.toNat := by omega
            subst hin
            rw [hpw] at *
            have ha2 : ¬ a2 = 0 := by have := HA2.out; omega
            have hb2 : ¬ b2 = 0 := by have := HB2.out; omega
            have ha2b : (a2 == 0) = false := beq_eq_false_iff_ne.mpr ha2
            have hb2b : (b2 == 0) = false := beq_eq_false_iff_ne.mpr hb2
            have ha2c : (a2 != 0) = true := bne_iff_ne.mpr ha2
            have hb2c : (b2 != 0) = true := bne_iff_ne.mpr hb2
            have hm0 : (Int.tmod pw a2 != 0) = false := bne_eq_false_iff_eq.mpr HMA.out
            have hm1 : (Int.tmod pw b2 != 0) = false := bne_eq_false_iff_eq.mpr HMB.out
            have hd0 : decide (wrap64 (b1 * wrap64 (Int.tdiv pw b2)) < wrap64 (a1 * wrap64 (Int.tdiv pw a2))) = false := decide_eq_false (by have := HCMP.out; omega)
            go_wp2_with fail
            refine start_ (n := 29) (S := CF gx_BA (.int .i64 a1) (.int .i64 a2) gx_BB (.int .i64 b1) (.int .i64 b2) w w14) (ds := []) #[false, false, false, false, false, false, false, false, false, false, false, false, false, false, false, false, false, false, false, false, false, false, false, false, false, false, false, false, false] (by kernel_rfl) rfl rfl (cf_of BA.out BB.out HB.out (below_drew (Below.refl _ _))) (fun hHeld => ?_)
            refine with_tabW fewT.tab19 fewT.bits19 (fun HT_ HW_ => ?_)
            generalize (World.drew _) = w15 at hHeld ⊢
            refine pure_ (i := 0) (N := some 166) (v := ?_) (a' := ?_) #[true, false, false, false, false, false, false, false, false, false, false, false, false, false, false, false, false, false, false, false, false, false, false, false, false, false, false, false, false] rfl rfl (any_of HT_.out (by kernel_rfl)) (fun _ _ _ h => h) (Or.inl ⟨by rfl, ?_⟩) ?_ ?_
            rotate_left
            · intro w'
              go_simp
              with_reducible rfl
            rotate_left
            · simp only [Act.put, List.setIfInBounds_toArray, List.set_cons_zero, List.set_cons_succ, i64_w, i32_w]
              rfl
            refine pure_ (i := 1) (N := some 167) (v := ?_) (a' := ?_) #[true, true, false, false, false, false, false, false, false, false, false, false, false, false, false, false, false, false, false, false, false, false, false, false, false, false, false, false, false] rfl rfl (any_of HT_.out (by kernel_rfl)) (fun _ _ _ h => h) (Or.inl ⟨by rfl, ?_⟩) ?_ ?_
            rotate_left
            · intro w'
              go_simp
              with_reducible rfl
            rotate_left
            · simp only [Act.put, List.setIfInBounds_toArray, List.set_cons_zero, List.set_cons_succ, i64_w, i32_w]
              rfl
            refine take_ (i := 2) (N := some 168) (v := ?_) (a' := ?_) #[true, true, true, false, false, false, false, false, false, false, false, false, false, false, false, false, false, false, false, false, false, false, false, false, false, false, false, false, false] rfl rfl (take_ofW HT_.out HW_.out (by kernel_rfl)) (fun _ _ _ h => h) (Or.inl ⟨by rfl, ?_⟩) hHeld ?_ ?_
            rotate_left
            · rintro w' ⟨s0, s1, s2, s3, s4, s5⟩
              go_simp
              with_reducible rfl
            rotate_left
            · simp only [Act.put, List.setIfInBounds_toArray, List.set_cons_zero, List.set_cons_succ, i64_w, i32_w]
              rfl
            refine pure_ (i := 3) (N := some 169) (v := ?_) (a' := ?_) #[true, true, true, true, false, false, false, false, false, false, false, false, false, false, false, false, false, false, false, false, false, false, false, false, false, false, false, false, false] rfl rfl (any_of HT_.out (by kernel_rfl)) (fun _ _ _ h => h) (Or.inl ⟨by rfl, ?_⟩) ?_ ?_
            rotate_left
            · intro w'
              go_simp
              with_reducible rfl
            rotate_left
            · simp only [Act.put, List.setIfInBounds_toArray, List.set_cons_zero, List.set_cons_succ, i64_w, i32_w]
              rfl
            refine pure_ (i := 4) (N := some 170) (v := ?_) (a' := ?_) #[true, true, true, true, true, false, false, false, false, false, false, false, false, false, false, false, false, false, false, false, false, false, false, false, false, false, false, false, false] rfl rfl (any_of HT_.out (by kernel_rfl)) (fun _ _ _ h => h) (Or.inl ⟨by rfl, ?_⟩) ?_ ?_
            rotate_left
            · intro w'
              go_simp
              with_reducible rfl
            rotate_left
            · simp only [Act.put, List.setIfInBounds_toArray, List.set_cons_zero, List.set_cons_succ, i64_w, i32_w]
              rfl
            refine pure_ (i := 5) (N := some 171) (v := ?_) (a' := ?_) #[true, true, true, true, true, true, false, false, false, false, false, false, false, false, false, false, false, false, false, false, false, false, false, false, false, false, false, false, false] rfl rfl (any_of HT_.out (by kernel_rfl)) (fun _ _ _ h => h) (Or.inl ⟨by rfl, ?_⟩) ?_ ?_
            rotate_left
            · intro w'
              go_simp
              with_reducible rfl
            rotate_left
            · simp only [Act.put, List.setIfInBounds_toArray, List.set_cons_zero, List.set_cons_succ, i64_w, i32_w]
              rfl
            refine pure_ (i := 6) (N := some 172) (v := ?_) (a' := ?_) #[true, true, true, true, true, true, true, false, false, false, false, false, false, false, false, false, false, false, false, false, false, false, false, false, false, false, false, false, false] rfl rfl (any_of HT_.out (by kernel_rfl)) (fun _ _ _ h => h) (Or.inl ⟨by rfl, ?_⟩) ?_ ?_
            rotate_left
            · intro w'
              go_simp
              with_reducible rfl
            rotate_left
            · simp only [Act.put, List.setIfInBounds_toArray, List.set_cons_zero, List.set_cons_succ, i64_w, i32_w]
              rfl
            refine pure_ (i := 7) (N := some 173) (v := ?_) (a' := ?_) #[true, true, true, true, true, true, true, true, false, false, false, false, false, false, false, false, false, false, false, false, false, false, false, false, false, false, false, false, false] rfl rfl (any_of HT_.out (by kernel_rfl)) (fun _ _ _ h => h) (Or.inl ⟨by rfl, ?_⟩) ?_ ?_
            rotate_left
            · intro w'
              go_simp
              with_reducible rfl
            rotate_left
            · simp only [Act.put, List.setIfInBounds_toArray, List.set_cons_zero, List.set_cons_succ, i64_w, i32_w]
              rfl
            refine take_ (i := 8) (N := some 174) (v := ?_) (a' := ?_) #[true, true, true, true, true, true, true, true, true, false, false, false, false, false, false, false, false, false, false, false, false, false, false, false, false, false, false, false, false] rfl rfl (take_ofW HT_.out HW_.out (by kernel_rfl)) (fun _ _ _ h => h) (Or.inl ⟨by rfl, ?_⟩) hHeld ?_ ?_
            rotate_left
            · rintro w' ⟨s0, s1, s2, s3, s4, s5⟩
              go_simp
              with_reducible rfl
            rotate_left
            · simp only [Act.put, List.setIfInBounds_toArray, List.set_cons_zero, List.set_cons_succ, i64_w, i32_w]
              rfl
            refine pure_ (i := 9) (N := some 175) (v := ?_) (a' := ?_) #[true, true, true, true, true, true, true, true, true, true, false, false, false, false, false, false, false, false, false, false, false, false, false, false, false, false, false, false, false] rfl rfl (any_of HT_.out (by kernel_rfl)) (fun _ _ _ h => h) (Or.inl ⟨by rfl, ?_⟩) ?_ ?_
            rotate_left
            · intro w'
              go_simp
              with_reducible rfl
            rotate_left
            · simp only [Act.put, List.setIfInBounds_toArray, List.set_cons_zero, List.set_cons_succ, i64_w, i32_w]
              rfl
            refine pure_ (i := 10) (N := some 176) (v := ?_) (a' := ?_) #[true, true, true, true, true, true, true, true, true, true, true, false, false, false, false, false, false, false, false, false, false, false, false, false, false, false, false, false, false] rfl rfl (any_of HT_.out (by kernel_rfl)) (fun _ _ _ h => h) (Or.inl ⟨by rfl, ?_⟩) ?_ ?_
            rotate_left
            · intro w'
              go_simp
              with_reducible rfl
            rotate_left
            · simp only [Act.put, List.setIfInBounds_toArray, List.set_cons_zero, List.set_cons_succ, i64_w, i32_w]
              rfl
            refine pure_ (i := 11) (N := some 177) (v := ?_) (a' := ?_) #[true, true, true, true, true, true, true, true, true, true, true, true, false, false, false, false, false, false, false, false, false, false, false, false, false, false, false, false, false] rfl rfl (any_of HT_.out (by kernel_rfl)) (fun _ _ _ h => h) (Or.inl ⟨by rfl, ?_⟩) ?_ ?_
            rotate_left
            · intro w'
              go_simp
              with_reducible rfl
            rotate_left
            · simp only [Act.put, List.setIfInBounds_toArray, List.set_cons_zero, List.set_cons_succ, i64_w, i32_w]
              rfl
            refine pure_ (i := 12) (N := some 178) (v := ?_) (a' := ?_) #[true, true, true, true, true, true, true, true, true, true, true, true, true, false, false, false, false, false, false, false, false, false, false, false, false, false, false, false, false] rfl rfl (any_of HT_.out (by kernel_rfl)) (fun _ _ _ h => h) (Or.inl ⟨by rfl, ?_⟩) ?_ ?_
            rotate_left
            · intro w'
              go_simp
              with_reducible rfl
            rotate_left
            · simp only [Act.put, List.setIfInBounds_toArray, List.set_cons_zero, List.set_cons_succ, i64_w, i32_w]
              rfl
            refine pure_ (i := 13) (N := some 179) (v := ?_) (a' := ?_) #[true, true, true, true, true, true, true, true, true, true, true, true, true, true, false, false, false, false, false, false, false, false, false, false, false, false, false, false, false] rfl rfl (any_of HT_.out (by kernel_rfl)) (fun _ _ _ h => h) (Or.inl ⟨by rfl, ?_⟩) ?_ ?_
            rotate_left
            · intro w'
              go_simp
              with_reducible rfl
            rotate_left
            · simp only [Act.put, List.setIfInBounds_toArray, List.set_cons_zero, List.set_cons_succ, i64_w, i32_w]
              rfl
            refine take_ (i := 14) (N := some 180) (v := ?_) (a' := ?_) #[true, true, true, true, true, true, true, true, true, true, true, true, true, true, true, false, false, false, false, false, false, false, false, false, false, false, false, false, false] rfl rfl (take_ofW HT_.out HW_.out (by kernel_rfl)) (fun _ _ _ h => h) (Or.inl ⟨by rfl, ?_⟩) hHeld ?_ ?_
            rotate_left
            · rintro w' ⟨s0, s1, s2, s3, s4, s5⟩
              go_simp
              with_reducible rfl
            rotate_left
            · simp only [Act.put, List.setIfInBounds_toArray, List.set_cons_zero, List.set_cons_succ, i64_w, i32_w]
              rfl
            refine pure_ (i := 15) (N := some 181) (v := ?_) (a' := ?_) #[true, true, true, true, true, true, true, true, true, true, true, true, true, true, true, true, false, false, false, false, false, false, false, false, false, false, false, false, false] rfl rfl (any_of HT_.out (by kernel_rfl)) (fun _ _ _ h => h) (Or.inl ⟨by rfl, ?_⟩) ?_ ?_
            rotate_left
            · intro w'
              go_simp
              with_reducible rfl
            rotate_left
            · simp only [Act.put, List.setIfInBounds_toArray, List.set_cons_zero, List.set_cons_succ, i64_w, i32_w]
              rfl
            refine pure_ (i := 16) (N := some 182) (v := ?_) (a' := ?_) #[true, true, true, true, true, true, true, true, true, true, true, true, true, true, true, true, true, false, false, false, false, false, false, false, false, false, false, false, false] rfl rfl (any_of HT_.out (by kernel_rfl)) (fun _ _ _ h => h) (Or.inl ⟨by rfl, ?_⟩) ?_ ?_
            rotate_left
            · intro w'
              go_simp
              with_reducible rfl
            rotate_left
            · simp only [Act.put, List.setIfInBounds_toArray, List.set_cons_zero, List.set_cons_succ, i64_w, i32_w]
              rfl
            refine take_ (i := 17) (N := some 183) (v := ?_) (a' := ?_) #[true, true, true, true, true, true, true, true, true, true, true, true, true, true, true, true, true, true, false, false, false, false, false, false, false, false, false, false, false] rfl rfl (take_ofW HT_.out HW_.out (by kernel_rfl)) (fun _ _ _ h => h) (Or.inl ⟨by rfl, ?_⟩) hHeld ?_ ?_
            rotate_left
            · rintro w' ⟨s0, s1, s2, s3, s4, s5⟩
              go_simp
              with_reducible rfl
            rotate_left
            · simp only [Act.put, List.setIfInBounds_toArray, List.set_cons_zero, List.set_cons_succ, i64_w, i32_w]
              rfl
            refine pure_ (i := 18) (N := some 184) (v := ?_) (a' := ?_) #[true, true, true, true, true, true, true, true, true, true, true, true, true, true, true, true, true, true, true, false, false, false, false, false, false, false, false, false, false] rfl rfl (any_of HT_.out (by kernel_rfl)) (fun _ _ _ h => h) (Or.inl ⟨by rfl, ?_⟩) ?_ ?_
            rotate_left
            · intro w'
              go_simp
              with_reducible rfl
            rotate_left
            · simp only [Act.put, List.setIfInBounds_toArray, List.set_cons_zero, List.set_cons_succ, i64_w, i32_w]
              rfl
            refine pure_ (i := 19) (N := some 185) (v := ?_) (a' := ?_) #[true, true, true, true, true, true, true, true, true, true, true, true, true, true, true, true, true, true, true, true, false, false, false, false, false, false, false, false, false] rfl rfl (any_of HT_.out (by kernel_rfl)) (fun _ _ _ h => h) (Or.inl ⟨by rfl, ?_⟩) ?_ ?_
            rotate_left
            · intro w'
              go_simp
              with_reducible rfl
            rotate_left
            · simp only [Act.put, List.setIfInBounds_toArray, List.set_cons_zero, List.set_cons_succ, i64_w, i32_w]
              rfl
            refine pure_ (i := 20) (N := some 186) (v := ?_) (a' := ?_) #[true, true, true, true, true, true, true, true, true, true, true, true, true, true, true, true, true, true, true, true, true, false, false, false, false, false, false, false, false] rfl rfl (any_of HT_.out (by kernel_rfl)) (fun _ _ _ h => h) (Or.inl ⟨by rfl, ?_⟩) ?_ ?_
            rotate_left
            · intro w'
              go_simp
              with_reducible rfl
            rotate_left
            · simp only [Act.put, List.setIfInBounds_toArray, List.set_cons_zero, List.set_cons_succ, i64_w, i32_w]
              rfl
            refine take_ (i := 21) (N := some 187) (v := ?_) (a' := ?_) #[true, true, true, true, true, true, true, true, true, true, true, true, true, true, true, true, true, true, true, true, true, true, false, false, false, false, false, false, false] rfl rfl (take_ofW HT_.out HW_.out (by kernel_rfl)) (fun _ _ _ h => h) (Or.inl ⟨by rfl, ?_⟩) hHeld ?_ ?_
            rotate_left
            · rintro w' ⟨s0, s1, s2, s3, s4, s5⟩
              go_simp
              with_reducible rfl
            rotate_left
            · simp only [Act.put, List.setIfInBounds_toArray, List.set_cons_zero, List.set_cons_succ, i64_w, i32_w]
              rfl
            refine pure_ (i := 22) (N := some 188) (v := ?_) (a' := ?_) #[true, true, true, true, true, true, true, true, true, true, true, true, true, true, true, true, true, true, true, true, true, true, true, false, false, false, false, false, false] rfl rfl (any_of HT_.out (by kernel_rfl)) (fun _ _ _ h => h) (Or.inl ⟨by rfl, ?_⟩) ?_ ?_
            rotate_left
            · intro w'
              go_simp
              with_reducible rfl
            rotate_left
            · simp only [Act.put, List.setIfInBounds_toArray, List.set_cons_zero, List.set_cons_succ, i64_w, i32_w]
              rfl
            refine pure_ (i := 23) (N := some 189) (v := ?_) (a' := ?_) #[true, true, true, true, true, true, true, true, true, true, true, true, true, true, true, true, true, true, true, true, true, true, true, true, false, false, false, false, false] rfl rfl (any_of HT_.out (by kernel_rfl)) (fun _ _ _ h => h) (Or.inl ⟨by rfl, ?_⟩) ?_ ?_
            rotate_left
            · intro w'
              go_simp
              with_reducible rfl
            rotate_left
            · simp only [Act.put, List.setIfInBounds_toArray, List.set_cons_zero, List.set_cons_succ, i64_w, i32_w]
              rfl
            refine take_ (i := 24) (N := some 190) (v := ?_) (a' := ?_) #[true, true, true, true, true, true, true, true, true, true, true, true, true, true, true, true, true, true, true, true, true, true, true, true, true, false, false, false, false] rfl rfl (take_ofW HT_.out HW_.out (by kernel_rfl)) (fun _ _ _ h => h) (Or.inl ⟨by rfl, ?_⟩) hHeld ?_ ?_
            rotate_left
            · rintro w' ⟨s0, s1, s2, s3, s4, s5⟩
              go_simp
              with_reducible rfl
            rotate_left
            · simp only [Act.put, List.setIfInBounds_toArray, List.set_cons_zero, List.set_cons_succ, i64_w, i32_w]
              rfl
            refine pure_ (i := 25) (N := some 191) (v := ?_) (a' := ?_) #[true, true, true, true, true, true, true, true, true, true, true, true, true, true, true, true, true, true, true, true, true, true, true, true, true, true, false, false, false] rfl rfl (any_of HT_.out (by kernel_rfl)) (fun _ _ _ h => h) (Or.inl ⟨by rfl, ?_⟩) ?_ ?_
            rotate_left
            · intro w'
              go_simp
              with_reducible rfl
            rotate_left
            · simp only [Act.put, List.setIfInBounds_toArray, List.set_cons_zero, List.set_cons_succ, i64_w, i32_w]
              rfl
            refine pure_ (i := 26) (N := some 192) (v := ?_) (a' := ?_) #[true, true, true, true, true, true, true, true, true, true, true, true, true, true, true, true, true, true, true, true, true, true, true, true, true, true, true, false, false] rfl rfl (any_of HT_.out (by kernel_rfl)) (fun _ _ _ h => h) (Or.inl ⟨by rfl, ?_⟩) ?_ ?_
            rotate_left
            · intro w'
              go_simp
              with_reducible rfl
            rotate_left
            · simp only [Act.put, List.setIfInBounds_toArray, List.set_cons_zero, List.set_cons_succ, i64_w, i32_w]
              rfl
            refine pure_ (i := 27) (N := some 193) (v := ?_) (a' := ?_) #[true, true, true, true, true, true, true, true, true, true, true, true, true, true, true, true, true, true, true, true, true, true, true, true, true, true, true, true, false] rfl rfl (any_of HT_.out (by kernel_rfl)) (fun _ _ _ h => h) (Or.inl ⟨by rfl, ?_⟩) ?_ ?_
            rotate_left
            · intro w'
              go_simp
              with_reducible rfl
            rotate_left
            · simp only [Act.put, List.setIfInBounds_toArray, List.set_cons_zero, List.set_cons_succ, i64_w, i32_w]
              rfl
            refine pure_ (i := 28) (N := some 194) (v := ?_) (a' := ?_) #[true, true, true, true, true, true, true, true, true, true, true, true, true, true, true, true, true, true, true, true, true, true, true, true, true, true, true, true, true] rfl rfl (any_of HT_.out (by kernel_rfl)) (fun _ _ _ h => h) (Or.inl ⟨by rfl, ?_⟩) ?_ ?_
            rotate_left
            · intro w'
              go_simp
              with_reducible rfl
            rotate_left
            · simp only [Act.put, List.setIfInBounds_toArray, List.set_cons_zero, List.set_cons_succ, i64_w, i32_w]
              rfl
            refine done_ (done_of HT_.out (by kernel_rfl)) ?_
            replace HW := Aside0.mk (below_step HW.out hHeld.2.2.2.2.2)
            clear hHeld HT_ HW_
            go_wp2_with fail
            exact ⟨⟨j + 1, by first | rw [HWR.out] | (congr 1 <;> omega), by omega, HW⟩, meas_down4 2 j _ (by first | exact HWR.out | omega) (by omega)⟩
      · as_aux_lemma =>
        have hj00 : ((j : Int) == 0) = false := beq_eq_false_iff_ne.mpr (by omega)
        go_wp2_with fail
        clear hk0 hk1 hk2 hj00 
        clear fBA0_ fBA1_ fBB0_ fBB1_ fBM0_ fBM1_
        go_loopw [21, 159] (fun v21 v159 W => ∃ i : Nat, v159 = .int .i64 (i : Int) ∧ v21 = .int .i64 (powI o i) ∧ (i : Int) ≤ n ∧ W = w14) (fun _ v159 _ => n.toNat - (intOf v159).toNat)
        case atStart => exact ⟨0, rfl, rfl, by have := HN0.out; omega, rfl⟩
        case round =>
          obtain ⟨i, rfl, rfl, hi, hWW⟩ := hrel
          have hWW' := hWW.symm
          clear hWW
          subst hWW'
          by_cases hil : (i : Int) < n
          · as_aux_lemma =>
            have hib : decide ((i : Int) < n) = true := decide_eq_true hil
            have hip := eq_true hil
            have HWR2 : Aside0 (wrap64 ((i : Int) + 1) = ((i + 1 : Nat) : Int)) := ⟨by have := HN12.out; unfold wrap64; omega⟩
            have hpo := powI_succ o i
            have fB60_ := B6.out.cell 0 rfl
            have fB61_ := B6.out.cell 1 rfl
            go_wp2_with fail
            exact ⟨⟨i + 1, by rw [HWR2.out], rfl, by omega, by first | trivial | rfl⟩, meas_down3 n i _ HWR2.out hil⟩
          · as_aux_lemma =>
            have hib : decide ((i : Int) < n) = false := decide_eq_false hil
            have hip := eq_false hil
            have hin : i = n.toNat := by omega
            subst hin
            rw [hpw] at *
            have ha2 : ¬ a2 = 0 := by have := HA2.out; omega
            have hb2 : ¬ b2 = 0 := by have := HB2.out; omega
            have ha2b : (a2 == 0) = false := beq_eq_false_iff_ne.mpr ha2
            have hb2b : (b2 == 0) = false := beq_eq_false_iff_ne.mpr hb2
            have ha2c : (a2 != 0) = true := bne_iff_ne.mpr ha2
            have hb2c : (b2 != 0) = true := bne_iff_ne.mpr hb2
            have hm0 : (Int.tmod pw a2 != 0) = false := bne_eq_false_iff_eq.mpr HMA.out
            have hm1 : (Int.tmod pw b2 != 0) = false := bne_eq_false_iff_eq.mpr HMB.out
            have hd0 : decide (wrap64 (b1 * wrap64 (Int.tdiv pw b2)) < wrap64 (a1 * wrap64 (Int.tdiv pw a2))) = false := decide_eq_false (by have := HCMP.out; omega)
            go_wp2_with fail
            refine start_ (n := 29) (S := CF gx_BA (.int .i64 a1) (.int .i64 a2) gx_BB (.int .i64 b1) (.int .i64 b2) w w14) (ds := []) #[false, false, false, false, false, false, false, false, false, false, false, false, false, false, false, false, false, false, false, false, false, false, false, false, false, false, false, false, false] (by kernel_rfl) rfl rfl (cf_of BA.out BB.out HB.out (below_drew (Below.refl _ _))) (fun hHeld => ?_)
            refine with_tabW fewT.tab19 fewT.bits19 (fun HT_ HW_ => ?_)
            generalize (World.drew _) = w15 at hHeld ⊢
            refine pure_ (i := 0) (N := some 166) (v := ?_) (a' := ?_) #[true, false, false, false, false, false, false, false, false, false, false, false, false, false, false, false, false, false, false, false, false, false, false, false, false, false, false, false, false] rfl rfl (any_of HT_.out (by kernel_rfl)) (fun _ _ _ h => h) (Or.inl ⟨by rfl, ?_⟩) ?_ ?_
            rotate_left
            · intro w'
              go_simp
              with_reducible rfl
            rotate_left
            · simp only [Act.put, List.setIfInBounds_toArray, List.set_cons_zero, List.set_cons_succ, i64_w, i32_w]
              rfl
            refine pure_ (i := 1) (N := some 167) (v := ?_) (a' := ?_) #[true, true, false, false, false, false, false, false, false, false, false, false, false, false, false, false, false, false, false, false, false, false, false, false, false, false, false, false, false] rfl rfl (any_of HT_.out (by kernel_rfl)) (fun _ _ _ h => h) (Or.inl ⟨by rfl, ?_⟩) ?_ ?_
            rotate_left
            · intro w'
              go_simp
              with_reducible rfl
            rotate_left
            · simp only [Act.put, List.setIfInBounds_toArray, List.set_cons_zero, List.set_cons_succ, i64_w, i32_w]
              rfl
            refine take_ (i := 2) (N := some 168) (v := ?_) (a' := ?_) #[true, true, true, false, false, false, false, false, false, false, false, false, false, false, false, false, false, false, false, false, false, false, false, false, false, false, false, false, false] rfl rfl (take_ofW HT_.out HW_.out (by kernel_rfl)) (fun _ _ _ h => h) (Or.inl ⟨by rfl, ?_⟩) hHeld ?_ ?_
            rotate_left
            · rintro w' ⟨s0, s1, s2, s3, s4, s5⟩
              go_simp
              with_reducible rfl
            rotate_left
            · simp only [Act.put, List.setIfInBounds_toArray, List.set_cons_zero, List.set_cons_succ, i64_w, i32_w]
              rfl
            refine pure_ (i := 3) (N := some 169) (v := ?_) (a' := ?_) #[true, true, true, true, false, false, false, false, false, false, false, false, false, false, false, false, false, false, false, false, false, false, false, false, false, false, false, false, false] rfl rfl (any_of HT_.out (by kernel_rfl)) (fun _ _ _ h => h) (Or.inl ⟨by rfl, ?_⟩) ?_ ?_
            rotate_left
            · intro w'
              go_simp
              with_reducible rfl
            rotate_left
            · simp only [Act.put, List.setIfInBounds_toArray, List.set_cons_zero, List.set_cons_succ, i64_w, i32_w]
              rfl
            refine pure_ (i := 4) (N := some 170) (v := ?_) (a' := ?_) #[true, true, true, true, true, false, false, false, false, false, false, false, false, false, false, false, false, false, false, false, false, false, false, false, false, false, false, false, false] rfl rfl (any_of HT_.out (by kernel_rfl)) (fun _ _ _ h => h) (Or.inl ⟨by rfl, ?_⟩) ?_ ?_
            rotate_left
            · intro w'
              go_simp
              with_reducible rfl
            rotate_left
            · simp only [Act.put, List.setIfInBounds_toArray, List.set_cons_zero, List.set_cons_succ, i64_w, i32_w]
              rfl
            refine pure_ (i := 5) (N := some 171) (v := ?_) (a' := ?_) #[true, true, true, true, true, true, false, false, false, false, false, false, false, false, false, false, false, false, false, false, false, false, false, false, false, false, false, false, false] rfl rfl (any_of HT_.out (by kernel_rfl)) (fun _ _ _ h => h) (Or.inl ⟨by rfl, ?_⟩) ?_ ?_
            rotate_left
            · intro w'
              go_simp
              with_reducible rfl
            rotate_left
            · simp only [Act.put, List.setIfInBounds_toArray, List.set_cons_zero, List.set_cons_succ, i64_w, i32_w]
              rfl
            refine pure_ (i := 6) (N := some 172) (v := ?_) (a' := ?_) #[true, true, true, true, true, true, true, false, false, false, false, false, false, false, false, false, false, false, false, false, false, false, false, false, false, false, false, false, false] rfl rfl (any_of HT_.out (by kernel_rfl)) (fun _ _ _ h => h) (Or.inl ⟨by rfl, ?_⟩) ?_ ?_
            rotate_left
            · intro w'
              go_simp
              with_reducible rfl
            rotate_left
            · simp only [Act.put, List.setIfInBounds_toArray, List.set_cons_zero, List.set_cons_succ, i64_w, i32_w]
              rfl
            refine pure_ (i := 7) (N := some 173) (v := ?_) (a' := ?_) #[true, true, true, true, true, true, true, true, false, false, false, false, false, false, false, false, false, false, false, false, false, false, false, false, false, false, false, false, false] rfl rfl (any_of HT_.out (by kernel_rfl)) (fun _ _ _ h => h) (Or.inl ⟨by rfl, ?_⟩) ?_ ?_
            rotate_left
            · intro w'
              go_simp
              with_reducible rfl
            rotate_left
            · simp only [Act.put, List.setIfInBounds_toArray, List.set_cons_zero, List.set_cons_succ, i64_w, i32_w]
              rfl
            refine take_ (i := 8) (N := some 174) (v := ?_) (a' := ?_) #[true, true, true, true, true, true, true, true, true, false, false, false, false, false, false, false, false, false, false, false, false, false, false, false, false, false, false, false, false] rfl rfl (take_ofW HT_.out HW_.out (by kernel_rfl)) (fun _ _ _ h => h) (Or.inl ⟨by rfl, ?_⟩) hHeld ?_ ?_
            rotate_left
            · rintro w' ⟨s0, s1, s2, s3, s4, s5⟩
              go_simp
              with_reducible rfl
            rotate_left
            · simp only [Act.put, List.setIfInBounds_toArray, List.set_cons_zero, List.set_cons_succ, i64_w, i32_w]
              rfl
            refine pure_ (i := 9) (N := some 175) (v := ?_) (a' := ?_) #[true, true, true, true, true, true, true, true, true, true, false, false, false, false, false, false, false, false, false, false, false, false, false, false, false, false, false, false, false] rfl rfl (any_of HT_.out (by kernel_rfl)) (fun _ _ _ h => h) (Or.inl ⟨by rfl, ?_⟩) ?_ ?_
            rotate_left
            · intro w'
              go_simp
              with_reducible rfl
            rotate_left
            · simp only [Act.put, List.setIfInBounds_toArray, List.set_cons_zero, List.set_cons_succ, i64_w, i32_w]
              rfl
            refine pure_ (i := 10) (N := some 176) (v := ?_) (a' := ?_) #[true, true, true, true, true, true, true, true, true, true, true, false, false, false, false, false, false, false, false, false, false, false, false, false, false, false, false, false, false] rfl rfl (any_of HT_.out (by kernel_rfl)) (fun _ _ _ h => h) (Or.inl ⟨by rfl, ?_⟩) ?_ ?_
            rotate_left
            · intro w'
              go_simp
              with_reducible rfl
            rotate_left
            · simp only [Act.put, List.setIfInBounds_toArray, List.set_cons_zero, List.set_cons_succ, i64_w, i32_w]
              rfl
            refine pure_ (i := 11) (N := some 177) (v := ?_) (a' := ?_) #[true, true, true, true, true, true, true, true, true, true, true, true, false, false, false, false, false, false, false, false, false, false, false, false, false, false, false, false, false] rfl rfl (any_of HT_.out (by kernel_rfl)) (fun _ _ _ h => h) (Or.inl ⟨by rfl, ?_⟩) ?_ ?_
            rotate_left
            · intro w'
              go_simp
              with_reducible rfl
            rotate_left
            · simp only [Act.put, List.setIfInBounds_toArray, List.set_cons_zero, List.set_cons_succ, i64_w, i32_w]
              rfl
            refine pure_ (i := 12) (N := some 178) (v := ?_) (a' := ?_) #[true, true, true, true, true, true, true, true, true, true, true, true, true, false, false, false, false, false, false, false, false, false, false, false, false, false, false, false, false] rfl rfl (any_of HT_.out (by kernel_rfl)) (fun _ _ _ h => h) (Or.inl ⟨by rfl, ?_⟩) ?_ ?_
            rotate_left
            · intro w'
              go_simp
              with_reducible rfl
            rotate_left
            · simp only [Act.put, List.setIfInBounds_toArray, List.set_cons_zero, List.set_cons_succ, i64_w, i32_w]
              rfl
            refine pure_ (i := 13) (N := some 179) (v := ?_) (a' := ?_) #[true, true, true, true, true, true, true, true, true, true, true, true, true, true, false, false, false, false, false, false, false, false, false, false, false, false, false, false, false] rfl rfl (any_of HT_.out (by kernel_rfl)) (fun _ _ _ h => h) (Or.inl ⟨by rfl, ?_⟩) ?_ ?_
            rotate_left
            · intro w'
              go_simp
              with_reducible rfl
            rotate_left
            · simp only [Act.put, List.setIfInBounds_toArray, List.set_cons_zero, List.set_cons_succ, i64_w, i32_w]
              rfl
            refine take_ (i := 14) (N := some 180) (v := ?_) (a' := ?_) #[true, true, true, true, true, true, true, true, true, true, true, true, true, true, true, false, false, false, false, false, false, false, false, false, false, false, false, false, false] rfl rfl (take_ofW HT_.out HW_.out (by kernel_rfl)) (fun _ _ _ h => h) (Or.inl ⟨by rfl, ?_⟩) hHeld ?_ ?_
            rotate_left
            · rintro w' ⟨s0, s1, s2, s3, s4, s5⟩
              go_simp
              with_reducible rfl
            rotate_left
            · simp only [Act.put, List.setIfInBounds_toArray, List.set_cons_zero, List.set_cons_succ, i64_w, i32_w]
              rfl
            refine pure_ (i := 15) (N := some 181) (v := ?_) (a' := ?_) #[true, true, true, true, true, true, true, true, true, true, true, true, true, true, true, true, false, false, false, false, false, false, false, false, false, false, false, false, false] rfl rfl (any_of HT_.out (by kernel_rfl)) (fun _ _ _ h => h) (Or.inl ⟨by rfl, ?_⟩) ?_ ?_
            rotate_left
            · intro w'
              go_simp
              with_reducible rfl
            rotate_left
            · simp only [Act.put, List.setIfInBounds_toArray, List.set_cons_zero, List.set_cons_succ, i64_w, i32_w]
              rfl
            refine pure_ (i := 16) (N := some 182) (v := ?_) (a' := ?_) #[true, true, true, true, true, true, true, true, true, true, true, true, true, true, true, true, true, false, false, false, false, false, false, false, false, false, false, false, false] rfl rfl (any_of HT_.out (by kernel_rfl)) (fun _ _ _ h => h) (Or.inl ⟨by rfl, ?_⟩) ?_ ?_
            rotate_left
            · intro w'
              go_simp
              with_reducible rfl
            rotate_left
            · simp only [Act.put, List.setIfInBounds_toArray, List.set_cons_zero, List.set_cons_succ, i64_w, i32_w]
              rfl
            refine take_ (i := 17) (N := some 183) (v := ?_) (a' := ?_) #[true, true, true, true, true, true, true, true, true, true, true, true, true, true, true, true, true, true, false, false, false, false, false, false, false, false, false, false, false] rfl rfl (take_ofW HT_.out HW_.out (by kernel_rfl)) (fun _ _ _ h => h) (Or.inl ⟨by rfl, ?_⟩) hHeld ?_ ?_
            rotate_left
            · rintro w' ⟨s0, s1, s2, s3, s4, s5⟩
              go_simp
              with_reducible rfl
            rotate_left
            · simp only [Act.put, List.setIfInBounds_toArray, List.set_cons_zero, List.set_cons_succ, i64_w, i32_w]
              rfl
            refine pure_ (i := 18) (N := some 184) (v := ?_) (a' := ?_) #[true, true, true, true, true, true, true, true, true, true, true, true, true, true, true, true, true, true, true, false, false, false, false, false, false, false, false, false, false] rfl rfl (any_of HT_.out (by kernel_rfl)) (fun _ _ _ h => h) (Or.inl ⟨by rfl, ?_⟩) ?_ ?_
            rotate_left
            · intro w'
              go_simp
              with_reducible rfl
            rotate_left
            · simp only [Act.put, List.setIfInBounds_toArray, List.set_cons_zero, List.set_cons_succ, i64_w, i32_w]
              rfl
            refine pure_ (i := 19) (N := some 185) (v := ?_) (a' := ?_) #[true, true, true, true, true, true, true, true, true, true, true, true, true, true, true, true, true, true, true, true, false, false, false, false, false, false, false, false, false] rfl rfl (any_of HT_.out (by kernel_rfl)) (fun _ _ _ h => h) (Or.inl ⟨by rfl, ?_⟩) ?_ ?_
            rotate_left
            · intro w'
              go_simp
              with_reducible rfl
            rotate_left
            · simp only [Act.put, List.setIfInBounds_toArray, List.set_cons_zero, List.set_cons_succ, i64_w, i32_w]
              rfl
            refine pure_ (i := 20) (N := some 186) (v := ?_) (a' := ?_) #[true, true, true, true, true, true, true, true, true, true, true, true, true, true, true, true, true, true, true, true, true, false, false, false, false, false, false, false, false] rfl rfl (any_of HT_.out (by kernel_rfl)) (fun _ _ _ h => h) (Or.inl ⟨by rfl, ?_⟩) ?_ ?_
            rotate_left
            · intro w'
              go_simp
              with_reducible rfl
            rotate_left
            · simp only [Act.put, List.setIfInBounds_toArray, List.set_cons_zero, List.set_cons_succ, i64_w, i32_w]
              rfl
            refine take_ (i := 21) (N := some 187) (v := ?_) (a' := ?_) #[true, true, true, true, true, true, true, true, true, true, true, true, true, true, true, true, true, true, true, true, true, true, false, false, false, false, false, false, false] rfl rfl (take_ofW HT_.out HW_.out (by kernel_rfl)) (fun _ _ _ h => h) (Or.inl ⟨by rfl, ?_⟩) hHeld ?_ ?_
            rotate_left
            · rintro w' ⟨s0, s1, s2, s3, s4, s5⟩
              go_simp
              with_reducible rfl
            rotate_left
            · simp only [Act.put, List.setIfInBounds_toArray, List.set_cons_zero, List.set_cons_succ, i64_w, i32_w]
              rfl
            refine pure_ (i := 22) (N := some 188) (v := ?_) (a' := ?_) #[true, true, true, true, true, true, true, true, true, true, true, true, true, true, true, true, true, true, true, true, true, true, true, false, false, false, false, false, false] rfl rfl (any_of HT_.out (by kernel_rfl)) (fun _ _ _ h => h) (Or.inl ⟨by rfl, ?_⟩) ?_ ?_
            rotate_left
            · intro w'
              go_simp
              with_reducible rfl
            rotate_left
            · simp only [Act.put, List.setIfInBounds_toArray, List.set_cons_zero, List.set_cons_succ, i64_w, i32_w]
              rfl
            refine pure_ (i := 23) (N := some 189) (v := ?_) (a' := ?_) #[true, true, true, true, true, true, true, true, true, true, true, true, true, true, true, true, true, true, true, true, true, true, true, true, false, false, false, false, false] rfl rfl (any_of HT_.out (by kernel_rfl)) (fun _ _ _ h => h) (Or.inl ⟨by rfl, ?_⟩) ?_ ?_
            rotate_left
            · intro w'
              go_simp
              with_reducible rfl
            rotate_left
            · simp only [Act.put, List.setIfInBounds_toArray, List.set_cons_zero, List.set_cons_succ, i64_w, i32_w]
              rfl
            refine take_ (i := 24) (N := some 190) (v := ?_) (a' := ?_) #[true, true, true, true, true, true, true, true, true, true, true, true, true, true, true, true, true, true, true, true, true, true, true, true, true, false, false, false, false] rfl rfl (take_ofW HT_.out HW_.out (by kernel_rfl)) (fun _ _ _ h => h) (Or.inl ⟨by rfl, ?_⟩) hHeld ?_ ?_
            rotate_left
            · rintro w' ⟨s0, s1, s2, s3, s4, s5⟩
              go_simp
              with_reducible rfl
            rotate_left
            · simp only [Act.put, List.setIfInBounds_toArray, List.set_cons_zero, List.set_cons_succ, i64_w, i32_w]
              rfl
            refine pure_ (i := 25) (N := some 191) (v := ?_) (a' := ?_) #[true, true, true, true, true, true, true, true, true, true, true, true, true, true, true, true, true, true, true, true, true, true, true, true, true, true, false, false, false] rfl rfl (any_of HT_.out (by kernel_rfl)) (fun _ _ _ h => h) (Or.inl ⟨by rfl, ?_⟩) ?_ ?_
            rotate_left
            · intro w'
              go_simp
              with_reducible rfl
            rotate_left
            · simp only [Act.put, List.setIfInBounds_toArray, List.set_cons_zero, List.set_cons_succ, i64_w, i32_w]
              rfl
            refine pure_ (i := 26) (N := some 192) (v := ?_) (a' := ?_) #[true, true, true, true, true, true, true, true, true, true, true, true, true, true, true, true, true, true, true, true, true, true, true, true, true, true, true, false, false] rfl rfl (any_of HT_.out (by kernel_rfl)) (fun _ _ _ h => h) (Or.inl ⟨by rfl, ?_⟩) ?_ ?_
            rotate_left
            · intro w'
              go_simp
              with_reducible rfl
            rotate_left
            · simp only [Act.put, List.setIfInBounds_toArray, List.set_cons_zero, List.set_cons_succ, i64_w, i32_w]
              rfl
            refine pure_ (i := 27) (N := some 193) (v := ?_) (a' := ?_) #[true, true, true, true, true, true, true, true, true, true, true, true, true, true, true, true, true, true, true, true, true, true, true, true, true, true, true, true, false] rfl rfl (any_of HT_.out (by kernel_rfl)) (fun _ _ _ h => h) (Or.inl ⟨by rfl, ?_⟩) ?_ ?_
            rotate_left
            · intro w'
              go_simp
              with_reducible rfl
            rotate_left
            · simp only [Act.put, List.setIfInBounds_toArray, List.set_cons_zero, List.set_cons_succ, i64_w, i32_w]
              rfl
            refine pure_ (i := 28) (N := some 194) (v := ?_) (a' := ?_) #[true, true, true, true, true, true, true, true, true, true, true, true, true, true, true, true, true, true, true, true, true, true, true, true, true, true, true, true, true] rfl rfl (any_of HT_.out (by kernel_rfl)) (fun _ _ _ h => h) (Or.inl ⟨by rfl, ?_⟩) ?_ ?_
            rotate_left
            · intro w'
              go_simp
              with_reducible rfl
            rotate_left
            · simp only [Act.put, List.setIfInBounds_toArray, List.set_cons_zero, List.set_cons_succ, i64_w, i32_w]
              rfl
            refine done_ (done_of HT_.out (by kernel_rfl)) ?_
            replace HW := Aside0.mk (below_step HW.out hHeld.2.2.2.2.2)
            clear hHeld HT_ HW_
            go_wp2_with fail
            exact ⟨⟨j + 1, by first | rw [HWR.out] | (congr 1 <;> omega), by omega, HW⟩, meas_down4 2 j _ (by first | exact HWR.out | omega) (by omega)⟩
    · have hjb : decide ((j : Int) < 2) = false := decide_eq_false (by omega)
      have hjp : ((j : Int) < 2) = False := eq_false (by omega)
      go_wp2_with fail
      refine (comfitlaw02_awake.calls k true _ HAW.out).mono ?_
      rintro e w4 ⟨rfl, hb⟩
      go_wp2_with fail
      go_ret
      exact ⟨rfl, below_step HB.out hb⟩
end Go.Proofs.Ytdppnmfljfdhaaa.X
