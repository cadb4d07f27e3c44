/- The contracts of lots.Taken and lots.Looks: the sum over the ends of a plan, of a number that belongs to each. -/
import Derived.Test.YtdppnmfljfdhaaaQHEnds
import Derived.Test.YtdppnmfljfdhaaaQXW
set_option linter.unusedVariables false
set_option linter.unusedSimpArgs false
namespace Go.Proofs.Ytdppnmfljfdhaaa.X
open Go.RowKit Go.Proofs.YtdppnmfljfdhaaaW.PrintWords Go.Proofs.YtdppnmfljfdhaaaW.PrintLast Go.Proofs.YtdppnmfljfdhaaaW.PrintMore
attribute [local go_sem] Oper.semAt_some

/-! ### in plain words -/
def lots_sum.go (k : Nat) (f : S81 → Int) (y o n : Int) : List S81 → Int → Option Int
  | [], t => some t
  | e :: es, t => (lots_end_weight.f k e.f0 e.f1 e.f2 e.f3 y o n).bind fun u => lots_sum.go k f y o n es (wrap64 (t + wrap64 (u * f e)))
def lots_sum.f (k : Nat) (f : S81 → Int) (l0 l1 : List Int) (y o : Int) : Option (Int × Int) :=
  (lots_Plan_ends.f l0 l1).bind fun L => (lots_sum.go k f y o (l0.length : Int) L 0).bind fun t => (lots_power.f k o (l0.length : Int)).bind fun d => lots_frac.f k t d
/-- The number that Taken sums: is the lot taken? -/
def ofTaken (e : S81) : Int := if e.f2 = 1 then 1 else 0
def lots_Taken.f (k : Nat) (l0 l1 : List Int) (y o : Int) : Option (Int × Int × Int) :=
  (lots_Plan_valid.f k l0 l1).bind fun t => if t = true then ((lots_Chance_valid.f y o).bind fun u => if u = true then ((lots_sum.f k ofTaken l0 l1 y o).bind fun s => some (s.1, s.2, 0)) else some (0, 0, 2)) else some (0, 0, 2)
theorem lots_sum.mono_go (k : Nat) (f : S81 → Int) (y o n : Int) : ∀ (L : List S81) (t : Int), LeO (lots_sum.go k f y o n L t) (lots_sum.go (k + 1) f y o n L t) := by
  intro L
  induction L with
  | nil => exact fun _ => LeO.refl _
  | cons e L ih =>
    intro t
    unfold lots_sum.go
    exact LeO.bind (lots_end_weight.mono _ _ _ _ _ _ _ _) (fun _ => ih _)
theorem lots_sum.mono (k : Nat) (f : S81 → Int) (l0 l1 : List Int) (y o : Int) : LeO (lots_sum.f k f l0 l1 y o) (lots_sum.f (k + 1) f l0 l1 y o) := by
  unfold lots_sum.f
  exact LeO.bind (LeO.refl _) (fun _ => LeO.bind (lots_sum.mono_go _ _ _ _ _ _ _) (fun _ => LeO.bind (lots_power.mono _ _ _) (fun _ => lots_frac.mono _ _ _)))
theorem lots_Taken.mono : ∀ a0 a1 a2 a3 k, LeO (lots_Taken.f k a0 a1 a2 a3) (lots_Taken.f (k + 1) a0 a1 a2 a3) := by
  intro a0 a1 a2 a3 k
  unfold lots_Taken.f
  repeat' first
    | (with_reducible exact lots_Plan_valid.mono _ _ _)
    | (with_reducible exact lots_sum.mono _ _ _ _ _ _)
    | (with_reducible exact LeO.refl _)
    | (with_reducible refine LeO.ite ?_ ?_)
    | (with_reducible refine LeO.bind ?_ (fun _ => ?_))
/-! ### the walk -/
/-- What a closure of 'sum' does. -/
def OfIs (g : FuncId) (f : S81 → Int) : Prop := (∃ fn : Func, Try.prog.funcs[g]? = some fn ∧ (fn.name == "runtime.NumGoroutine") = false ∧ fn.body.isSome = true) ∧
  ∀ (e : S81) (w : World), Calls Try.prog g #[.agg #[.int .i64 e.f0, .int .i64 e.f1, .int .i64 e.f2, .int .i64 e.f3]] w fun x w' => x = .returned (.int .i64 (f e)) ∧ Below w.heap.size w w'
set_option maxRecDepth 100000 in
theorem ofTaken_is : OfIs 56 ofTaken := by
  refine ⟨⟨_, Try.func56, by kernel_rfl, rfl⟩, fun e w => ?_⟩
  have hu81 := Try.underlying81
  have HB := Aside0.mk (Below.refl w.heap.size w)
  unfold ofTaken
  by_cases he : e.f2 = 1
  · rw [if_pos he]
    have hb : (e.f2 == 1) = true := beq_iff_eq.mpr he
    clear he
    go_enter Try.func56, Try.ntmps56
    go_wp2_with fail
    go_ret
    exact ⟨rfl, below_alloc HB.out _⟩
  · rw [if_neg he]
    have hb : (e.f2 == 1) = false := beq_eq_false_iff_ne.mpr he
    clear he
    go_enter Try.func56, Try.ntmps56
    go_wp2_with fail
    go_ret
    exact ⟨rfl, below_alloc HB.out _⟩
/-- A call of a function value that a temporary holds. -/
theorem goesV_ {P : Program} {ops : Array Oper} {Q : Exit → Act → World → Prop} {oi : Oper} {N : Option Tmp} {a : Act} {w : World} {K : Act → World → Prop} {f : FuncId} {fn : Func} {o : Operand} {avs : Array Operand} {ts : Array TypeId} (hf : P.funcs[f]? = some fn) (hname : (fn.name == "runtime.NumGoroutine") = false) (hb : fn.body.isSome = true) (args : Array Value)
    (hw : Region.wanted oi (yielded ops a.tmps) = true) (hN : oi.dst = N) (hop : oi.op = .call { callee := .value o, args := avs, argTypes := ts }) (ho : a.eval o = .func (.func f) #[] #[]) (hargs : avs.map a.eval = args)
    (h : Calls P f args w fun e w' => ∃ v, e = .returned v ∧ K (a.put N v) w') : if Region.wanted oi (yielded ops a.tmps) = true then Oper.wp P oi a w K Q else K (a.put N undef) w := by
  refine call_ f args hw hN ?_ h
  have he := enters_ hf hname hb args w
  unfold execOp
  simp [hop, resolve, Deferred.ofValue, invoke, ho, hargs, he]
/-- What stands in memory in a round of the sum. -/
def SumSt (w : World) (g3 g4 g6 g10 : Nat) (cs3 : Array Value) (y o : Int) (e : S81) (A : Option Addr) (L : List S81) (W : World) : Prop :=
  W.cell? ⟨g10, 0, none⟩ = some (.int .i64 e.f0) ∧ W.cell? ⟨g10, 1, none⟩ = some (.int .i64 e.f1) ∧ W.cell? ⟨g10, 2, none⟩ = some (.int .i64 e.f2) ∧ W.cell? ⟨g10, 3, none⟩ = some (.int .i64 e.f3) ∧
  W.cell? ⟨g4, 0, none⟩ = some (.int .i64 y) ∧ W.cell? ⟨g4, 1, none⟩ = some (.int .i64 o) ∧
  Below w.heap.size w W ∧ Box w g3 cs3 32 W ∧ Box w g4 #[.int .i64 y, .int .i64 o] 34 W ∧ Box w g6 #[.int .i64 0, .int .i64 0] 28 W ∧ Box w g10 #[.int .i64 e.f0, .int .i64 e.f1, .int .i64 e.f2, .int .i64 e.f3] 81 W ∧ Kd.C k81 W A L.length L
def SumB (w : World) (g3 g4 g6 : Nat) (cs3 : Array Value) (y o : Int) (A : Option Addr) (L : List S81) (W : World) : Prop :=
  Below w.heap.size w W ∧ Box w g3 cs3 32 W ∧ Box w g4 #[.int .i64 y, .int .i64 o] 34 W ∧ Box w g6 #[.int .i64 0, .int .i64 0] 28 W ∧ Kd.C k81 W A L.length L
section
variable {w W W1 : World} {g3 g4 g6 g10 : Nat} {cs3 : Array Value} {y o : Int} {e : S81} {A : Option Addr} {L : List S81}
theorem SumB.below (h : SumB w g3 g4 g6 cs3 y o A L W) (hb : Below W.heap.size W W1) : SumB w g3 g4 g6 cs3 y o A L W1 := ⟨below_step h.1 hb, h.2.1.below hb, h.2.2.1.below hb, h.2.2.2.1.below hb, Kd.C_below h.2.2.2.2 hb⟩
theorem SumB.st (h : SumB w g3 g4 g6 cs3 y o A L W) (hb : Box w g10 #[.int .i64 e.f0, .int .i64 e.f1, .int .i64 e.f2, .int .i64 e.f3] 81 W) : SumSt w g3 g4 g6 g10 cs3 y o e A L W :=
  ⟨hb.cell 0 rfl, hb.cell 1 rfl, hb.cell 2 rfl, hb.cell 3 rfl, h.2.2.1.cell 0 rfl, h.2.2.1.cell 1 rfl, h.1, h.2.1, h.2.2.1, h.2.2.2.1, hb, h.2.2.2.2⟩
theorem SumSt.b (h : SumSt w g3 g4 g6 g10 cs3 y o e A L W) : SumB w g3 g4 g6 cs3 y o A L W := ⟨h.2.2.2.2.2.2.1, h.2.2.2.2.2.2.2.1, h.2.2.2.2.2.2.2.2.1, h.2.2.2.2.2.2.2.2.2.1, h.2.2.2.2.2.2.2.2.2.2.2⟩
theorem SumSt.below (h : SumSt w g3 g4 g6 g10 cs3 y o e A L W) (hb : Below W.heap.size W W1) : SumSt w g3 g4 g6 g10 cs3 y o e A L W1 := (h.b.below hb).st (h.2.2.2.2.2.2.2.2.2.2.1.below hb)
end

def sumT.T6 : Bool × List (List Nat × List Nat) := (true, [([], []), ([], []), ([], []), ([], []), ([1, 2, 3], [1, 2, 3]), ([], []), ([], []), ([5, 6, 4], [5, 6]), ([4, 7], [4, 7]), ([0, 8], [0, 8]), ([9, 7, 0, 1, 2, 3, 4, 5, 6, 7, 8, 9], [0, 9])])
def sumT.B6 : List Nat := [0, 0, 0, 0, 14, 0, 0, 126, 254, 511, 1023]
theorem sumT.tab6 : rtab .any (opsOf Try.f55 6) = sumT.T6 := by kernel_rfl
theorem sumT.bits6 : waitsOk sumT.T6.2 sumT.B6 = true := by kernel_rfl

set_option maxRecDepth 100000 in
set_option maxHeartbeats 8000000 in
theorem lots_sum.calls (g : FuncId) (f : S81 → Int) (hg : OfIs g f) (k : Nat) (A0 : Option Addr) (c0 : Nat) (l0 : List Int) (A1 : Option Addr) (c1 : Nat) (l1 : List Int) (y o : Int) (r1 r2 : Int) (w : World) (hr0 : Kd.C (Kd.int .i64) w A0 l0.length l0) (hc0 : l0.length ≤ c0) (hr1 : Kd.C (Kd.int .i64) w A1 l1.length l1) (hc1 : l1.length ≤ c1) (h : lots_sum.f k f l0 l1 y o = some (r1, r2)) :
    Calls Try.prog 55 #[.agg #[.slice A0 l0.length c0, .slice A1 l1.length c1], .agg #[.int .i64 y, .int .i64 o], .func (.func g) #[] #[]] w fun e w' => e = .returned (.agg #[.int .i64 r1, .int .i64 r2]) ∧ Below w.heap.size w w' := by
  have hu32 := Try.underlying32
  have hu34 := Try.underlying34
  have hu81 := Try.underlying81
  have hu28 := Try.underlying28
  have HR0 := Aside0.mk hr0
  have HC0 := Aside0.mk hc0
  have HR1 := Aside0.mk hr1
  have HC1 := Aside0.mk hc1
  clear hr0 hc0 hr1 hc1
  unfold lots_sum.f at h
  replace h := Option.bind_eq_some_iff.mp h
  obtain ⟨L, hL, h⟩ := h
  replace h := Option.bind_eq_some_iff.mp h
  obtain ⟨t, ht, h⟩ := h
  replace h := Option.bind_eq_some_iff.mp h
  obtain ⟨d, hd, h⟩ := h
  have HL := Aside0.mk hL
  have HT := Aside0.mk ht
  have HD := Aside0.mk hd
  have HF := Aside0.mk h
  have HG := Aside0.mk hg
  clear hL ht hd h hg
  have B3 := Aside0.mk (((Box.new (Below.refl w.heap.size w) #[.slice A0 l0.length c0, .slice A1 l1.length c1] 32).alloc (.cells #[.int .i64 y, .int .i64 o] 34)).alloc (.cells #[.int .i64 0, .int .i64 0] 28))
  have B4 := Aside0.mk ((Box.new (below_alloc (Below.refl w.heap.size w) (.cells #[.slice A0 l0.length c0, .slice A1 l1.length c1] 32)) #[.int .i64 y, .int .i64 o] 34).alloc (.cells #[.int .i64 0, .int .i64 0] 28))
  have B6 := Aside0.mk (Box.new (below_alloc (below_alloc (Below.refl w.heap.size w) (.cells #[.slice A0 l0.length c0, .slice A1 l1.length c1] 32)) (.cells #[.int .i64 y, .int .i64 o] 34)) #[.int .i64 0, .int .i64 0] 28)
  have HB := Aside0.mk (below_alloc (below_alloc (below_alloc (Below.refl w.heap.size w) (.cells #[.slice A0 l0.length c0, .slice A1 l1.length c1] 32)) (.cells #[.int .i64 y, .int .i64 o] 34)) (.cells #[.int .i64 0, .int .i64 0] 28))
  rw [World.size_alloc] at B4
  rw [World.size_alloc, World.size_alloc] at B6
  go_enter Try.func55, Try.ntmps55
  go_wp2_with fail
  refine (lots_Plan_ends.calls A0 c0 l0 A1 c1 l1 L _ (Kd.C_below HR0.out HB.out) HC0.out (Kd.C_below HR1.out HB.out) HC1.out HL.out).mono ?_
  rintro x w1 ⟨v, rfl, hR, hb⟩
  obtain ⟨A, c, rfl⟩ := Kd.R_slice hR
  have HS : Aside0 (SumB w w.heap.size (w.heap.size + 1) (w.heap.size + 1 + 1) #[.slice A0 l0.length c0, .slice A1 l1.length c1] y o A L w1) := ⟨below_step HB.out hb, B3.out.below hb, B4.out.below hb, B6.out.below hb, (Kd.R_reads' hR).2.2⟩
  clear B3 B4 B6 HB hb hR
  go_wp2_with fail
  have hlen : L.length ≤ 168 := by
    obtain ⟨hv, rfl⟩ := lots_Plan_ends.of HL.out
    have h1 := ends_len l0 l1 l0.length
    have h3 : l0.length * (l0.length + 2) ≤ 12 * 14 := Nat.mul_le_mul (by omega) (by omega)
    omega
  go_loopw [8, 17] (fun t' i W => ∃ (j : Nat) (s : Int), t' = .int .i64 s ∧ i = .int .i64 (j : Int) ∧ j ≤ L.length ∧ Aside0 (lots_sum.go k f y o (l0.length : Int) (L.drop j) s = some t) ∧ Aside0 (SumB w w.heap.size (w.heap.size + 1) (w.heap.size + 1 + 1) #[.slice A0 l0.length c0, .slice A1 l1.length c1] y o A L W)) (fun _ i _ => L.length - (intOf i).toNat)
  case atStart => exact ⟨0, 0, rfl, rfl, Nat.zero_le _, HT, HS⟩
  case round =>
    clear HS
    obtain ⟨j, s, rfl, rfl, hj, HGO, HS⟩ := hrel
    by_cases hjl : j < L.length
    · obtain ⟨ad, rfl, e0, e1, e2, e3⟩ := at_T81 HS.out.2.2.2.2 (j : Int) (by omega) (by omega)
      rw [Int.toNat_natCast] at e0 e1 e2 e3
      have hd : L.drop j = rd_T81 L j :: L.drop (j + 1) := by
        rw [List.drop_eq_getElem_cons hjl]; simp [rd_T81, hjl]
      have hgo := HGO.out
      rw [hd] at hgo
      clear hd HGO
      generalize rd_T81 L (j : Int) = e at *
      replace hgo := Option.bind_eq_some_iff.mp hgo
      obtain ⟨u, hu, hgo⟩ := hgo
      have H1 := Aside0.mk hu
      have HGO := Aside0.mk hgo
      clear hu hgo
      have hjb : decide ((j : Int) < (L.length : Int)) = true := decide_eq_true (by omega)
      go_wp2_with fail
      have HST := Aside0.mk ((HS.out.below (below_alloc (Below.refl _ _) (.cells #[.int .i64 e.f0, .int .i64 e.f1, .int .i64 e.f2, .int .i64 e.f3] 81))).st (e := e) (Box.new HS.out.1 _ 81))
      clear e0 e1 e2 e3 HS
      obtain ⟨fn, hf1, hf2, hf3⟩ := HG.out.1
      refine start_ (n := 11) (S := SumSt w w.heap.size (w.heap.size + 1) (w.heap.size + 1 + 1) wr.heap.size #[.slice A0 l0.length c0, .slice A1 l1.length c1] y o e (some ad) L) (ds := []) #[false, false, false, false, false, false, false, false, false, false, false] (by kernel_rfl) rfl rfl (SumSt.below HST.out (below_drew (Below.refl _ _))) (fun hHeld => ?_)
      refine with_tabW sumT.tab6 sumT.bits6 (fun HT_ HW_ => ?_)
      refine pure_ (i := 0) (N := some 21) (v := ?_) (a' := ?_) #[true, false, false, false, false, false, false, false, false, false, false] rfl rfl (any_of HT_.out (by kernel_rfl)) (fun _ _ _ h => h) (Or.inl ⟨by rfl, ?_⟩) ?_ ?_
      rotate_left
      · intro w'
        go_simp
        with_reducible rfl
      rotate_left
      · simp only [Act.put, List.setIfInBounds_toArray, List.set_cons_zero, List.set_cons_succ, i64_w, i32_w]
        rfl
      refine take_ (i := 1) (N := some 22) (v := ?_) (a' := ?_) #[true, true, false, false, false, false, false, false, false, false, false] rfl rfl (take_ofW HT_.out HW_.out (by kernel_rfl)) (fun _ _ _ h => h) (Or.inl ⟨by rfl, ?_⟩) hHeld ?_ ?_
      rotate_left
      · rintro w' ⟨s0, s1, s2, s3, s4, s5, s6, s7, s8, s9, s10, s11⟩
        go_simp
        with_reducible rfl
      rotate_left
      · simp only [Act.put, List.setIfInBounds_toArray, List.set_cons_zero, List.set_cons_succ, i64_w, i32_w]
        rfl
      refine take_ (i := 2) (N := some 23) (v := ?_) (a' := ?_) #[true, true, true, false, false, false, false, false, false, false, false] rfl rfl (take_ofW HT_.out HW_.out (by kernel_rfl)) (fun _ _ _ h => h) (Or.inl ⟨by rfl, ?_⟩) hHeld ?_ ?_
      rotate_left
      · rintro w' ⟨s0, s1, s2, s3, s4, s5, s6, s7, s8, s9, s10, s11⟩
        go_simp
        with_reducible rfl
      rotate_left
      · simp only [Act.put, List.setIfInBounds_toArray, List.set_cons_zero, List.set_cons_succ, i64_w, i32_w]
        rfl
      refine pure_ (i := 3) (N := some 24) (v := ?_) (a' := ?_) #[true, true, true, true, false, false, false, false, false, false, false] rfl rfl (any_of HT_.out (by kernel_rfl)) (fun _ _ _ h => h) (Or.inl ⟨by rfl, ?_⟩) ?_ ?_
      rotate_left
      · intro w'
        go_simp
        with_reducible rfl
      rotate_left
      · simp only [Act.put, List.setIfInBounds_toArray, List.set_cons_zero, List.set_cons_succ, i64_w, i32_w]
        rfl
      refine pure_ (i := 5) (N := some 26) (v := ?_) (a' := ?_) #[true, true, true, true, false, true, false, false, false, false, false] rfl rfl (any_of HT_.out (by kernel_rfl)) (fun _ _ _ h => h) (Or.inl ⟨by rfl, ?_⟩) ?_ ?_
      rotate_left
      · intro w'
        go_simp
        with_reducible rfl
      rotate_left
      · simp only [Act.put, List.setIfInBounds_toArray, List.set_cons_zero, List.set_cons_succ, i64_w, i32_w]
        rfl
      refine take_ (i := 6) (N := some 27) (v := ?_) (a' := ?_) #[true, true, true, true, false, true, true, false, false, false, false] rfl rfl (take_ofW HT_.out HW_.out (by kernel_rfl)) (fun _ _ _ h => h) (Or.inl ⟨by rfl, ?_⟩) hHeld ?_ ?_
      rotate_left
      · rintro w' ⟨s0, s1, s2, s3, s4, s5, s6, s7, s8, s9, s10, s11⟩
        go_simp
        with_reducible rfl
      rotate_left
      · simp only [Act.put, List.setIfInBounds_toArray, List.set_cons_zero, List.set_cons_succ, i64_w, i32_w]
        rfl
      refine one_ (i := 4) (N := some 25) #[true, true, true, true, true, true, true, false, false, false, false] rfl rfl (one_of HT_.out (by kernel_rfl)) (by decide) (fun K hK => ?_)
      refine goes_ Try.func77 (by kernel_rfl) rfl #[.agg #[.int .i64 e.f0, .int .i64 e.f1, .int .i64 e.f2, .int .i64 e.f3], .agg #[.int .i64 y, .int .i64 o], .int .i64 (l0.length : Int)] (by rfl) rfl rfl (by (try simp only [List.map_toArray, List.map_cons, List.map_nil]); first | done | rfl | (simp only [List.length_drop, List.length_take]; rfl)) ?_
      refine (lots_end_weight.calls k e.f0 e.f1 e.f2 e.f3 y o (l0.length : Int) u _ H1.out).mono ?_
      rintro e wr1 ⟨rfl, hb⟩
      refine ⟨_, rfl, ?_⟩
      refine hK.out _ _ (SumSt.below hHeld hb) (fun hHeld => ?_)
      clear hK K hb
      refine norm_ (a' := ?_) ?_ ?_
      rotate_left
      · show Act.put _ (some 25) _ = _
        simp only [Act.put, List.setIfInBounds_toArray, List.set_cons_zero, List.set_cons_succ, i64_w, i32_w]
        rfl
      refine one_ (i := 7) (N := some 28) #[true, true, true, true, true, true, true, true, false, false, false] rfl rfl (one_of HT_.out (by kernel_rfl)) (by decide) (fun K hK => ?_)
      refine goesV_ hf1 hf2 hf3 #[.agg #[.int .i64 e.f0, .int .i64 e.f1, .int .i64 e.f2, .int .i64 e.f3]] (by rfl) rfl rfl rfl (by (try simp only [List.map_toArray, List.map_cons, List.map_nil]); first | done | rfl | (simp only [List.length_drop, List.length_take]; rfl)) ?_
      refine (HG.out.2 e _).mono ?_
      rintro e wr2 ⟨rfl, hb⟩
      refine ⟨_, rfl, ?_⟩
      refine hK.out _ _ (SumSt.below hHeld hb) (fun hHeld => ?_)
      clear hK K hb
      refine norm_ (a' := ?_) ?_ ?_
      rotate_left
      · show Act.put _ (some 28) _ = _
        simp only [Act.put, List.setIfInBounds_toArray, List.set_cons_zero, List.set_cons_succ, i64_w, i32_w]
        rfl
      refine pure_ (i := 8) (N := some 29) (v := ?_) (a' := ?_) #[true, true, true, true, true, true, true, true, true, false, false] rfl rfl (any_of HT_.out (by kernel_rfl)) (fun _ _ _ h => h) (Or.inl ⟨by rfl, ?_⟩) ?_ ?_
      rotate_left
      · intro w'
        go_simp
        with_reducible rfl
      rotate_left
      · simp only [Act.put, List.setIfInBounds_toArray, List.set_cons_zero, List.set_cons_succ, i64_w, i32_w]
        rfl
      refine pure_ (i := 9) (N := some 30) (v := ?_) (a' := ?_) #[true, true, true, true, true, true, true, true, true, true, false] rfl rfl (any_of HT_.out (by kernel_rfl)) (fun _ _ _ h => h) (Or.inl ⟨by rfl, ?_⟩) ?_ ?_
      rotate_left
      · intro w'
        go_simp
        with_reducible rfl
      rotate_left
      · simp only [Act.put, List.setIfInBounds_toArray, List.set_cons_zero, List.set_cons_succ, i64_w, i32_w]
        rfl
      refine pure_ (i := 10) (N := some 8) (v := ?_) (a' := ?_) #[true, true, true, true, true, true, true, true, true, true, true] rfl rfl (any_of HT_.out (by kernel_rfl)) (fun _ _ _ h => h) (Or.inl ⟨by rfl, ?_⟩) ?_ ?_
      rotate_left
      · intro w'
        go_simp
        with_reducible rfl
      rotate_left
      · simp only [Act.put, List.setIfInBounds_toArray, List.set_cons_zero, List.set_cons_succ, i64_w, i32_w]
        rfl
      refine done_ (done_of HT_.out (by kernel_rfl)) ?_
      replace HS := Aside0.mk hHeld.b
      clear hHeld HST
      go_wp2_with fail
      exact ⟨⟨j + 1, _, rfl, by rw [Int.natCast_add]; rfl, hjl, HGO, HS⟩, by simp [intOf]; omega⟩
    · have hjb : decide ((j : Int) < (L.length : Int)) = false := decide_eq_false (by omega)
      have q1 := HS.out.2.2.1.cell 1 rfl
      obtain rfl : j = L.length := by omega
      rw [List.drop_length] at HGO
      obtain rfl : s = t := Option.some.inj HGO.out
      go_wp2_with fail
      refine (lots_power.calls k o (l0.length : Int) d _ HD.out).mono ?_
      rintro x w2 ⟨rfl, hb⟩
      replace HS := Aside0.mk (HS.out.below hb.below)
      clear q1 hb
      go_wp2_with fail
      refine (lots_frac.calls k s d r1 r2 _ HF.out).mono ?_
      rintro x w3 ⟨rfl, hb⟩
      replace HS := Aside0.mk (HS.out.below hb)
      clear hb
      have q0 := HS.out.2.2.2.1.cell 0 rfl
      have q1 := HS.out.2.2.2.1.cell 1 rfl
      have f0 := HS.out.2.2.2.1.frozen 0
      have f1 := HS.out.2.2.2.1.frozen 1
      go_wp2_with fail
      refine bodyPost_ret (results_cell_row rfl _ _ (w.heap.size + 1 + 1) 28 #[.int .i64 r1, .int .i64 r2] (0, 0) _ rfl ((HS.out.2.2.2.1.put 0 _).put 1 _).2 Try.underlying28 rfl (by kernel_rfl)) rfl ⟨rfl, below_set' (below_set' HS.out.1 HS.out.2.2.2.1.1 _) HS.out.2.2.2.1.1 _⟩

def TakSt (w : World) (g3 g4 g6 : Nat) (cs3 : Array Value) (y o : Int) (W : World) : Prop :=
  Below w.heap.size w W ∧ Box w g3 cs3 32 W ∧ Box w g4 #[.int .i64 y, .int .i64 o] 34 W ∧ Box w g6 #[.int .i64 0, .int .i64 0] 28 W
theorem TakSt.below {w W W1 : World} {g3 g4 g6 : Nat} {cs3 : Array Value} {y o : Int} (h : TakSt w g3 g4 g6 cs3 y o W) (hb : Below W.heap.size W W1) : TakSt w g3 g4 g6 cs3 y o W1 := ⟨below_step h.1 hb, h.2.1.below hb, h.2.2.1.below hb, h.2.2.2.below hb⟩

set_option maxRecDepth 100000 in
set_option maxHeartbeats 8000000 in
theorem lots_Taken.calls (k : Nat) (A0 : Option Addr) (c0 : Nat) (l0 : List Int) (A1 : Option Addr) (c1 : Nat) (l1 : List Int) (y o : Int) (r1 r2 r3 : Int) (w : World) (hr0 : Kd.C (Kd.int .i64) w A0 l0.length l0) (hc0 : l0.length ≤ c0) (hr1 : Kd.C (Kd.int .i64) w A1 l1.length l1) (hc1 : l1.length ≤ c1) (h : lots_Taken.f k l0 l1 y o = some (r1, r2, r3)) :
    Calls Try.prog 19 #[.agg #[.slice A0 l0.length c0, .slice A1 l1.length c1], .agg #[.int .i64 y, .int .i64 o]] w fun e w' => e = .returned (.tuple #[.agg #[.int .i64 r1, .int .i64 r2], .int .i64 r3]) ∧ Below w.heap.size w w' := by
  have hu32 := Try.underlying32
  have hu34 := Try.underlying34
  have hu28 := Try.underlying28
  have HR0 := Aside0.mk hr0
  have HC0 := Aside0.mk hc0
  have HR1 := Aside0.mk hr1
  have HC1 := Aside0.mk hc1
  clear hr0 hc0 hr1 hc1
  unfold lots_Taken.f at h
  replace h := Option.bind_eq_some_iff.mp h
  obtain ⟨b1, hb1, h⟩ := h
  have HV := Aside0.mk hb1
  clear hb1
  have B3 := Aside0.mk (((Box.new (Below.refl w.heap.size w) #[.slice A0 l0.length c0, .slice A1 l1.length c1] 32).alloc (.cells #[.int .i64 y, .int .i64 o] 34)).alloc (.cells #[.int .i64 0, .int .i64 0] 28))
  have B4 := Aside0.mk ((Box.new (below_alloc (Below.refl w.heap.size w) (.cells #[.slice A0 l0.length c0, .slice A1 l1.length c1] 32)) #[.int .i64 y, .int .i64 o] 34).alloc (.cells #[.int .i64 0, .int .i64 0] 28))
  have B6 := Aside0.mk (Box.new (below_alloc (below_alloc (Below.refl w.heap.size w) (.cells #[.slice A0 l0.length c0, .slice A1 l1.length c1] 32)) (.cells #[.int .i64 y, .int .i64 o] 34)) #[.int .i64 0, .int .i64 0] 28)
  have HB := Aside0.mk (below_alloc (below_alloc (below_alloc (Below.refl w.heap.size w) (.cells #[.slice A0 l0.length c0, .slice A1 l1.length c1] 32)) (.cells #[.int .i64 y, .int .i64 o] 34)) (.cells #[.int .i64 0, .int .i64 0] 28))
  rw [World.size_alloc] at B4
  rw [World.size_alloc, World.size_alloc] at B6
  go_enter Try.func19, Try.ntmps19
  go_wp2_with fail
  refine (lots_Plan_valid.calls k A0 c0 l0 A1 c1 l1 b1 _ (Kd.C_below HR0.out HB.out) HC0.out (Kd.C_below HR1.out HB.out) HC1.out HV.out).mono ?_
  rintro x w1 ⟨rfl, hb⟩
  have HS : Aside0 (TakSt w w.heap.size (w.heap.size + 1) (w.heap.size + 1 + 1) #[.slice A0 l0.length c0, .slice A1 l1.length c1] y o w1) := ⟨below_step HB.out hb, B3.out.below hb, B4.out.below hb, B6.out.below hb⟩
  clear B3 B4 B6 HB hb
  cases b1 with
  | false =>
    obtain ⟨rfl, rfl, rfl⟩ : 0 = r1 ∧ 0 = r2 ∧ 2 = r3 := by simpa using h
    clear h
    have q0 := HS.out.2.2.2.cell 0 rfl
    have q1 := HS.out.2.2.2.cell 1 rfl
    have f0 := HS.out.2.2.2.frozen 0
    have f1 := HS.out.2.2.2.frozen 1
    go_wp2_with fail
    refine bodyPost_ret (results_ct rfl _ _ (w.heap.size + 1 + 1) 28 #[.int .i64 0, .int .i64 0] (0, 0) _ rfl ((HS.out.2.2.2.put 0 _).put 1 _).2 Try.underlying28 rfl (by kernel_rfl)) rfl ⟨rfl, below_set' (below_set' HS.out.1 HS.out.2.2.2.1 _) HS.out.2.2.2.1 _⟩
  | true =>
    simp only [if_true] at h
    replace h := Option.bind_eq_some_iff.mp h
    obtain ⟨b2, hb2, h⟩ := h
    have HV2 := Aside0.mk hb2
    clear hb2
    have p0 := HS.out.2.2.1.cell 0 rfl
    have p1 := HS.out.2.2.1.cell 1 rfl
    go_wp2_with fail
    refine (lots_Chance_valid.calls y o b2 _ HV2.out).mono ?_
    rintro x w2 ⟨rfl, hb⟩
    replace HS := Aside0.mk (HS.out.below hb)
    clear p0 p1 hb
    cases b2 with
    | false =>
      obtain ⟨rfl, rfl, rfl⟩ : 0 = r1 ∧ 0 = r2 ∧ 2 = r3 := by simpa using h
      clear h
      have q0 := HS.out.2.2.2.cell 0 rfl
      have q1 := HS.out.2.2.2.cell 1 rfl
      have f0 := HS.out.2.2.2.frozen 0
      have f1 := HS.out.2.2.2.frozen 1
      go_wp2_with fail
      refine bodyPost_ret (results_ct rfl _ _ (w.heap.size + 1 + 1) 28 #[.int .i64 0, .int .i64 0] (0, 0) _ rfl ((HS.out.2.2.2.put 0 _).put 1 _).2 Try.underlying28 rfl (by kernel_rfl)) rfl ⟨rfl, below_set' (below_set' HS.out.1 HS.out.2.2.2.1 _) HS.out.2.2.2.1 _⟩
    | true =>
      simp only [if_true] at h
      replace h := Option.bind_eq_some_iff.mp h
      obtain ⟨⟨s1, s2⟩, hs, h⟩ := h
      obtain ⟨rfl, rfl, rfl⟩ : s1 = r1 ∧ s2 = r2 ∧ 0 = r3 := by simpa using h
      have HSUM := Aside0.mk hs
      clear hs h
      have q0 := HS.out.2.1.cell 0 rfl
      have q1 := HS.out.2.1.cell 1 rfl
      have p0 := HS.out.2.2.1.cell 0 rfl
      have p1 := HS.out.2.2.1.cell 1 rfl
      go_wp2_with fail
      refine (lots_sum.calls 56 ofTaken ofTaken_is k A0 c0 l0 A1 c1 l1 y o s1 s2 _ (Kd.C_below HR0.out HS.out.1) HC0.out (Kd.C_below HR1.out HS.out.1) HC1.out HSUM.out).mono ?_
      rintro x w3 ⟨rfl, hb⟩
      replace HS := Aside0.mk (HS.out.below hb)
      clear q0 q1 p0 p1 hb
      have q0 := HS.out.2.2.2.cell 0 rfl
      have q1 := HS.out.2.2.2.cell 1 rfl
      have f0 := HS.out.2.2.2.frozen 0
      have f1 := HS.out.2.2.2.frozen 1
      go_wp2_with fail
      refine bodyPost_ret (results_ct rfl _ _ (w.heap.size + 1 + 1) 28 #[.int .i64 s1, .int .i64 s2] (0, 0) _ rfl ((HS.out.2.2.2.put 0 _).put 1 _).2 Try.underlying28 rfl (by kernel_rfl)) rfl ⟨rfl, below_set' (below_set' HS.out.1 HS.out.2.2.2.1 _) HS.out.2.2.2.1 _⟩

end Go.Proofs.Ytdppnmfljfdhaaa.X
