/- The contract of slices.Repeat of one number, at most twelve times. -/
import Derived.Test.YtmlbdkkdejecmaaQHBoxes
import Derived.Laws.CopyRow
import Derived.Laws.MakeOwn
import Derived.Ground.NamesProg
import Derived.Shelf.Lay
import Derived.Shelf.Bits.Mul64
set_option linter.unusedVariables false
set_option linter.unusedSimpArgs false
namespace Go.Proofs
open Go.Shelf Go.Lib Go.RowKit
shelf_lay Lays.n212 Nm 212 at Try as Try.lays212
end Go.Proofs
namespace Go.Proofs.Ytmlbdkkdejecmaa.X
open Go.RowKit Go.Proofs.YtmlbdkkdejecmaaW.PrintWords Go.Proofs.YtmlbdkkdejecmaaW.PrintLast Go.Proofs.YtmlbdkkdejecmaaW.PrintMore
attribute [local go_sem] Oper.semAt_some

theorem mul_one_n (n : Nat) (hn : n ≤ 12) (w : World) : Calls Try.prog 68 #[.int .u64 1, .int .u64 n] w fun e w' => e = .returned (.tuple #[.int .u64 0, .int .u64 n]) ∧ w' = w := by
  refine (Go.Proofs.Any.bits_Mul Try.lays212 1 n (by omega) (by omega) w).mono ?_
  rintro e w' ⟨rfl, rfl⟩
  refine ⟨?_, rfl⟩
  rw [Nat.one_mul, Nat.div_eq_of_lt (by omega), Nat.mod_eq_of_lt (by omega)]
  rfl
/-- The first m of n are x, the others nought. -/
def rowX (n m : Nat) (x : Int) : List Value := List.replicate m (.int .i64 x) ++ List.replicate (n - m) (.int .i64 0)
theorem made_zeros (n : Nat) : madeCells (Value.int .i64 0).cells n = (rowX n 0 0).toArray := by
  apply Array.ext
  · simp [madeCells, rowX]
  · intro i h1 h2
    simp [madeCells, rowX, Value.cells]
    rw [Nat.mod_one]; rfl
theorem u64_n (n : Nat) (hn : n ≤ 12) : IntKind.u64.wrap (n : Int) = n := by rw [IntKind.wrap_u64]; omega
theorem rowX_put (n m d : Nat) (x : Int) (h : m + d ≤ n) : ((rowX n m x).toArray.toList.take m ++ List.replicate d (Value.int .i64 x) ++ (rowX n m x).toArray.toList.drop (m + d)).toArray = (rowX n (m + d) x).toArray := by
  congr 1
  simp only [rowX]
  rw [List.take_left' (by simp), List.drop_append, List.drop_of_length_le (by simp), List.nil_append, List.length_replicate, List.drop_replicate, show n - m - (m + d - m) = n - (m + d) by omega, List.replicate_append_replicate]
theorem rowX_zero (n : Nat) (x : Int) : rowX n 0 x = rowX n 0 0 := by simp [rowX]
theorem rowX_at (n m j : Nat) (x : Int) (h : j < m) : (rowX n m x).toArray[j]? = some (.int .i64 x) := by
  simp [rowX, List.getElem?_append, h]
theorem cut_from (g n m : Nat) (h : m < n) (W : World) : (Instr.slice 23 (.slice (some ⟨g, 0, none⟩) n n) (some (.int .i64 (m : Int))) none none).run Try.prog W = .ok (.slice (some ⟨g, m, none⟩) (n - m) (n - m)) W := by
  obtain ⟨i0, hi, hz0, hz1, hz2⟩ := info_parts info3
  have hel : Try.prog.elem 23 = 3 := by simp [Program.elem, Try.underlying23]
  have hu : Try.prog.underlying 23 = some (.slice (Try.prog.elem 23)) := by rw [hel]; exact Try.underlying23
  rw [run_slice_l W 23 _ n n hu .i64 (m : Int) (Int.natCast_nonneg _) (by omega), hel]
  have hne : ¬ n = m := by omega
  simp [sizeOf, typeInfo, hi, hz1, sliced, Result.andThen, Addr.add, hne]
  exact fun h => h.symm
theorem cut_to (g n m : Nat) (h : m ≤ n) (W : World) : (Instr.slice 23 (.slice (some ⟨g, 0, none⟩) n n) none (some (.int .i64 (m : Int))) none).run Try.prog W = .ok (.slice (some ⟨g, 0, none⟩) m n) W := by
  obtain ⟨i0, hi, hz0, hz1, hz2⟩ := info_parts info3
  have hel : Try.prog.elem 23 = 3 := by simp [Program.elem, Try.underlying23]
  have hu : Try.prog.underlying 23 = some (.slice (Try.prog.elem 23)) := by rw [hel]; exact Try.underlying23
  rw [run_slice_h W 23 _ n n hu .i64 (m : Int) (Int.natCast_nonneg _) (by omega), hel]
  simp [sizeOf, typeInfo, hi, hz1, sliced, Result.andThen, Addr.add]
/-- A copy whose run is known, in a region that draws, and in one that doesn't. -/
theorem copyR_ {P : Program} {ops : Array Oper} {Q : Exit → Act → World → Prop} {oi : Oper} {N : Option Tmp} {a : Act} {w w' : World} {K : Act → World → Prop} {d s : Operand} {t t' : TypeId} {v u v' : Value} (hw : Region.wanted oi (yielded ops a.tmps) = true) (hN : oi.dst = N)
    (ho : oi.op = .call { callee := .builtin .copy, args := #[d, s], argTypes := #[t, t'] }) (hd : a.eval d = v) (hs : a.eval s = u) (hr : (Builtin.copy_ #[t, t'] oi.type #[v, u]).run P w = .ok v' w') (h : K (a.put N v') w') :
    if Region.wanted oi (yielded ops a.tmps) = true then Oper.wp P oi a w K Q else K (a.put N undef) w := by
  rw [if_pos hw]
  subst hN
  unfold Oper.wp execOp
  simp only [ho, resolve, invoke, builtin, Sem.run_bind, Sem.run_pure, Result.andThen_ok, List.map_toArray, List.map_cons, List.map_nil, hd, hs, hr]
  exact h
/-- The copy's run over the row, from its first m to what lies behind them. -/
theorem copy_run (g n m d : Nat) (x : Int) (W w0 : World) (ty : TypeId) (a : Addr) (sLen sCap : Nat) (hB : Box w0 g (rowX n m x).toArray 3 W) (hd : d = Nat.min sLen (n - m)) (hsrc : ∀ j, j < d → W.cell? (a.add j) = some (.int .i64 x)) (hmd : m + d ≤ n) :
    (Builtin.copy_ #[23, 23] ty #[.slice (some ⟨g, m, none⟩) (n - m) (n - m), .slice (some a) sLen sCap]).run Try.prog W = .ok (goInt d) (W.setRow g (rowX n (m + d) x).toArray) := by
  obtain ⟨i0, hi, hz0, hz1, hz2⟩ := info_parts info3
  have h := run_copy_row (P := Try.prog) W 23 23 ty 3 g m (n - m) (n - m) a sLen sCap (rowX n m x).toArray 3 (List.replicate d (.int .i64 x)) Try.underlying23 (by rw [hi]; simp [hz1]) hB.2 (by simp [hd]) (fun j v hv => by
    obtain ⟨hj, rfl⟩ : j < d ∧ (Value.int .i64 x) = v := by simpa [List.getElem?_replicate] using hv
    exact hsrc j hj) (by simp [rowX]; omega) (fun v hv => by obtain ⟨_, rfl⟩ := List.mem_replicate.1 hv; rfl)
  rw [List.length_replicate, rowX_put n m d x hmd] at h
  exact h
theorem box_row {w0 W : World} {g : Nat} {cs cs' : Array Value} {t : TypeId} (h : Box w0 g cs t W) : Box w0 g cs' t (W.setRow g cs') := ⟨h.1, setRow_heap W g cs cs' t (0, 0) h.2⟩
theorem below_row {w0 W : World} {g : Nat} {cs : Array Value} (h : Below w0.heap.size w0 W) (hg : w0.heap.size ≤ g) : Below w0.heap.size w0 (W.setRow g cs) :=
  h.trans ⟨rfl, rfl, rfl, by simp [World.setRow], fun k hk => setRow_other W g k cs (by omega)⟩
theorem box_owns {w0 W : World} {g n : Nat} {x : Int} (h : Box w0 g (rowX n n x).toArray 3 W) (hn : n ≤ 12) : Kd.R (Kd.int .i64) 3 W w0.heap.size (fun _ => True) (.slice (some ⟨g, 0, none⟩) n n) (List.replicate n x) := by
  refine Kd.R_of_own ?_ (fun _ _ => trivial)
  refine ⟨by simp [encs], .inr ⟨g, n, _, by rw [List.length_replicate], h.1, h.2, by rw [List.length_replicate]; exact Nat.le_refl _, by unfold maxLen; omega, by simp [rowX], ?_⟩⟩
  simp [encs, rowX]
def repT.T9 : Bool × List (List Nat × List Nat) := (true, [([], []), ([], []), ([], []), ([1, 2], [1, 2]), ([], []), ([], []), ([4, 5], [4, 5]), ([3, 6], [3, 6]), ([0, 7], [0, 7]), ([8, 7, 0, 1, 2, 3, 4, 5, 6, 7, 8], [0, 2, 5, 8])])
def repT.B9 : List Nat := [0, 0, 0, 6, 0, 0, 48, 126, 255, 511]
theorem repT.tab9 : rtab .any (opsOf Try.f46 9) = repT.T9 := by kernel_rfl
theorem repT.bits9 : waitsOk repT.T9.2 repT.B9 = true := by kernel_rfl

set_option maxRecDepth 100000 in
set_option maxHeartbeats 8000000 in
theorem repeat_calls (A : Option Addr) (c : Nat) (x : Int) (n : Nat) (w : World) (hr : Kd.C (Kd.int .i64) w A ([x] : List Int).length [x]) (hc : 1 ≤ c) (h1 : 1 ≤ n) (hn : n ≤ 12) :
    Calls Try.prog 46 #[.slice A 1 c, .int .i64 n] w fun e w' => ∃ v, e = .returned v ∧ Kd.R (Kd.int .i64) 3 w' w.heap.size (fun _ => True) v (List.replicate n x) ∧ Below w.heap.size w w' := by
  obtain ⟨ad, rfl, hx0⟩ := Kd.at_int hr 0 (by omega) (by simp)
  have HX : Aside0 (w.cell? ad = some (.int .i64 x)) := ⟨by simpa [rd, Addr.add] using hx0⟩
  clear hx0 hr
  have hd0 : decide ((n : Int) < 0) = false := decide_eq_false (by omega)
  have hun := u64_n n hn
  have hin : IntKind.i64.wrap (n : Int) = n := by rw [i64_w]; unfold wrap64; omega
  have hd1 : decide ((9223372036854775807 : Int) < (n : Int)) = false := decide_eq_false (by omega)
  have hmk : ∀ W : World, (Instr.makeSlice 23 (.int .i64 (n : Int)) (.int .i64 (n : Int))).run Try.prog W = .ok (.slice (some ⟨W.heap.size, 0, none⟩) n n) (W.alloc (.cells (rowX n 0 x).toArray 3)) := fun W => by
    obtain ⟨i0, hi, hz0, hz1, hz2⟩ := info_parts info3
    rw [run_makeSlice (P := Try.prog) (w := W) 23 3 i0 (.int .i64 0) Try.underlying23 hi hz0 .i64 .i64 n n (by omega) (by omega) (by rw [hz1]; omega) (by rw [hz2]; omega) (by omega), hz1, Int.toNat_natCast, Nat.mul_one, made_zeros, rowX_zero n x]
  have HB0 : Aside0 (Below w.heap.size w (w.alloc (.cells (rowX n 0 x).toArray 3))) := ⟨below_alloc (Below.refl _ _) _⟩
  have HB1 : Aside0 (Box w w.heap.size (rowX n 0 x).toArray 3 (w.alloc (.cells (rowX n 0 x).toArray 3))) := ⟨Box.new (Below.refl _ _) _ 3⟩
  have HCR := Aside0.mk (copy_run w.heap.size n 0 1 x _ w 3 ad 1 c HB1.out (by show 1 = min 1 (n - 0); omega) (fun j hj => by
    obtain rfl : j = 0 := by omega
    exact (HB0.out.cell (World.block_lt_of_cell? w _ (show w.cell? (ad.add 0) = some (.int .i64 x) from HX.out))).trans HX.out) (by omega))
  have HB2 : Aside0 (Box w w.heap.size (rowX n 1 x).toArray 3 ((w.alloc (.cells (rowX n 0 x).toArray 3)).setRow w.heap.size (rowX n 1 x).toArray)) := ⟨box_row HB1.out⟩
  have HB3 : Aside0 (Below w.heap.size w ((w.alloc (.cells (rowX n 0 x).toArray 3)).setRow w.heap.size (rowX n 1 x).toArray)) := ⟨below_row HB0.out (Nat.le_refl _)⟩
  rw [Nat.zero_add, Nat.sub_zero] at HCR
  go_enter Try.func46, Try.ntmps46
  go_wp2_with fail
  refine (mul_one_n n hn _).mono ?_
  rintro e w1 ⟨rfl, rfl⟩
  have hcr : (Builtin.copy_ #[23, 23] 3 #[.slice (some ⟨w1.heap.size, 0, none⟩) n n, .slice (some ad) 1 c]).run Try.prog (w1.alloc (.cells (rowX n 0 x).toArray 3)) = .ok (.int .i64 1) _ := HCR.out
  go_wp2_with fail
  clear hcr HCR HB0 HB1 hmk
  go_loopw [8] (fun v8 W => ∃ m : Nat, v8 = .int .i64 (m : Int) ∧ 1 ≤ m ∧ m ≤ n ∧ Aside0 (Box w1 w1.heap.size (rowX n m x).toArray 3 W) ∧ Aside0 (Below w1.heap.size w1 W)) (fun v8 _ => n - (intOf v8).toNat)
  case atStart => exact ⟨1, rfl, Nat.le_refl _, h1, HB2, HB3⟩
  case round =>
    clear HB2 HB3
    obtain ⟨m, rfl, hm1, hmn, HBx, HBl⟩ := hrel
    by_cases hlt : m < n
    · have hdl : decide ((m : Int) < (n : Int)) = true := decide_eq_true (by omega)
      go_wp2_with fail
      have hcf := cut_from w1.heap.size n m hlt
      have hct := cut_to w1.heap.size n m hmn
      have HCP := Aside0.mk (copy_run w1.heap.size n m (min m (n - m)) x wr.drew w1 3 ⟨w1.heap.size, 0, none⟩ m n HBx.out rfl (fun j hj => by
        rw [add_plain]
        exact HBx.out.cell j (rowX_at n m j x (by omega))) (by omega))
      refine start_ (n := 10) (S := (fun _ => True)) (ds := []) #[false, false, false, false, false, false, false, false, false, false] (by kernel_rfl) rfl rfl trivial (fun hHeld => ?_)
      refine with_tabW repT.tab9 repT.bits9 (fun HT_ HW_ => ?_)
      refine pure_ (i := 0) (N := some 38) (v := ?_) (a' := ?_) #[true, false, false, false, false, false, false, false, false, false] rfl rfl (any_of HT_.out (by kernel_rfl)) (fun _ _ _ h => h) (Or.inl ⟨by rfl, ?_⟩) ?_ ?_
      rotate_left
      · intro w'
        go_simp
        with_reducible rfl
      rotate_left
      · simp only [Act.put, List.setIfInBounds_toArray, List.set_cons_zero, List.set_cons_succ, i64_w, i32_w]
        rfl
      refine pure_ (i := 1) (N := some 39) (v := ?_) (a' := ?_) #[true, true, false, false, false, false, false, false, false, false] rfl rfl (any_of HT_.out (by kernel_rfl)) (fun _ _ _ h => h) (Or.inl ⟨by rfl, ?_⟩) ?_ ?_
      rotate_left
      · intro w'
        go_simp
        with_reducible rfl
      rotate_left
      · simp only [Act.put, List.setIfInBounds_toArray, List.set_cons_zero, List.set_cons_succ, i64_w, i32_w]
        rfl
      refine pure_ (i := 2) (N := some 40) (v := ?_) (a' := ?_) #[true, true, true, false, false, false, false, false, false, false] rfl rfl (any_of HT_.out (by kernel_rfl)) (fun _ _ _ h => h) (Or.inl ⟨by rfl, ?_⟩) ?_ ?_
      rotate_left
      · intro w'
        go_simp
        with_reducible rfl
      rotate_left
      · simp only [Act.put, List.setIfInBounds_toArray, List.set_cons_zero, List.set_cons_succ, i64_w, i32_w]
        rfl
      refine pure_ (i := 3) (N := some 41) (v := ?_) (a' := ?_) #[true, true, true, true, false, false, false, false, false, false] rfl rfl (any_of HT_.out (by kernel_rfl)) (fun _ _ _ h => h) (Or.inl ⟨by rfl, ?_⟩) ?_ ?_
      rotate_left
      · intro w'
        go_simp
        with_reducible rfl
      rotate_left
      · simp only [Act.put, List.setIfInBounds_toArray, List.set_cons_zero, List.set_cons_succ, i64_w, i32_w]
        rfl
      refine pure_ (i := 4) (N := some 42) (v := ?_) (a' := ?_) #[true, true, true, true, true, false, false, false, false, false] rfl rfl (any_of HT_.out (by kernel_rfl)) (fun _ _ _ h => h) (Or.inl ⟨by rfl, ?_⟩) ?_ ?_
      rotate_left
      · intro w'
        go_simp
        with_reducible rfl
      rotate_left
      · simp only [Act.put, List.setIfInBounds_toArray, List.set_cons_zero, List.set_cons_succ, i64_w, i32_w]
        rfl
      refine pure_ (i := 5) (N := some 43) (v := ?_) (a' := ?_) #[true, true, true, true, true, true, false, false, false, false] rfl rfl (any_of HT_.out (by kernel_rfl)) (fun _ _ _ h => h) (Or.inl ⟨by rfl, ?_⟩) ?_ ?_
      rotate_left
      · intro w'
        go_simp
        with_reducible rfl
      rotate_left
      · simp only [Act.put, List.setIfInBounds_toArray, List.set_cons_zero, List.set_cons_succ, i64_w, i32_w]
        rfl
      refine pure_ (i := 6) (N := some 44) (v := ?_) (a' := ?_) #[true, true, true, true, true, true, true, false, false, false] rfl rfl (any_of HT_.out (by kernel_rfl)) (fun _ _ _ h => h) (Or.inl ⟨by rfl, ?_⟩) ?_ ?_
      rotate_left
      · intro w'
        go_simp
        with_reducible rfl
      rotate_left
      · simp only [Act.put, List.setIfInBounds_toArray, List.set_cons_zero, List.set_cons_succ, i64_w, i32_w]
        rfl
      refine one_ (i := 7) (N := some 45) #[true, true, true, true, true, true, true, true, false, false] rfl rfl (one_of HT_.out (by kernel_rfl)) (by decide) (fun K hK => ?_)
      refine copyR_ (by rfl) rfl rfl rfl rfl HCP.out ?_
      refine hK.out _ _ trivial (fun _ => ?_)
      clear hK K
      refine norm_ (a' := ?_) ?_ ?_
      rotate_left
      · show Act.put _ (some 45) _ = _
        simp only [Act.put, List.setIfInBounds_toArray, List.set_cons_zero, List.set_cons_succ, i64_w, i32_w]
        rfl
      refine pure_ (i := 8) (N := some 46) (v := ?_) (a' := ?_) #[true, true, true, true, true, true, true, true, true, false] rfl rfl (any_of HT_.out (by kernel_rfl)) (fun _ _ _ h => h) (Or.inl ⟨by rfl, ?_⟩) ?_ ?_
      rotate_left
      · intro w'
        go_simp
        with_reducible rfl
      rotate_left
      · simp only [Act.put, List.setIfInBounds_toArray, List.set_cons_zero, List.set_cons_succ, i64_w, i32_w]
        rfl
      refine pure_ (i := 9) (N := some 8) (v := ?_) (a' := ?_) #[true, true, true, true, true, true, true, true, true, true] rfl rfl (any_of HT_.out (by kernel_rfl)) (fun _ _ _ h => h) (Or.inl ⟨by rfl, ?_⟩) ?_ ?_
      rotate_left
      · intro w'
        go_simp
        with_reducible rfl
      rotate_left
      · simp only [Act.put, List.setIfInBounds_toArray, List.set_cons_zero, List.set_cons_succ, i64_w, i32_w]
        rfl
      refine done_ (done_of HT_.out (by kernel_rfl)) ?_
      have hw : wrap64 ((m : Int) + ((min m (n - m) : Nat) : Int)) = ((m + min m (n - m) : Nat) : Int) := by unfold wrap64; omega
      rw [hw]
      go_wp2_with fail
      exact ⟨⟨m + min m (n - m), rfl, by omega, by omega, ⟨box_row (W := wr.drew) HBx.out⟩, ⟨below_row (W := wr.drew) (below_drew HBl.out) (Nat.le_refl _)⟩⟩, by simp only [intOf]; omega⟩
    · have hdl : decide ((m : Int) < (n : Int)) = false := decide_eq_false (by omega)
      obtain rfl : m = n := by omega
      go_wp2_with fail
      go_ret
      exact ⟨_, rfl, box_owns HBx.out hn, HBl.out⟩
end Go.Proofs.Ytmlbdkkdejecmaa.X
