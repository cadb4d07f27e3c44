/- The contracts of lots.single and lots.Short. -/
import Derived.Test.YtmlbdkkdejecmaaQHRepeat
import Derived.Test.YtmlbdkkdejecmaaQXP
set_option linter.unusedVariables false
set_option linter.unusedSimpArgs false
namespace Go.Proofs.Ytmlbdkkdejecmaa.X
open Go.RowKit Go.Proofs.YtmlbdkkdejecmaaW.PrintWords Go.Proofs.YtmlbdkkdejecmaaW.PrintLast Go.Proofs.YtmlbdkkdejecmaaW.PrintMore
attribute [local go_sem] Oper.semAt_some

def singleT (n c : Int) : List Int := (List.replicate n.toNat (-1)).set (n.toNat - 1) c
def singleL (n c : Int) : List Int := (List.replicate n.toNat (n + 1)).set (n.toNat - 1) (c + 1)
def lots_single.f (n c : Int) : Option (List Int × List Int) := if 1 ≤ n ∧ n ≤ 12 ∧ 0 ≤ c ∧ c < n then some (singleT n c, singleL n c) else none
theorem C_one' (g : Nat) (a : Int) (W : World) (h : W.cell? ⟨g, 0, none⟩ = some (.int .i64 a)) : Kd.C (Kd.int .i64) W (some ⟨g, 0, none⟩) ([a] : List Int).length [a] :=
  Kd.C_of_reads (d := 0) ⟨rfl, by simp, fun _ => ⟨_, rfl, fun j hj => by
    obtain rfl : j = 0 := by simpa using hj
    exact h⟩⟩
def sinT.T2 : Bool × List (List Nat × List Nat) := (true, [([], []), ([0], [0]), ([], []), ([2], [2]), ([], []), ([4], [4]), ([], []), ([6], [6]), ([], []), ([], []), ([9], [9]), ([1, 3, 0, 1, 2, 3, 8], [1, 3]), ([11, 8, 0, 1, 2, 3, 8], [8, 11]), ([5, 7, 0, 1, 2, 3, 4, 5, 6, 7, 8, 9, 10, 11, 12], [5, 7]), ([13, 10, 12, 0, 1, 2, 3, 4, 5, 6, 7, 8, 9, 10, 11, 12], [10, 13])])
def sinT.B2 : List Nat := [0, 1, 0, 4, 0, 16, 0, 64, 0, 0, 512, 271, 2319, 8191, 16383]
theorem sinT.tab2 : rtab .any (opsOf Try.f22 2) = sinT.T2 := by kernel_rfl
theorem sinT.bits2 : waitsOk sinT.T2.2 sinT.B2 = true := by kernel_rfl
def shoT.T7 : Bool × List (List Nat × List Nat) := (true, [([], []), ([0], [0]), ([], []), ([], []), ([3], [3]), ([], []), ([], []), ([], []), ([], []), ([7, 8], [7, 8]), ([9], [9]), ([6, 10], [6, 10]), ([11], [11]), ([], []), ([13], [13]), ([1, 2, 0, 1, 2, 6, 7, 8, 9, 10, 11, 12], [1, 2]), ([15, 12, 0, 1, 2, 6, 7, 8, 9, 10, 11, 12], [12, 15]), ([4, 5, 0, 1, 2, 3, 4, 5, 6, 7, 8, 9, 10, 11, 12, 13, 14, 15, 16], [4, 5]), ([17, 14, 16, 0, 1, 2, 3, 4, 5, 6, 7, 8, 9, 10, 11, 12, 13, 14, 15, 16], [14, 17])])
def shoT.B7 : List Nat := [0, 1, 0, 0, 8, 0, 0, 0, 0, 384, 896, 1984, 4032, 0, 8192, 8135, 40903, 131071, 262143]
theorem shoT.tab7 : rtab .any (opsOf Try.f6 7) = shoT.T7 := by kernel_rfl
theorem shoT.bits7 : waitsOk shoT.T7.2 shoT.B7 = true := by kernel_rfl
/-- The blocks of a plan that is made: its variable and its two rows. -/
structure Pl (w : World) (g4 g5 gT gL cT cL : Nat) (T L : List Int) (W : World) : Prop where
  hb : Below w.heap.size w W
  b4 : Box w g4 #[.slice none 0 0, .slice none 0 0] 25 W
  b5 : Box w g5 #[.slice (some ⟨gT, 0, none⟩) T.length cT, .slice (some ⟨gL, 0, none⟩) L.length cL] 25 W
  rT : Kd.R (Kd.int .i64) 3 W w.heap.size (fun _ => True) (.slice (some ⟨gT, 0, none⟩) T.length cT) T
  rL : Kd.R (Kd.int .i64) 3 W w.heap.size (fun _ => True) (.slice (some ⟨gL, 0, none⟩) L.length cL) L
section
variable {w W W1 : World} {g4 g5 gT gL cT cL : Nat} {T L : List Int}
theorem Pl.below (h : Pl w g4 g5 gT gL cT cL T L W) (hb : Below W.heap.size W W1) : Pl w g4 g5 gT gL cT cL T L W1 := ⟨below_step h.hb hb, h.b4.below hb, h.b5.below hb, Kd.R_below h.rT hb, Kd.R_below h.rL hb⟩
theorem Pl.n4T (h : Pl w g4 g5 gT gL cT cL T L W) : g4 ≠ gT := fun e => Kd.R_ne h.rT h.b4.2 (by decide) (by rw [e]; rfl)
theorem Pl.n5T (h : Pl w g4 g5 gT gL cT cL T L W) : g5 ≠ gT := fun e => Kd.R_ne h.rT h.b5.2 (by decide) (by rw [e]; rfl)
theorem Pl.n4L (h : Pl w g4 g5 gT gL cT cL T L W) : g4 ≠ gL := fun e => Kd.R_ne h.rL h.b4.2 (by decide) (by rw [e]; rfl)
theorem Pl.n5L (h : Pl w g4 g5 gT gL cT cL T L W) : g5 ≠ gL := fun e => Kd.R_ne h.rL h.b5.2 (by decide) (by rw [e]; rfl)
theorem Pl.putT (h : Pl w g4 g5 gT gL cT cL T L W) (hTL : gT ≠ gL) (i : Nat) (x : Int) : Pl w g4 g5 gT gL cT cL (T.set i x) L (W.setCell ⟨gT, i, none⟩ (.int .i64 x)) := by
  obtain ⟨h1, h2⟩ := Kd.R_put h.rT (i : Int) x
  rw [Int.toNat_natCast] at h1 h2
  refine ⟨below_set' (p := ⟨gT, i, none⟩) h.hb (Kd.R_base h.rT gT rfl) _, h.b4.far (p := ⟨gT, i, none⟩) h.n4T _, ?_, ?_, Kd.R_grown1 h.rL rfl h2 (fun e => hTL (by injection e))⟩
  · rw [List.length_set]; exact h.b5.far (p := ⟨gT, i, none⟩) h.n5T _
  · rw [List.length_set]; exact h1
theorem Pl.putL (h : Pl w g4 g5 gT gL cT cL T L W) (hTL : gT ≠ gL) (i : Nat) (x : Int) : Pl w g4 g5 gT gL cT cL T (L.set i x) (W.setCell ⟨gL, i, none⟩ (.int .i64 x)) := by
  obtain ⟨h1, h2⟩ := Kd.R_put h.rL (i : Int) x
  rw [Int.toNat_natCast] at h1 h2
  refine ⟨below_set' (p := ⟨gL, i, none⟩) h.hb (Kd.R_base h.rL gL rfl) _, h.b4.far (p := ⟨gL, i, none⟩) h.n4L _, ?_, Kd.R_grown1 h.rT rfl h2 (fun e => hTL (by injection e with e; exact e.symm)), ?_⟩
  · rw [List.length_set]; exact h.b5.far (p := ⟨gL, i, none⟩) h.n5L _
  · rw [List.length_set]; exact h1
/-- Its rows, behind the two stores into the variable that is handed back. -/
theorem Pl.rows (h : Pl w g4 g5 gT gL cT cL T L W) (hTL : gT ≠ gL) {n : Nat} (hT : T.length = n) (hL : L.length = n) :
    (∀ i j u v, Kd.R (Kd.int .i64) 3 ((W.setCell ⟨g4, i, none⟩ u).setCell ⟨g4, j, none⟩ v) w.heap.size (fun k_ => some k_ ≠ (Value.slice (some ⟨gL, 0, none⟩) n cL).ownBlock) (.slice (some ⟨gT, 0, none⟩) n cT) T) ∧
    (∀ i j u v, Kd.R (Kd.int .i64) 3 ((W.setCell ⟨g4, i, none⟩ u).setCell ⟨g4, j, none⟩ v) w.heap.size (fun k_ => some k_ ≠ (Value.slice (some ⟨gT, 0, none⟩) n cT).ownBlock) (.slice (some ⟨gL, 0, none⟩) n cL) L) := by
  have rT := h.rT
  have rL := h.rL
  rw [hT] at rT
  rw [hL] at rL
  have kT : ∀ k, some k = (Value.slice (some ⟨gT, 0, none⟩) n cT).ownBlock → k = gT := fun k hk => by injection hk
  have kL : ∀ k, some k = (Value.slice (some ⟨gL, 0, none⟩) n cL).ownBlock → k = gL := fun k hk => by injection hk
  refine ⟨fun i j u v => Kd.R_mono (Kd.R_far (Kd.R_far (Kd.R_tight rfl rT) (p := ⟨g4, i, none⟩) ?_ u) (p := ⟨g4, j, none⟩) ?_ v) ?_, fun i j u v => Kd.R_mono (Kd.R_far (Kd.R_far (Kd.R_tight rfl rL) (p := ⟨g4, i, none⟩) ?_ u) (p := ⟨g4, j, none⟩) ?_ v) ?_⟩
  · exact fun k hk e => h.n4T (e.symm.trans (kT k hk))
  · exact fun k hk e => h.n4T (e.symm.trans (kT k hk))
  · exact fun k hk e => hTL ((kT k hk).symm.trans (kL k e))
  · exact fun k hk e => h.n4L (e.symm.trans (kL k hk))
  · exact fun k hk e => h.n4L (e.symm.trans (kL k hk))
  · exact fun k hk e => hTL ((kT k e).symm.trans (kL k hk))
/-- What a region that draws is told: the plan's two cells. -/
def PlS (g5 gT gL cT cL n : Nat) (W : World) : Prop := W.cell? ⟨g5, 0, none⟩ = some (.slice (some ⟨gT, 0, none⟩) n cT) ∧ W.cell? ⟨g5, 1, none⟩ = some (.slice (some ⟨gL, 0, none⟩) n cL)
theorem Pl.s (h : Pl w g4 g5 gT gL cT cL T L W) {n : Nat} (hT : T.length = n) (hL : L.length = n) : PlS g5 gT gL cT cL n W := by
  subst hT
  exact ⟨h.b5.cell 0 rfl, by rw [← hL]; exact h.b5.cell 1 rfl⟩
end

set_option maxRecDepth 100000 in
set_option maxHeartbeats 8000000 in
theorem lots_single.calls (a0 a1 : Int) (r1 r2 : List Int) (w : World) (h : lots_single.f a0 a1 = some (r1, r2)) :
    Calls Try.prog 22 #[.int .i64 a0, .int .i64 a1] w fun e w' => ∃ v0_ v1_ : Value, e = .returned (.agg #[v0_, v1_]) ∧ Kd.R (Kd.int .i64) 3 w' w.heap.size (fun k_ => some k_ ≠ (v1_ : Value).ownBlock) v0_ r1 ∧ Kd.R (Kd.int .i64) 3 w' w.heap.size (fun k_ => some k_ ≠ (v0_ : Value).ownBlock) v1_ r2 ∧ Below w.heap.size w w' := by
  have hu25 := Try.underlying25
  unfold lots_single.f at h
  by_cases hv : 1 ≤ a0 ∧ a0 ≤ 12 ∧ 0 ≤ a1 ∧ a1 < a0
  case neg => rw [if_neg hv] at h; cases h
  rw [if_pos hv] at h
  obtain ⟨rfl, rfl⟩ : singleT a0 a1 = r1 ∧ singleL a0 a1 = r2 := by simpa using h
  clear h
  obtain ⟨h1, h2, h3, h4⟩ := hv
  obtain ⟨m, rfl⟩ : ∃ m : Nat, a0 = ((m + 1 : Nat) : Int) := ⟨a0.toNat - 1, by omega⟩
  have hm : m + 1 ≤ 12 := by omega
  have hw1 : IntKind.i64.wrap (((m + 1 : Nat) : Int) + 1) = ((m + 1 : Nat) : Int) + 1 := by rw [i64_w]; unfold wrap64; omega
  have HB0 : Aside0 (Below w.heap.size w ((w.alloc (.cells #[.slice none 0 0, .slice none 0 0] 25)).alloc (.cells #[.int .i64 (-1)] 3))) := ⟨below_alloc (below_alloc (Below.refl _ _) _) _⟩
  have HB4 : Aside0 (Box w w.heap.size #[.slice none 0 0, .slice none 0 0] 25 ((w.alloc (.cells #[.slice none 0 0, .slice none 0 0] 25)).alloc (.cells #[.int .i64 (-1)] 3))) := ⟨(Box.new (Below.refl _ _) _ 25).alloc _⟩
  have HBo := Aside0.mk (Box.new (below_alloc (Below.refl w.heap.size w) (.cells #[.slice none 0 0, .slice none 0 0] 25)) #[.int .i64 (-1)] 3)
  rw [World.size_alloc] at HBo
  go_enter Try.func22, Try.ntmps22
  go_wp2_with fail
  refine (repeat_calls (some ⟨w.heap.size + 1, 0, none⟩) 1 (-1) (m + 1) _ (C_one' _ _ _ (HBo.out.cell 0 rfl)) (by omega) (by omega) hm).mono ?_
  rintro e w1 ⟨v8, rfl, hR1, hb⟩
  obtain ⟨gT, cT, rfl, hgT0, hgT1, hgTc⟩ := Kd.R_form hR1 (by simp)
  replace HB0 := Aside0.mk (below_step HB0.out hb)
  replace HB4 := Aside0.mk (HB4.out.below hb)
  have HRT := Aside0.mk (Kd.R_lower hR1 (by simp; omega : w.heap.size ≤ _))
  clear hR1 hb HBo hgT0 hgTc
  rw [List.length_replicate] at HRT
  go_wp2_with fail
  have HB1 := Aside0.mk (below_alloc HB0.out (.cells #[.int .i64 ((m : Int) + 1 + 1)] 3))
  refine (repeat_calls (some ⟨w1.heap.size, 0, none⟩) 1 ((m : Int) + 1 + 1) (m + 1) _ (C_one' _ _ _ ((Box.new HB0.out #[.int .i64 ((m : Int) + 1 + 1)] 3).cell 0 rfl)) (by omega) (by omega) hm).mono ?_
  rintro e w2 ⟨v13, rfl, hR2, hb⟩
  obtain ⟨gL, cL, rfl, hgL0, hgL1, hgLc⟩ := Kd.R_form hR2 (by simp)
  have hTL : gT ≠ gL := by
    rw [World.size_alloc] at hgL0
    omega
  replace HRT := Aside0.mk (Kd.R_below (Kd.R_alloc HRT.out _) hb)
  replace HB4 := Aside0.mk ((HB4.out.alloc _).below hb)
  have HRL := Aside0.mk (Kd.R_lower hR2 HB1.out.size)
  replace HB0 := Aside0.mk (below_step HB1.out hb)
  clear hR2 hb HB1 hgL0 hgL1 hgLc hgT1
  rw [List.length_replicate] at HRL
  have HP : Aside0 (Pl w w.heap.size w2.heap.size gT gL cT cL (List.replicate (m + 1) (-1)) (List.replicate (m + 1) ((m : Int) + 1 + 1)) (w2.alloc (.cells #[.slice (some ⟨gT, 0, none⟩) (m + 1) cT, .slice (some ⟨gL, 0, none⟩) (m + 1) cL] 25)).drew) :=
    ⟨⟨below_drew (below_alloc HB0.out _), HB4.out.alloc _, by rw [List.length_replicate, List.length_replicate]; exact Box.new HB0.out _ 25, by rw [List.length_replicate]; exact Kd.R_drew (Kd.R_alloc HRT.out _), by rw [List.length_replicate]; exact Kd.R_drew (Kd.R_alloc HRL.out _)⟩⟩
  clear HRT HRL HB4 HB0
  have hw2 : wrap64 (m : Int) = (m : Int) := by unfold wrap64; omega
  have hw4 : wrap64 (a1 + 1) = a1 + 1 := by unfold wrap64; omega
  have hw3 : IntKind.i64.wrap (a1 + 1) = a1 + 1 := by rw [i64_w]; unfold wrap64; omega
  have hp1 : (0 ≤ (m : Int)) = True := eq_true (by omega)
  have hp2 : ((m : Int) < (m : Int) + 1) = True := eq_true (by omega)
  have hp3 : (m < m + 1) = True := eq_true (by omega)
  have had : ∀ g : Nat, (⟨g, 0, none⟩ : Addr).add m = ⟨g, m, none⟩ := fun g => add_plain g m
  go_wp2_with fail
  refine start_ (n := 15) (S := PlS w2.heap.size gT gL cT cL (m + 1)) (ds := []) #[false, false, false, false, false, false, false, false, false, false, false, false, false, false, false] (by kernel_rfl) rfl rfl (HP.out.s (by simp) (by simp)) (fun hHeld => ?_)
  refine with_tabW sinT.tab2 sinT.bits2 (fun HT_ HW_ => ?_)
  generalize (World.drew _) = W0 at HP hHeld ⊢
  refine pure_ (i := 0) (N := some 15) (v := ?_) (a' := ?_) #[true, false, false, false, false, false, false, false, false, false, false, false, false, false, false] rfl rfl (any_of HT_.out (by kernel_rfl)) (fun _ _ _ h => h) (Or.inl ⟨by rfl, ?_⟩) ?_ ?_
  rotate_left
  · intro w'
    go_simp
    with_reducible rfl
  rotate_left
  · simp only [Act.put, List.setIfInBounds_toArray, List.set_cons_zero, List.set_cons_succ, i64_w, i32_w]
    rfl
  refine take_ (i := 1) (N := some 16) (v := ?_) (a' := ?_) #[true, true, false, false, false, false, false, false, false, false, false, false, false, false, false] rfl rfl (take_ofW HT_.out HW_.out (by kernel_rfl)) (fun _ _ _ h => h) (Or.inl ⟨by rfl, ?_⟩) hHeld ?_ ?_
  rotate_left
  · rintro w' ⟨s0, s1⟩
    go_simp
    with_reducible rfl
  rotate_left
  · simp only [Act.put, List.setIfInBounds_toArray, List.set_cons_zero, List.set_cons_succ, i64_w, i32_w]
    rfl
  refine pure_ (i := 2) (N := some 17) (v := ?_) (a' := ?_) #[true, true, true, false, false, false, false, false, false, false, false, false, false, false, false] rfl rfl (any_of HT_.out (by kernel_rfl)) (fun _ _ _ h => h) (Or.inl ⟨by rfl, ?_⟩) ?_ ?_
  rotate_left
  · intro w'
    go_simp
    with_reducible rfl
  rotate_left
  · simp only [Act.put, List.setIfInBounds_toArray, List.set_cons_zero, List.set_cons_succ, i64_w, i32_w]
    rfl
  refine pure_ (i := 3) (N := some 18) (v := ?_) (a' := ?_) #[true, true, true, true, false, false, false, false, false, false, false, false, false, false, false] rfl rfl (any_of HT_.out (by kernel_rfl)) (fun _ _ _ h => h) (Or.inl ⟨by rfl, ?_⟩) ?_ ?_
  rotate_left
  · intro w'
    go_simp
    with_reducible rfl
  rotate_left
  · simp only [Act.put, List.setIfInBounds_toArray, List.set_cons_zero, List.set_cons_succ, i64_w, i32_w]
    rfl
  refine pure_ (i := 4) (N := some 19) (v := ?_) (a' := ?_) #[true, true, true, true, true, false, false, false, false, false, false, false, false, false, false] rfl rfl (any_of HT_.out (by kernel_rfl)) (fun _ _ _ h => h) (Or.inl ⟨by rfl, ?_⟩) ?_ ?_
  rotate_left
  · intro w'
    go_simp
    with_reducible rfl
  rotate_left
  · simp only [Act.put, List.setIfInBounds_toArray, List.set_cons_zero, List.set_cons_succ, i64_w, i32_w]
    rfl
  refine take_ (i := 5) (N := some 20) (v := ?_) (a' := ?_) #[true, true, true, true, true, true, false, false, false, false, false, false, false, false, false] rfl rfl (take_ofW HT_.out HW_.out (by kernel_rfl)) (fun _ _ _ h => h) (Or.inl ⟨by rfl, ?_⟩) hHeld ?_ ?_
  rotate_left
  · rintro w' ⟨s0, s1⟩
    go_simp
    with_reducible rfl
  rotate_left
  · simp only [Act.put, List.setIfInBounds_toArray, List.set_cons_zero, List.set_cons_succ, i64_w, i32_w]
    rfl
  refine pure_ (i := 6) (N := some 21) (v := ?_) (a' := ?_) #[true, true, true, true, true, true, true, false, false, false, false, false, false, false, false] rfl rfl (any_of HT_.out (by kernel_rfl)) (fun _ _ _ h => h) (Or.inl ⟨by rfl, ?_⟩) ?_ ?_
  rotate_left
  · intro w'
    go_simp
    with_reducible rfl
  rotate_left
  · simp only [Act.put, List.setIfInBounds_toArray, List.set_cons_zero, List.set_cons_succ, i64_w, i32_w]
    rfl
  refine pure_ (i := 7) (N := some 22) (v := ?_) (a' := ?_) #[true, true, true, true, true, true, true, true, false, false, false, false, false, false, false] rfl rfl (any_of HT_.out (by kernel_rfl)) (fun _ _ _ h => h) (Or.inl ⟨by rfl, ?_⟩) ?_ ?_
  rotate_left
  · intro w'
    go_simp
    with_reducible rfl
  rotate_left
  · simp only [Act.put, List.setIfInBounds_toArray, List.set_cons_zero, List.set_cons_succ, i64_w, i32_w]
    rfl
  refine pure_ (i := 8) (N := some 23) (v := ?_) (a' := ?_) #[true, true, true, true, true, true, true, true, true, false, false, false, false, false, false] rfl rfl (any_of HT_.out (by kernel_rfl)) (fun _ _ _ h => h) (Or.inl ⟨by rfl, ?_⟩) ?_ ?_
  rotate_left
  · intro w'
    go_simp
    with_reducible rfl
  rotate_left
  · simp only [Act.put, List.setIfInBounds_toArray, List.set_cons_zero, List.set_cons_succ, i64_w, i32_w]
    rfl
  refine pure_ (i := 9) (N := some 24) (v := ?_) (a' := ?_) #[true, true, true, true, true, true, true, true, true, true, false, false, false, false, false] rfl rfl (any_of HT_.out (by kernel_rfl)) (fun _ _ _ h => h) (Or.inl ⟨by rfl, ?_⟩) ?_ ?_
  rotate_left
  · intro w'
    go_simp
    with_reducible rfl
  rotate_left
  · simp only [Act.put, List.setIfInBounds_toArray, List.set_cons_zero, List.set_cons_succ, i64_w, i32_w]
    rfl
  refine pure_ (i := 10) (N := some 25) (v := ?_) (a' := ?_) #[true, true, true, true, true, true, true, true, true, true, true, false, false, false, false] rfl rfl (any_of HT_.out (by kernel_rfl)) (fun _ _ _ h => h) (Or.inl ⟨by rfl, ?_⟩) ?_ ?_
  rotate_left
  · intro w'
    go_simp
    with_reducible rfl
  rotate_left
  · simp only [Act.put, List.setIfInBounds_toArray, List.set_cons_zero, List.set_cons_succ, i64_w, i32_w]
    rfl
  refine pure_ (i := 11) (N := some 26) (v := ?_) (a' := ?_) #[true, true, true, true, true, true, true, true, true, true, true, true, false, false, false] rfl rfl (any_of HT_.out (by kernel_rfl)) (fun _ _ _ h => h) (Or.inl ⟨by rfl, ?_⟩) ?_ ?_
  rotate_left
  · intro w'
    go_simp
    with_reducible rfl
  rotate_left
  · simp only [Act.put, List.setIfInBounds_toArray, List.set_cons_zero, List.set_cons_succ, i64_w, i32_w]
    rfl
  refine one_ (i := 12) (N := none) #[true, true, true, true, true, true, true, true, true, true, true, true, true, false, false] rfl rfl (one_of HT_.out (by kernel_rfl)) (by decide) (fun K hK => ?_)
  have hcell := Kd.R_cell (d := (0 : Int)) HP.out.rT (m : Int) (by omega) (by rw [List.length_replicate]; omega)
  rw [Int.toNat_natCast] at hcell
  have hc0 := hcell.1
  have hf0 := hcell.2
  clear hcell
  refine skip_ (w1 := ?_) (by rfl) rfl ?_ ?_
  rotate_left
  · go_simp
    rfl
  refine hK.out _ _ (((HP.out.putT hTL m a1).s (by simp) (by simp))) (fun hHeld => ?_)
  clear hK K
  replace HP := Aside0.mk (HP.out.putT hTL m a1)
  clear hc0 hf0
  generalize (W0.setCell _ _) = W1 at HP hHeld ⊢
  refine pure_ (i := 13) (N := some 27) (v := ?_) (a' := ?_) #[true, true, true, true, true, true, true, true, true, true, true, true, true, true, false] rfl rfl (any_of HT_.out (by kernel_rfl)) (fun _ _ _ h => h) (Or.inl ⟨by rfl, ?_⟩) ?_ ?_
  rotate_left
  · intro w'
    go_simp
    with_reducible rfl
  rotate_left
  · simp only [Act.put, List.setIfInBounds_toArray, List.set_cons_zero, List.set_cons_succ, i64_w, i32_w]
    rfl
  refine one_ (i := 14) (N := none) #[true, true, true, true, true, true, true, true, true, true, true, true, true, true, true] rfl rfl (one_of HT_.out (by kernel_rfl)) (by decide) (fun K hK => ?_)
  have hcell := Kd.R_cell (d := (0 : Int)) HP.out.rL (m : Int) (by omega) (by rw [List.length_replicate]; omega)
  rw [Int.toNat_natCast] at hcell
  have hc0 := hcell.1
  have hf0 := hcell.2
  clear hcell
  refine skip_ (w1 := ?_) (by rfl) rfl ?_ ?_
  rotate_left
  · go_simp
    rfl
  refine hK.out _ _ (((HP.out.putL hTL m (a1 + 1)).s (by simp) (by simp))) (fun hHeld => ?_)
  clear hK K
  replace HP := Aside0.mk (HP.out.putL hTL m (a1 + 1))
  clear hc0 hf0
  refine done_ (done_of HT_.out (by kernel_rfl)) ?_
  generalize (W1.setCell _ _) = W2 at HP hHeld ⊢
  have c50 := hHeld.1
  have c51 := hHeld.2
  have c40 := HP.out.b4.cell 0 rfl
  have c41 := HP.out.b4.cell 1 rfl
  have f40 := HP.out.b4.frozen 0
  have f41 := HP.out.b4.frozen 1
  clear hHeld
  go_wp2_with fail
  obtain ⟨hT, hL⟩ := HP.out.rows hTL (n := m + 1) (by simp) (by simp)
  have eT : singleT ((m + 1 : Nat) : Int) a1 = (List.replicate (m + 1) (-1)).set m a1 := by simp [singleT]
  have eL : singleL ((m + 1 : Nat) : Int) a1 = (List.replicate (m + 1) ((m : Int) + 1 + 1)).set m (a1 + 1) := by simp [singleL]
  refine bodyPost_ret (results_cell_row rfl _ _ w.heap.size 25 #[.slice (some ⟨gT, 0, none⟩) (m + 1) cT, .slice (some ⟨gL, 0, none⟩) (m + 1) cL] (0, 0) _ rfl ((HP.out.b4.put 0 _).put 1 _).2 Try.underlying25 rfl (by kernel_rfl)) rfl ⟨_, _, rfl, ?_, ?_, below_set' (below_set' HP.out.hb (Nat.le_refl _) _) (Nat.le_refl _) _⟩
  · rw [eT]; exact hT _ _ _ _
  · rw [eL]; exact hL _ _ _ _
end Go.Proofs.Ytmlbdkkdejecmaa.X
