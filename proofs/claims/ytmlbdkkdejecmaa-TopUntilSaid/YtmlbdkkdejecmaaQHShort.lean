/- The contract of lots.Short. -/
import Derived.Test.YtmlbdkkdejecmaaQHSingle
set_option linter.unusedVariables false
set_option linter.unusedSimpArgs false
namespace Go.Proofs.Ytmlbdkkdejecmaa.X
open Go.RowKit Go.Proofs.YtmlbdkkdejecmaaW.PrintWords Go.Proofs.YtmlbdkkdejecmaaW.PrintLast Go.Proofs.YtmlbdkkdejecmaaW.PrintMore
attribute [local go_sem] Oper.semAt_some max2_int min2_int max_two min_two

def isS (n c : Int) : Bool := decide (1 ≤ n ∧ n ≤ 12 ∧ 0 ≤ c ∧ c < n)
theorem isS_ok (n c : Int) : lots_isSingle.f n c = some (isS n c) := by
  unfold lots_isSingle.f isS
  repeat' split
  all_goals simp only [Option.some.injEq]
  all_goals first
    | (symm; apply decide_eq_false; omega)
    | (apply decide_eq_decide.2; omega)
/-- The thresholds of the plan cut short, at place i. -/
def stT (n c : Int) (i : Nat) : Int := mx (c - (n - i - 1)) (-1)
/-- The rows when the first j places are done. -/
def shT (n c : Int) (j : Nat) : List Int := (List.range n.toNat).map fun i => if i < j then stT n c i else (singleT n c).getD i 0
def shL (n c : Int) (j : Nat) : List Int := (List.range n.toNat).map fun i => if i < j then c + 1 else (singleL n c).getD i 0
def lots_Short.f (n c : Int) : Option (List Int × List Int × Int) := if isS n c = true then some (shT n c n.toNat, shL n c n.toNat, 0) else some ([], [], 2)
theorem map_step (n j : Nat) (f g : Nat → Int) (hj : j < n) : ((List.range n).map fun i => if i < j then f i else g i).set j (f j) = (List.range n).map fun i => if i < j + 1 then f i else g i := by
  refine List.ext_getElem (by simp) (fun i h1 h2 => ?_)
  rw [List.getElem_set]
  simp only [List.getElem_map, List.getElem_range]
  by_cases e : j = i
  · subst e; rw [if_pos rfl, if_pos (by omega)]
  · rw [if_neg e]
    have : (i < j + 1) ↔ (i < j) := by omega
    simp only [this]
theorem map_start (n : Nat) (f : Nat → Int) (l : List Int) (hl : l.length = n) : ((List.range n).map fun i => if i < 0 then f i else l.getD i 0) = l := by
  refine List.ext_getElem (by simp [hl]) (fun i h1 h2 => ?_)
  simp [h2]
theorem shT_step (n c : Int) (j : Nat) (hj : j < n.toNat) : (shT n c j).set j (stT n c j) = shT n c (j + 1) := map_step _ _ _ _ hj
theorem shL_step (n c : Int) (j : Nat) (hj : j < n.toNat) : (shL n c j).set j (c + 1) = shL n c (j + 1) := map_step _ _ (fun _ => c + 1) _ hj
theorem shT_zero (n c : Int) : shT n c 0 = singleT n c := map_start _ _ _ (by simp [singleT])
theorem shL_zero (n c : Int) : shL n c 0 = singleL n c := map_start _ (fun _ => c + 1) _ (by simp [singleL])
theorem shT_length (n c : Int) (j : Nat) : (shT n c j).length = n.toNat := by simp [shT]
theorem shL_length (n c : Int) (j : Nat) : (shL n c j).length = n.toNat := by simp [shL]
def shrT.T7 : Bool × List (List Nat × List Nat) := (true, [([], []), ([0], [0]), ([], []), ([], []), ([3], [3]), ([], []), ([], []), ([], []), ([], []), ([7, 8], [7, 8]), ([9], [9]), ([6, 10], [6, 10]), ([11], [11]), ([], []), ([13], [13]), ([1, 2, 0, 1, 2, 6, 7, 8, 9, 10, 11, 12], [1, 2]), ([15, 12, 0, 1, 2, 6, 7, 8, 9, 10, 11, 12], [12, 15]), ([4, 5, 0, 1, 2, 3, 4, 5, 6, 7, 8, 9, 10, 11, 12, 13, 14, 15, 16], [4, 5]), ([17, 14, 16, 0, 1, 2, 3, 4, 5, 6, 7, 8, 9, 10, 11, 12, 13, 14, 15, 16], [14, 17])])
def shrT.B7 : List Nat := [0, 1, 0, 0, 8, 0, 0, 0, 0, 384, 896, 1984, 4032, 0, 8192, 8135, 40903, 131071, 262143]
theorem shrT.tab7 : rtab .any (opsOf Try.f6 7) = shrT.T7 := by kernel_rfl
theorem shrT.bits7 : waitsOk shrT.T7.2 shrT.B7 = true := by kernel_rfl
set_option maxRecDepth 100000 in
set_option maxHeartbeats 8000000 in
theorem lots_Short.calls (a0 a1 : Int) (r1 r2 : List Int) (r3 : Int) (w : World) (h : lots_Short.f a0 a1 = some (r1, r2, r3)) :
    Calls Try.prog 6 #[.int .i64 a0, .int .i64 a1] w fun e w' => ∃ v0_ v1_ : Value, e = .returned (.tuple #[.agg #[v0_, v1_], .int .i64 r3]) ∧ Kd.R (Kd.int .i64) 3 w' w.heap.size (fun k_ => some k_ ≠ (v1_ : Value).ownBlock) v0_ r1 ∧ Kd.R (Kd.int .i64) 3 w' w.heap.size (fun k_ => some k_ ≠ (v0_ : Value).ownBlock) v1_ r2 ∧ Below w.heap.size w w' := by
  have hu25 := Try.underlying25
  have HB0 : Aside0 (Below w.heap.size w (w.alloc (.cells #[.slice none 0 0, .slice none 0 0] 25))) := ⟨below_alloc (Below.refl _ _) _⟩
  have HB4 : Aside0 (Box w w.heap.size #[.slice none 0 0, .slice none 0 0] 25 (w.alloc (.cells #[.slice none 0 0, .slice none 0 0] 25))) := ⟨Box.new (Below.refl _ _) _ 25⟩
  unfold lots_Short.f at h
  cases hs : isS a0 a1 with
  | false =>
    rw [hs, if_neg (by decide)] at h
    obtain ⟨rfl, rfl, rfl⟩ : [] = r1 ∧ [] = r2 ∧ 2 = r3 := by simpa using h
    clear h
    go_enter Try.func6, Try.ntmps6
    go_wp2_with fail
    refine (lots_isSingle.calls a0 a1 false _ (by rw [isS_ok, hs])).mono ?_
    rintro e w1 ⟨rfl, hb⟩
    replace hb := hb.below
    replace HB0 := Aside0.mk (below_step HB0.out hb)
    replace HB4 := Aside0.mk (HB4.out.below hb)
    clear hb
    have c40 := HB4.out.cell 0 rfl
    have c41 := HB4.out.cell 1 rfl
    have f40 := HB4.out.frozen 0
    have f41 := HB4.out.frozen 1
    go_wp2_with fail
    refine bodyPost_ret (results_ct rfl _ _ w.heap.size 25 #[.slice none 0 0, .slice none 0 0] (0, 0) _ rfl ((HB4.out.put 0 _).put 1 _).2 Try.underlying25 rfl (by kernel_rfl)) rfl ⟨_, _, rfl, Kd.R_nil _ _ _ _ _, Kd.R_nil _ _ _ _ _, below_set' (below_set' HB0.out (Nat.le_refl _) _) (Nat.le_refl _) _⟩
  | true =>
    rw [hs, if_pos rfl] at h
    obtain ⟨rfl, rfl, rfl⟩ : shT a0 a1 a0.toNat = r1 ∧ shL a0 a1 a0.toNat = r2 ∧ 0 = r3 := by simpa using h
    clear h
    have hv : 1 ≤ a0 ∧ a0 ≤ 12 ∧ 0 ≤ a1 ∧ a1 < a0 := by simpa [isS] using hs
    obtain ⟨h1, h2, h3, h4⟩ := hv
    obtain ⟨m, rfl⟩ : ∃ m : Nat, a0 = ((m + 1 : Nat) : Int) := ⟨a0.toNat - 1, by omega⟩
    have hm : m + 1 ≤ 12 := by omega
    go_enter Try.func6, Try.ntmps6
    go_wp2_with fail
    refine (lots_isSingle.calls ((m + 1 : Nat) : Int) a1 true _ (by rw [isS_ok, hs])).mono ?_
    rintro e w1 ⟨rfl, hb⟩
    replace hb := hb.below
    replace HB0 := Aside0.mk (below_step HB0.out hb)
    replace HB4 := Aside0.mk (HB4.out.below hb)
    clear hb
    go_wp2_with fail
    refine (lots_single.calls ((m + 1 : Nat) : Int) a1 _ _ _ (by unfold lots_single.f; rw [if_pos ⟨h1, h2, h3, h4⟩])).mono ?_
    rintro e w2 ⟨v0, v1, rfl, hRT, hRL, hb⟩
    obtain ⟨gT, cT, rfl, hgT0, hgT1, hgTc⟩ := Kd.R_form hRT (by simp [singleT])
    obtain ⟨gL, cL, rfl, hgL0, hgL1, hgLc⟩ := Kd.R_form hRL (by simp [singleL])
    have hTL : gT ≠ gL := fun e => hRT.1 gT rfl (by rw [e]; rfl)
    have lT : (singleT ((m + 1 : Nat) : Int) a1).length = m + 1 := by simp [singleT]
    have lL : (singleL ((m + 1 : Nat) : Int) a1).length = m + 1 := by simp [singleL]
    have HB1 := Aside0.mk (below_step HB0.out hb)
    have HP : Aside0 (Pl w w.heap.size w2.heap.size gT gL cT cL (shT ((m + 1 : Nat) : Int) a1 0) (shL ((m + 1 : Nat) : Int) a1 0) (w2.alloc (.cells #[.slice (some ⟨gT, 0, none⟩) (m + 1) cT, .slice (some ⟨gL, 0, none⟩) (m + 1) cL] 25))) := by
      rw [shT_zero, shL_zero]
      refine ⟨⟨below_alloc HB1.out _, (HB4.out.below hb).alloc _, by rw [lT, lL]; exact Box.new HB1.out _ 25, ?_, ?_⟩⟩
      · exact Kd.R_mono (Kd.R_alloc (Kd.R_lower hRT HB0.out.size) _) (fun _ _ => trivial)
      · exact Kd.R_mono (Kd.R_alloc (Kd.R_lower hRL HB0.out.size) _) (fun _ _ => trivial)
    rw [lT, lL]
    clear hRT hRL hb HB1 HB0 HB4 hgT0 hgT1 hgTc hgL0 hgL1 hgLc
    go_wp2_with fail
    generalize hg5 : w2.heap.size = g5 at HP ⊢
    clear hg5
    go_loopw [17] (fun v17 W => ∃ j : Nat, v17 = .int .i64 (j : Int) ∧ j ≤ m + 1 ∧ Aside0 (Pl w w.heap.size g5 gT gL cT cL (shT ((m + 1 : Nat) : Int) a1 j) (shL ((m + 1 : Nat) : Int) a1 j) W)) (fun v17 _ => m + 1 - (intOf v17).toNat)
    case atStart => exact ⟨0, rfl, Nat.zero_le _, HP⟩
    case round =>
      clear HP
      obtain ⟨j, rfl, hj, HP⟩ := hrel
      have lTj := shT_length ((m + 1 : Nat) : Int) a1 j
      have lLj := shL_length ((m + 1 : Nat) : Int) a1 j
      rw [Int.toNat_natCast] at lTj lLj
      by_cases hlt : j < m + 1
      · have hdl : decide ((j : Int) < (m : Int) + 1) = true := decide_eq_true (by omega)
        have HLN := Aside0.mk (And.intro lTj lLj)
        clear lTj lLj
        have e1 : wrap64 ((m : Int) + 1 - (j : Int)) = (m : Int) + 1 - j := by unfold wrap64; omega
        have e2 : wrap64 ((m : Int) + 1 - (j : Int) - 1) = (m : Int) + 1 - j - 1 := by unfold wrap64; omega
        have e3 : wrap64 (a1 - ((m : Int) + 1 - (j : Int) - 1)) = a1 - ((m : Int) + 1 - j - 1) := by unfold wrap64; omega
        have e4 : wrap64 (a1 + 1) = a1 + 1 := by unfold wrap64; omega
        have hp1 : (0 ≤ (j : Int)) = True := eq_true (by omega)
        have hp2 : ((j : Int) < (m : Int) + 1) = True := eq_true (by omega)
        have hp3 : (j < m + 1) = True := eq_true (by omega)
        have had : ∀ g : Nat, (⟨g, 0, none⟩ : Addr).add j = ⟨g, j, none⟩ := fun g => add_plain g j
        go_wp2_with fail
        refine start_ (n := 19) (S := PlS g5 gT gL cT cL (m + 1)) (ds := []) #[false, false, false, false, false, false, false, false, false, false, false, false, false, false, false, false, false, false, false] (by kernel_rfl) rfl rfl ((HP.out.below (below_drew (Below.refl _ _))).s HLN.out.1 HLN.out.2) (fun hHeld => ?_)
        refine with_tabW shrT.tab7 shrT.bits7 (fun HT_ HW_ => ?_)
        replace HP := Aside0.mk (HP.out.below (below_drew (Below.refl _ _)))
        generalize (World.drew _) = W0 at HP hHeld ⊢
        refine pure_ (i := 0) (N := some 20) (v := ?_) (a' := ?_) #[true, false, false, false, false, false, false, false, false, false, false, false, false, false, false, false, false, false, false] rfl rfl (any_of HT_.out (by kernel_rfl)) (fun _ _ _ h => h) (Or.inl ⟨by rfl, ?_⟩) ?_ ?_
        rotate_left
        · intro w'
          go_simp
          with_reducible rfl
        rotate_left
        · simp only [Act.put, List.setIfInBounds_toArray, List.set_cons_zero, List.set_cons_succ, i64_w, i32_w]
          rfl
        refine take_ (i := 1) (N := some 21) (v := ?_) (a' := ?_) #[true, true, false, false, false, false, false, false, false, false, false, false, false, false, false, false, false, false, false] rfl rfl (take_ofW HT_.out HW_.out (by kernel_rfl)) (fun _ _ _ h => h) (Or.inl ⟨by rfl, ?_⟩) hHeld ?_ ?_
        rotate_left
        · rintro w' ⟨s0, s1⟩
          go_simp
          with_reducible rfl
        rotate_left
        · simp only [Act.put, List.setIfInBounds_toArray, List.set_cons_zero, List.set_cons_succ, i64_w, i32_w]
          rfl
        refine pure_ (i := 2) (N := some 22) (v := ?_) (a' := ?_) #[true, true, true, false, false, false, false, false, false, false, false, false, false, false, false, false, false, false, false] rfl rfl (any_of HT_.out (by kernel_rfl)) (fun _ _ _ h => h) (Or.inl ⟨by rfl, ?_⟩) ?_ ?_
        rotate_left
        · intro w'
          go_simp
          with_reducible rfl
        rotate_left
        · simp only [Act.put, List.setIfInBounds_toArray, List.set_cons_zero, List.set_cons_succ, i64_w, i32_w]
          rfl
        refine pure_ (i := 3) (N := some 23) (v := ?_) (a' := ?_) #[true, true, true, true, false, false, false, false, false, false, false, false, false, false, false, false, false, false, false] rfl rfl (any_of HT_.out (by kernel_rfl)) (fun _ _ _ h => h) (Or.inl ⟨by rfl, ?_⟩) ?_ ?_
        rotate_left
        · intro w'
          go_simp
          with_reducible rfl
        rotate_left
        · simp only [Act.put, List.setIfInBounds_toArray, List.set_cons_zero, List.set_cons_succ, i64_w, i32_w]
          rfl
        refine take_ (i := 4) (N := some 24) (v := ?_) (a' := ?_) #[true, true, true, true, true, false, false, false, false, false, false, false, false, false, false, false, false, false, false] rfl rfl (take_ofW HT_.out HW_.out (by kernel_rfl)) (fun _ _ _ h => h) (Or.inl ⟨by rfl, ?_⟩) hHeld ?_ ?_
        rotate_left
        · rintro w' ⟨s0, s1⟩
          go_simp
          with_reducible rfl
        rotate_left
        · simp only [Act.put, List.setIfInBounds_toArray, List.set_cons_zero, List.set_cons_succ, i64_w, i32_w]
          rfl
        refine pure_ (i := 5) (N := some 25) (v := ?_) (a' := ?_) #[true, true, true, true, true, true, false, false, false, false, false, false, false, false, false, false, false, false, false] rfl rfl (any_of HT_.out (by kernel_rfl)) (fun _ _ _ h => h) (Or.inl ⟨by rfl, ?_⟩) ?_ ?_
        rotate_left
        · intro w'
          go_simp
          with_reducible rfl
        rotate_left
        · simp only [Act.put, List.setIfInBounds_toArray, List.set_cons_zero, List.set_cons_succ, i64_w, i32_w]
          rfl
        refine pure_ (i := 6) (N := some 26) (v := ?_) (a' := ?_) #[true, true, true, true, true, true, true, false, false, false, false, false, false, false, false, false, false, false, false] rfl rfl (any_of HT_.out (by kernel_rfl)) (fun _ _ _ h => h) (Or.inl ⟨by rfl, ?_⟩) ?_ ?_
        rotate_left
        · intro w'
          go_simp
          with_reducible rfl
        rotate_left
        · simp only [Act.put, List.setIfInBounds_toArray, List.set_cons_zero, List.set_cons_succ, i64_w, i32_w]
          rfl
        refine pure_ (i := 7) (N := some 27) (v := ?_) (a' := ?_) #[true, true, true, true, true, true, true, true, false, false, false, false, false, false, false, false, false, false, false] rfl rfl (any_of HT_.out (by kernel_rfl)) (fun _ _ _ h => h) (Or.inl ⟨by rfl, ?_⟩) ?_ ?_
        rotate_left
        · intro w'
          go_simp
          with_reducible rfl
        rotate_left
        · simp only [Act.put, List.setIfInBounds_toArray, List.set_cons_zero, List.set_cons_succ, i64_w, i32_w]
          rfl
        refine pure_ (i := 8) (N := some 28) (v := ?_) (a' := ?_) #[true, true, true, true, true, true, true, true, true, false, false, false, false, false, false, false, false, false, false] rfl rfl (any_of HT_.out (by kernel_rfl)) (fun _ _ _ h => h) (Or.inl ⟨by rfl, ?_⟩) ?_ ?_
        rotate_left
        · intro w'
          go_simp
          with_reducible rfl
        rotate_left
        · simp only [Act.put, List.setIfInBounds_toArray, List.set_cons_zero, List.set_cons_succ, i64_w, i32_w]
          rfl
        refine pure_ (i := 9) (N := some 29) (v := ?_) (a' := ?_) #[true, true, true, true, true, true, true, true, true, true, false, false, false, false, false, false, false, false, false] rfl rfl (any_of HT_.out (by kernel_rfl)) (fun _ _ _ h => h) (Or.inl ⟨by rfl, ?_⟩) ?_ ?_
        rotate_left
        · intro w'
          go_simp
          with_reducible rfl
        rotate_left
        · simp only [Act.put, List.setIfInBounds_toArray, List.set_cons_zero, List.set_cons_succ, i64_w, i32_w]
          rfl
        refine pure_ (i := 10) (N := some 30) (v := ?_) (a' := ?_) #[true, true, true, true, true, true, true, true, true, true, true, false, false, false, false, false, false, false, false] rfl rfl (any_of HT_.out (by kernel_rfl)) (fun _ _ _ h => h) (Or.inl ⟨by rfl, ?_⟩) ?_ ?_
        rotate_left
        · intro w'
          go_simp
          with_reducible rfl
        rotate_left
        · simp only [Act.put, List.setIfInBounds_toArray, List.set_cons_zero, List.set_cons_succ, i64_w, i32_w]
          rfl
        refine pure_ (i := 11) (N := some 31) (v := ?_) (a' := ?_) #[true, true, true, true, true, true, true, true, true, true, true, true, false, false, false, false, false, false, false] rfl rfl (any_of HT_.out (by kernel_rfl)) (fun _ _ _ h => h) (Or.inl ⟨by rfl, ?_⟩) ?_ ?_
        rotate_left
        · intro w'
          go_simp
          with_reducible rfl
        rotate_left
        · simp only [Act.put, List.setIfInBounds_toArray, List.set_cons_zero, List.set_cons_succ, i64_w, i32_w]
          rfl
        refine pure_ (i := 12) (N := some 32) (v := ?_) (a' := ?_) #[true, true, true, true, true, true, true, true, true, true, true, true, true, false, false, false, false, false, false] rfl rfl (any_of HT_.out (by kernel_rfl)) (fun _ _ _ h => h) (Or.inl ⟨by rfl, ?_⟩) ?_ ?_
        rotate_left
        · intro w'
          go_simp
          with_reducible rfl
        rotate_left
        · simp only [Act.put, List.setIfInBounds_toArray, List.set_cons_zero, List.set_cons_succ, i64_w, i32_w]
          rfl
        refine pure_ (i := 13) (N := some 33) (v := ?_) (a' := ?_) #[true, true, true, true, true, true, true, true, true, true, true, true, true, true, false, false, false, false, false] rfl rfl (any_of HT_.out (by kernel_rfl)) (fun _ _ _ h => h) (Or.inl ⟨by rfl, ?_⟩) ?_ ?_
        rotate_left
        · intro w'
          go_simp
          with_reducible rfl
        rotate_left
        · simp only [Act.put, List.setIfInBounds_toArray, List.set_cons_zero, List.set_cons_succ, i64_w, i32_w]
          rfl
        refine pure_ (i := 14) (N := some 34) (v := ?_) (a' := ?_) #[true, true, true, true, true, true, true, true, true, true, true, true, true, true, true, false, false, false, false] rfl rfl (any_of HT_.out (by kernel_rfl)) (fun _ _ _ h => h) (Or.inl ⟨by rfl, ?_⟩) ?_ ?_
        rotate_left
        · intro w'
          go_simp
          with_reducible rfl
        rotate_left
        · simp only [Act.put, List.setIfInBounds_toArray, List.set_cons_zero, List.set_cons_succ, i64_w, i32_w]
          rfl
        refine pure_ (i := 15) (N := some 35) (v := ?_) (a' := ?_) #[true, true, true, true, true, true, true, true, true, true, true, true, true, true, true, true, false, false, false] rfl rfl (any_of HT_.out (by kernel_rfl)) (fun _ _ _ h => h) (Or.inl ⟨by rfl, ?_⟩) ?_ ?_
        rotate_left
        · intro w'
          go_simp
          with_reducible rfl
        rotate_left
        · simp only [Act.put, List.setIfInBounds_toArray, List.set_cons_zero, List.set_cons_succ, i64_w, i32_w]
          rfl
        refine one_ (i := 16) (N := none) #[true, true, true, true, true, true, true, true, true, true, true, true, true, true, true, true, true, false, false] rfl rfl (one_of HT_.out (by kernel_rfl)) (by decide) (fun K hK => ?_)
        have hcell := Kd.R_cell (d := (0 : Int)) HP.out.rT (j : Int) (by omega) (by rw [HLN.out.1]; omega)
        rw [Int.toNat_natCast] at hcell
        have hc0 := hcell.1
        have hf0 := hcell.2
        clear hcell
        refine skip_ (w1 := ?_) (by rfl) rfl ?_ ?_
        rotate_left
        · go_simp
          rfl
        refine hK.out _ _ (((HP.out.putT hTL j (if a1 - ((m : Int) + 1 - (j : Int) - 1) < -1 then -1 else a1 - ((m : Int) + 1 - (j : Int) - 1))).s (by rw [List.length_set]; exact HLN.out.1) HLN.out.2)) (fun hHeld => ?_)
        clear hK K
        replace HP := Aside0.mk (HP.out.putT hTL j (if a1 - ((m : Int) + 1 - (j : Int) - 1) < -1 then -1 else a1 - ((m : Int) + 1 - (j : Int) - 1)))
        clear hc0 hf0
        generalize (W0.setCell _ _) = W1 at HP hHeld ⊢
        refine pure_ (i := 17) (N := some 36) (v := ?_) (a' := ?_) #[true, true, true, true, true, true, true, true, true, true, true, true, true, true, true, true, true, true, false] rfl rfl (any_of HT_.out (by kernel_rfl)) (fun _ _ _ h => h) (Or.inl ⟨by rfl, ?_⟩) ?_ ?_
        rotate_left
        · intro w'
          go_simp
          with_reducible rfl
        rotate_left
        · simp only [Act.put, List.setIfInBounds_toArray, List.set_cons_zero, List.set_cons_succ, i64_w, i32_w]
          rfl
        refine one_ (i := 18) (N := none) #[true, true, true, true, true, true, true, true, true, true, true, true, true, true, true, true, true, true, true] rfl rfl (one_of HT_.out (by kernel_rfl)) (by decide) (fun K hK => ?_)
        have hcell := Kd.R_cell (d := (0 : Int)) HP.out.rL (j : Int) (by omega) (by rw [HLN.out.2]; omega)
        rw [Int.toNat_natCast] at hcell
        have hc0 := hcell.1
        have hf0 := hcell.2
        clear hcell
        refine skip_ (w1 := ?_) (by rfl) rfl ?_ ?_
        rotate_left
        · go_simp
          rfl
        refine hK.out _ _ (((HP.out.putL hTL j (a1 + 1)).s (n := m + 1) (by rw [List.length_set]; exact HLN.out.1) (by rw [List.length_set]; exact HLN.out.2))) (fun hHeld => ?_)
        clear hK K
        replace HP := Aside0.mk (HP.out.putL hTL j (a1 + 1))
        clear hc0 hf0
        refine done_ (done_of HT_.out (by kernel_rfl)) ?_
        generalize (W1.setCell _ _) = W2 at HP hHeld ⊢
        clear hHeld
        have eT : (shT ((m + 1 : Nat) : Int) a1 j).set j (if a1 - ((m : Int) + 1 - (j : Int) - 1) < -1 then -1 else a1 - ((m : Int) + 1 - (j : Int) - 1)) = shT ((m + 1 : Nat) : Int) a1 (j + 1) := by
          rw [← shT_step _ _ _ (by rw [Int.toNat_natCast]; exact hlt)]
          rfl
        have eL := shL_step ((m + 1 : Nat) : Int) a1 j (by rw [Int.toNat_natCast]; exact hlt)
        rw [eT, eL] at HP
        clear eT eL
        go_wp2_with fail
        exact ⟨⟨j + 1, by rw [Int.natCast_add]; rfl, by omega, HP⟩, by simp only [intOf]; omega⟩
      · have hdl : decide ((j : Int) < (m : Int) + 1) = false := decide_eq_false (by omega)
        obtain rfl : j = m + 1 := by omega
        obtain ⟨c50, c51⟩ := HP.out.s lTj lLj
        have c40 := HP.out.b4.cell 0 rfl
        have c41 := HP.out.b4.cell 1 rfl
        have f40 := HP.out.b4.frozen 0
        have f41 := HP.out.b4.frozen 1
        go_wp2_with fail
        obtain ⟨hT, hL⟩ := HP.out.rows hTL (n := m + 1) lTj lLj
        refine bodyPost_ret (results_ct rfl _ _ w.heap.size 25 #[.slice (some ⟨gT, 0, none⟩) (m + 1) cT, .slice (some ⟨gL, 0, none⟩) (m + 1) cL] (0, 0) _ rfl ((HP.out.b4.put 0 _).put 1 _).2 Try.underlying25 rfl (by kernel_rfl)) rfl ⟨_, _, rfl, hT _ _ _ _, hL _ _ _ _, below_set' (below_set' HP.out.hb (Nat.le_refl _) _) (Nat.le_refl _) _⟩
end Go.Proofs.Ytmlbdkkdejecmaa.X
