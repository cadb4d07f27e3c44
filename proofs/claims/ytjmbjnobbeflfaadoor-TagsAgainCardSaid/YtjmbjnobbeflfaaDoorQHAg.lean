/- The contract of tags.Again. -/
import Derived.Test.YtjmbjnobbeflfaaDoorQHAgain
set_option linter.unusedVariables false
set_option linter.unusedSimpArgs false
namespace Go.Proofs.YtjmbjnobbeflfaaDoor.X
open Go.RowKit Go.Proofs.YtjmbjnobbeflfaaDoorW.PrintWords Go.Proofs.YtjmbjnobbeflfaaDoorW.PrintLast Go.Proofs.YtjmbjnobbeflfaaDoorW.PrintMore
attribute [local go_sem] Oper.semAt_some
open Go.Maps
theorem ASt.putb {w0 : World} {gl gm gb gn mb N : Nat} {D : DataW Unit} {t : ByteArray} {b n : Int} {W : World} (h : ASt w0 gl gm gb gn mb N D t b n W) (b' : Int) : ASt w0 gl gm gb gn mb N D t b' n (W.setCell ⟨gb, 0, none⟩ (.int .i64 b')) :=
  ⟨blk_far h.bl h.n2 _, blk_far h.bm h.n4 _, blk_put h.bb 0 _ rfl, blk_far h.bn h.n6.symm _, h.mp.setCell h.m3 _, h.bel.setCell h.hb _, h.hl, h.hb, h.hn, h.hm, h.n1, h.n2, h.n3, h.n4, h.n5, h.n6, h.m1, h.m2, h.m3, h.m4⟩
theorem ASt.putn {w0 : World} {gl gm gb gn mb N : Nat} {D : DataW Unit} {t : ByteArray} {b n : Int} {W : World} (h : ASt w0 gl gm gb gn mb N D t b n W) (n' : Int) : ASt w0 gl gm gb gn mb N D t b n' (W.setCell ⟨gn, 0, none⟩ (.int .i64 n')) :=
  ⟨blk_far h.bl h.n3 _, blk_far h.bm h.n5 _, blk_far h.bb h.n6 _, blk_put h.bn 0 _ rfl, h.mp.setCell h.m4 _, h.bel.setCell h.hn _, h.hl, h.hb, h.hn, h.hm, h.n1, h.n2, h.n3, h.n4, h.n5, h.n6, h.m1, h.m2, h.m3, h.m4⟩
def again.T13 : Bool × List (List Nat × List Nat) := (true, [([], []), ([], []), ([0, 0], [0]), ([1, 2, 0, 1, 2], [1]), ([3, 0, 1, 2, 3], [])])
def again.B13 : List Nat := [0, 0, 1, 7, 15]
theorem again.tab13 : rtab .any (opsOf Tryd.f7 13) = again.T13 := by kernel_rfl
theorem again.bits13 : waitsOk again.T13.2 again.B13 = true := by kernel_rfl
def tags_Again.f (a0 : Int) (s0 s1 s2 s3 t : ByteArray) : Option (Int × Int × Int) := (tags_cutter_valid.f a0 s0 s1 s2 s3 t).bind fun v => if v = true then ((tapesA a0 s0 s1 s2 s3 1000 [] t).bind fun r => if r.1 = 0 then (if r.2.2.2 = 0 then (if (r.2.1.size : Int) < a0 then some (0, 0, 4) else some (0, 0, 5)) else some (r.2.2.1, r.2.2.2, 0)) else some (0, 0, r.1)) else some (0, 0, 2)
set_option maxRecDepth 100000 in
set_option maxHeartbeats 8000000 in
theorem tags_Again.calls (a0 : Int) (s0 s1 s2 s3 t : ByteArray) (r1 r2 r3 : Int) (w : World) (h : tags_Again.f a0 s0 s1 s2 s3 t = some (r1, r2, r3)) :
    Calls Tryd.prog 7 #[.int .i64 a0, .agg #[.string s0, .string s1, .string s2, .string s3], .string t] w fun e w' => e = .returned (.tuple #[.int .i64 r1, .int .i64 r2, .int .i64 r3]) ∧ Below w.heap.size w w' := by
  have hu37 := Tryd.underlying37
  have hu22 := Tryd.underlying22
  have hu39 := Tryd.underlying39
  have hmm := @run_makeMap Tryd.prog
  unfold tags_Again.f at h
  obtain ⟨v, hv, h⟩ := Option.bind_eq_some_iff.mp h
  have HV := Aside0.mk hv
  clear hv
  have ha1 := below_alloc (Below.refl w.heap.size w) (.cells #[.string s0, .string s1, .string s2, .string s3] 22)
  have ha2 := below_alloc ha1 (.cells #[.int .i64 0] 3)
  have ha3 := below_alloc ha2 (.cells #[.int .i64 0] 3)
  have ha4 := below_alloc ha3 (.cells #[.int .i64 a0, .string s0, .string s1, .string s2, .string s3] 37)
  have HB := Aside0.mk ha4
  have BB := Aside0.mk (blk_alloc (blk_alloc (blk_new (w.alloc (.cells #[.string s0, .string s1, .string s2, .string s3] 22)) (.cells #[.int .i64 0] 3)) (.cells #[.int .i64 0] 3)) (.cells #[.int .i64 a0, .string s0, .string s1, .string s2, .string s3] 37))
  have BN := Aside0.mk (blk_alloc (blk_new ((w.alloc (.cells #[.string s0, .string s1, .string s2, .string s3] 22)).alloc (.cells #[.int .i64 0] 3)) (.cells #[.int .i64 0] 3)) (.cells #[.int .i64 a0, .string s0, .string s1, .string s2, .string s3] 37))
  have BC := Aside0.mk (blk_new (((w.alloc (.cells #[.string s0, .string s1, .string s2, .string s3] 22)).alloc (.cells #[.int .i64 0] 3)).alloc (.cells #[.int .i64 0] 3)) (.cells #[.int .i64 a0, .string s0, .string s1, .string s2, .string s3] 37))
  clear ha1 ha2 ha3 ha4
  rw [show (w.alloc (.cells #[.string s0, .string s1, .string s2, .string s3] 22)).heap.size = w.heap.size + 1 by simp [World.alloc, -World.alloc_eq]] at BB
  rw [show ((w.alloc (.cells #[.string s0, .string s1, .string s2, .string s3] 22)).alloc (.cells #[.int .i64 0] 3)).heap.size = w.heap.size + 1 + 1 by simp [World.alloc, -World.alloc_eq]] at BN
  rw [show (((w.alloc (.cells #[.string s0, .string s1, .string s2, .string s3] 22)).alloc (.cells #[.int .i64 0] 3)).alloc (.cells #[.int .i64 0] 3)).heap.size = w.heap.size + 1 + 1 + 1 by simp [World.alloc, -World.alloc_eq]] at BC
  cases v with
  | false =>
    rw [if_neg (by decide)] at h
    have HR := Aside0.mk (Option.some.inj h)
    clear h
    go_enter Tryd.func7, Tryd.ntmps7
    go_wp2_with fail
    refine (tags_cutter_valid.calls a0 s0 s1 s2 s3 t false _ HV.out).mono ?_
    rintro e w1 ⟨rfl, hb⟩
    have HB1 := Aside0.mk (below_step HB.out hb)
    have cb_ := blk_cell (blk_below BB.out hb) 0
    have cn_ := blk_cell (blk_below BN.out hb) 0
    have fb_ := blk_frozen (blk_below BB.out hb) 0
    have fn_ := blk_frozen (blk_below BN.out hb) 0
    clear hb
    go_wp2_with fail
    (try simp only [Exit.inBlock, Exit.then])
    refine bodyPost_ret (by simp [results, show Tryd.f7.results = #[.cell 6 3, .cell 7 3, .tmp 8] from rfl, go_sem, cb_, cn_]; try rfl) rfl ?_
    obtain ⟨e1, e2⟩ := Prod.mk.inj HR.out
    obtain ⟨e2, e3⟩ := Prod.mk.inj e2
    subst e1 e2 e3
    exact ⟨rfl, by repeat (first | exact HB1.out | apply Below.setCell | apply pw_below_drewN | exact Nat.le_succ _ | exact Nat.le_trans (Nat.le_succ _) (Nat.le_succ _))⟩
  | true =>
    rw [if_pos rfl] at h
    obtain ⟨⟨y1, y2, y3, y4⟩, hy, h⟩ := Option.bind_eq_some_iff.mp h
    have HY := Aside0.mk hy
    have HH := Aside0.mk h
    clear hy h
    go_enter Tryd.func7, Tryd.ntmps7
    go_wp2_with fail
    refine (tags_cutter_valid.calls a0 s0 s1 s2 s3 t true _ HV.out).mono ?_
    rintro e w1 ⟨rfl, hb⟩
    have HB1 := Aside0.mk (below_step HB.out hb)
    have BB1 := Aside0.mk (blk_below BB.out hb)
    have BN1 := Aside0.mk (blk_below BN.out hb)
    have BC1 := Aside0.mk (blk_below BC.out hb)
    have x0_ : w1.cell? ⟨w.heap.size + 1 + 1 + 1, 0, none⟩ = some (.int .i64 a0) := blk_cell BC1.out 0
    have x1_ : w1.cell? ⟨w.heap.size + 1 + 1 + 1, 1, none⟩ = some (.string s0) := blk_cell BC1.out 1
    have x2_ : w1.cell? ⟨w.heap.size + 1 + 1 + 1, 2, none⟩ = some (.string s1) := blk_cell BC1.out 2
    have x3_ : w1.cell? ⟨w.heap.size + 1 + 1 + 1, 3, none⟩ = some (.string s2) := blk_cell BC1.out 3
    have x4_ : w1.cell? ⟨w.heap.size + 1 + 1 + 1, 4, none⟩ = some (.string s3) := blk_cell BC1.out 4
    have hl1 := blk_lt BB1.out
    have hl2 := blk_lt BN1.out
    have hl3 := blk_lt BC1.out
    clear hb
    go_wp2_with fail
    have hA : ASt w (w1.heap.size + 1 + 1) (w1.heap.size + 1) (w.heap.size + 1) (w.heap.size + 1 + 1) w1.heap.size 0 (.map []) t 0 0 (((w1.alloc (.map #[] 0)).alloc (.cells #[.map (some w1.heap.size)] 39)).alloc (.cells #[.string t] 9)) := by
      have hm := blk_new (w1.alloc (.map #[] 0)) (.cells #[.map (some w1.heap.size)] 39)
      have hl := blk_new ((w1.alloc (.map #[] 0)).alloc (.cells #[.map (some w1.heap.size)] 39)) (.cells #[.string t] 9)
      rw [show (w1.alloc (.map #[] 0)).heap.size = w1.heap.size + 1 by simp [World.alloc, -World.alloc_eq]] at hm
      rw [show ((w1.alloc (.map #[] 0)).alloc (.cells #[.map (some w1.heap.size)] 39)).heap.size = w1.heap.size + 1 + 1 by simp [World.alloc, -World.alloc_eq]] at hl
      have hs := HB1.out.size
      exact ⟨hl, blk_alloc hm _, blk_alloc (blk_alloc (blk_alloc BB1.out _) _) _, blk_alloc (blk_alloc (blk_alloc BN1.out _) _) _, ((World.ownsMap_made w1 _ _ _).alloc _).alloc _, below_alloc (below_alloc (below_alloc HB1.out _) _) _, by omega, by omega, by omega, by omega, by omega, by omega, by omega, by omega, by omega, by omega, by omega, by omega, by omega, by omega⟩
    refine (tapesA.calls hA a0 s0 s1 s2 s3 t y1 y2 y3 y4 HY.out).mono ?_
    rintro e w2 ⟨rfl, N', D', hA2⟩
    have HA2 := Aside0.mk hA2
    have cl_ : w2.cell? ⟨w1.heap.size + 1 + 1, 0, none⟩ = some (.string y2) := blk_cell hA2.bl 0
    have cb_ : w2.cell? ⟨w.heap.size + 1, 0, none⟩ = some (.int .i64 y3) := blk_cell hA2.bb 0
    have cn_ : w2.cell? ⟨w.heap.size + 1 + 1, 0, none⟩ = some (.int .i64 y4) := blk_cell hA2.bn 0
    have fb_ := blk_frozen hA2.bb 0
    have fn_ := blk_frozen hA2.bn 0
    clear x0_ x1_ x2_ x3_ x4_ hl1 hl2 hl3 hA hA2
    by_cases c1 : y1 = 0
    · have c1b : (y1 != 0) = false := bne_eq_false_iff_eq.mpr c1
      have HH1 := Aside0.mk ((if_pos c1).symm.trans HH.out)
      clear c1
      by_cases c2 : y4 = 0
      · have c2b : (y4 == 0) = true := beq_iff_eq.mpr c2
        have HH2 := Aside0.mk ((if_pos c2).symm.trans HH1.out)
        clear c2
        by_cases c3 : (y2.size : Int) < a0
        · have c3b : decide ((y2.size : Int) < a0) = true := decide_eq_true c3
          have HR := Aside0.mk (Option.some.inj ((if_pos c3).symm.trans HH2.out))
          clear c3
          go_wp2_with fail
          (try simp only [Exit.inBlock, Exit.then])
          refine bodyPost_ret (by simp [results, show Tryd.f7.results = #[.cell 6 3, .cell 7 3, .tmp 8] from rfl, go_sem, cb_, cn_]; try rfl) rfl ?_
          obtain ⟨e1, e2⟩ := Prod.mk.inj HR.out
          obtain ⟨e2, e3⟩ := Prod.mk.inj e2
          subst e1 e2 e3
          exact ⟨rfl, by repeat (first | exact HA2.out.bel | apply Below.setCell | apply pw_below_drewN | exact Nat.le_succ _ | exact Nat.le_trans (Nat.le_succ _) (Nat.le_succ _))⟩
        · have c3b : decide ((y2.size : Int) < a0) = false := decide_eq_false c3
          have HR := Aside0.mk (Option.some.inj ((if_neg c3).symm.trans HH2.out))
          clear c3
          go_wp2_with fail
          (try simp only [Exit.inBlock, Exit.then])
          refine bodyPost_ret (by simp [results, show Tryd.f7.results = #[.cell 6 3, .cell 7 3, .tmp 8] from rfl, go_sem, cb_, cn_]; try rfl) rfl ?_
          obtain ⟨e1, e2⟩ := Prod.mk.inj HR.out
          obtain ⟨e2, e3⟩ := Prod.mk.inj e2
          subst e1 e2 e3
          exact ⟨rfl, by repeat (first | exact HA2.out.bel | apply Below.setCell | apply pw_below_drewN | exact Nat.le_succ _ | exact Nat.le_trans (Nat.le_succ _) (Nat.le_succ _))⟩
      · have c2b : (y4 == 0) = false := beq_eq_false_iff_ne.mpr c2
        have HR := Aside0.mk (Option.some.inj ((if_neg c2).symm.trans HH1.out))
        clear c2
        go_wp2_with fail
        replace HA2 := Aside0.mk (HA2.out.below (below_drew (Below.refl _ _)))
        clear cl_ cb_ cn_ fb_ fn_
        refine start_ (n := 5) (S := fun W => W.cell? ⟨w.heap.size + 1, 0, none⟩ = some (.int .i64 y3) ∧ W.cell? ⟨w.heap.size + 1 + 1, 0, none⟩ = some (.int .i64 y4)) (ds := []) #[false, false, false, false, false] (by kernel_rfl) rfl rfl ⟨blk_cell HA2.out.bb 0, blk_cell HA2.out.bn 0⟩ (fun hHeld => ?_)
        refine with_tabW again.tab13 again.bits13 (fun HT_ HW_ => ?_)
        generalize (World.drew _) = W0 at HA2 hHeld ⊢
        refine take_ (i := 0) (N := some 41) (v := ?_) (a' := ?_) #[true, false, false, false, false] rfl rfl (take_ofW HT_.out HW_.out (by kernel_rfl)) (fun _ _ _ h => h) (Or.inl ⟨by rfl, ?_⟩) hHeld ?_ ?_
        rotate_left
        · rintro w' ⟨s0, s1⟩
          go_simp
          with_reducible rfl
        rotate_left
        · simp only [Act.put, List.setIfInBounds_toArray, List.set_cons_zero, List.set_cons_succ, i64_w, i32_w]
          rfl
        refine take_ (i := 1) (N := some 42) (v := ?_) (a' := ?_) #[true, true, false, false, false] rfl rfl (take_ofW HT_.out HW_.out (by kernel_rfl)) (fun _ _ _ h => h) (Or.inl ⟨by rfl, ?_⟩) hHeld ?_ ?_
        rotate_left
        · rintro w' ⟨s0, s1⟩
          go_simp
          with_reducible rfl
        rotate_left
        · simp only [Act.put, List.setIfInBounds_toArray, List.set_cons_zero, List.set_cons_succ, i64_w, i32_w]
          rfl
        refine one_ (i := 2) (N := none) #[true, true, true, false, false] rfl rfl (one_of HT_.out (by kernel_rfl)) (by decide) (fun K hK => ?_)
        have hc0 := blk_cell HA2.out.bb 0
        have hf0 := blk_frozen HA2.out.bb 0
        refine skip_ (w1 := ?_) (by rfl) rfl ?_ ?_
        rotate_left
        · go_simp
          rfl
        refine hK.out _ _ (⟨blk_cell (HA2.out.putb y3).bb 0, blk_cell (HA2.out.putb y3).bn 0⟩) (fun hHeld => ?_)
        clear hK K
        replace HA2 := Aside0.mk (HA2.out.putb y3)
        clear hc0 hf0
        refine one_ (i := 3) (N := none) #[true, true, true, true, false] rfl rfl (one_of HT_.out (by kernel_rfl)) (by decide) (fun K hK => ?_)
        have hc0 := blk_cell HA2.out.bn 0
        have hf0 := blk_frozen HA2.out.bn 0
        refine skip_ (w1 := ?_) (by rfl) rfl ?_ ?_
        rotate_left
        · go_simp
          rfl
        refine hK.out _ _ (⟨blk_cell (HA2.out.putn y4).bb 0, blk_cell (HA2.out.putn y4).bn 0⟩) (fun hHeld => ?_)
        clear hK K
        replace HA2 := Aside0.mk (HA2.out.putn y4)
        clear hc0 hf0
        refine pure_ (i := 4) (N := some 8) (v := ?_) (a' := ?_) #[true, true, true, true, true] rfl rfl (any_of HT_.out (by kernel_rfl)) (fun _ _ _ h => h) (Or.inl ⟨by rfl, ?_⟩) ?_ ?_
        rotate_left
        · intro w'
          go_simp
          with_reducible rfl
        rotate_left
        · simp only [Act.put, List.setIfInBounds_toArray, List.set_cons_zero, List.set_cons_succ, i64_w, i32_w]
          rfl
        refine done_ (done_of HT_.out (by kernel_rfl)) ?_
        have cb_ := hHeld.1
        have cn_ := hHeld.2
        clear hHeld
        go_wp2_with fail
        (try simp only [Exit.inBlock, Exit.then])
        refine bodyPost_ret (by simp [results, show Tryd.f7.results = #[.cell 6 3, .cell 7 3, .tmp 8] from rfl, go_sem, cb_, cn_]; try rfl) rfl ?_
        obtain ⟨e1, e2⟩ := Prod.mk.inj HR.out
        obtain ⟨e2, e3⟩ := Prod.mk.inj e2
        subst e1 e2 e3
        exact ⟨rfl, by repeat (first | exact HA2.out.bel | apply Below.setCell | apply pw_below_drewN | exact Nat.le_succ _ | exact Nat.le_trans (Nat.le_succ _) (Nat.le_succ _))⟩
    · have c1b : (y1 != 0) = true := bne_iff_ne.mpr c1
      have HR := Aside0.mk (Option.some.inj ((if_neg c1).symm.trans HH.out))
      clear c1
      go_wp2_with fail
      (try simp only [Exit.inBlock, Exit.then])
      refine bodyPost_ret (by simp [results, show Tryd.f7.results = #[.cell 6 3, .cell 7 3, .tmp 8] from rfl, go_sem, cb_, cn_]; try rfl) rfl ?_
      obtain ⟨e1, e2⟩ := Prod.mk.inj HR.out
      obtain ⟨e2, e3⟩ := Prod.mk.inj e2
      subst e1 e2 e3
      exact ⟨rfl, by repeat (first | exact HA2.out.bel | apply Below.setCell | apply pw_below_drewN | exact Nat.le_succ _ | exact Nat.le_trans (Nat.le_succ _) (Nat.le_succ _))⟩
end Go.Proofs.YtjmbjnobbeflfaaDoor.X
