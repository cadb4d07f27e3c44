/- The contract of packets.Pairs. -/
import Derived.Test.YtigmhomfadimnaaQHPairsB
import Derived.Test.YtigmhomfadimnaaQHMean
import Derived.Laws.EntriesVeiled
set_option linter.unusedVariables false
set_option linter.unusedSimpArgs false
namespace Go.Proofs.Ytigmhomfadimnaa.X
open Go.RowKit Go.Proofs.YtigmhomfadimnaaW.PrintWords Go.Proofs.YtigmhomfadimnaaW.PrintLast Go.Proofs.YtigmhomfadimnaaW.PrintMore
open Go.Maps
attribute [local go_sem] Oper.semAt_some
def packets_Pairs.f (k : Nat) (l0 : List Int) (a1 : Int) : Option (Int × Int × Int) :=
  (packets_weights_isSet.f k l0 [a1]).bind fun t => if t = true then (if (l0.length : Int) > 3 then some (0, 0, 2) else ((packets_weights_all.f l0).bind fun q => (packets_Pairs1.f k l0 q a1).bind fun z => some (z.1, z.2, 0))) else some (0, 0, 2)
theorem isSet_range3 (k : Nat) (l0 : List Int) (a1 : Int) (hl : l0.length ≤ 3) (h : packets_weights_isSet.f k l0 [a1] = some true) : 0 ≤ a1 ∧ a1 < 8 := by
  unfold packets_weights_isSet.f at h
  replace h := Option.bind_eq_some_iff.mp h
  obtain ⟨t, ht, h⟩ := h
  cases t with
  | false => simp at h
  | true =>
    simp only [if_true, Option.some.injEq, List.any_cons, List.any_nil, Bool.or_false, Bool.not_eq_true', noSet] at h
    by_cases h0 : a1 < 0
    · rw [if_pos h0] at h
      simp at h
    · rw [if_neg h0] at h
      have hs : shl .i64 1 (l0.length : Int) ≤ 8 := by
        have : l0.length = 0 ∨ l0.length = 1 ∨ l0.length = 2 ∨ l0.length = 3 := by omega
        rcases this with e | e | e | e <;> rw [e] <;> decide
      have h' := of_decide_eq_false h
      omega
theorem all_range3 (l0 : List Int) (q : Int) (hl : l0.length ≤ 3) (h : packets_weights_all.f l0 = some q) : ∃ qn : Nat, q = (qn : Int) ∧ qn < 8 := by
  unfold packets_weights_all.f at h
  cases h
  have : l0.length = 0 ∨ l0.length = 1 ∨ l0.length = 2 ∨ l0.length = 3 := by omega
  rcases this with e | e | e | e <;> rw [e]
  · exact ⟨0, by decide +kernel, by decide⟩
  · exact ⟨1, by decide +kernel, by decide⟩
  · exact ⟨3, by decide +kernel, by decide⟩
  · exact ⟨7, by decide +kernel, by decide⟩
/-- Two variables that are read. -/
def PY (gf : Nat) (fv : Value) (gx : Nat) (sl : Value) (W : World) : Prop := W.cell? ⟨gf, 0, none⟩ = some fv ∧ W.cell? ⟨gx, 0, none⟩ = some sl
theorem PY.below {gf : Nat} {fv : Value} {gx : Nat} {sl : Value} {W W1 : World} (h : PY gf fv gx sl W) (hb : Below W.heap.size W W1) : PY gf fv gx sl W1 := ⟨cell_keep3 h.1 hb, cell_keep3 h.2 hb⟩
theorem pc_le {o : Nat} (h : o < 8) : pc3 o ≤ 3 := by unfold pc3; omega
theorem pc_top {o a : Nat} (ho : o < 8) (ha : a < 8) : 0 + 4 ^ (pc3 o + pc3 a) ≤ 100000 := by
  have h1 : 4 ^ (pc3 o + pc3 a) ≤ 4 ^ 6 := Nat.pow_le_pow_right (by omega) (by have := pc_le ho; have := pc_le ha; omega)
  have h2 : (4 : Nat) ^ 6 = 4096 := by decide
  omega
theorem res46 : Try.f46.results = #[.cell 4 25, .tmp 5] := rfl
def paiT.T7 : Bool × List (List Nat × List Nat) := (true, [([], []), ([], []), ([1], [1]), ([], []), ([0, 2, 3, 2], [0, 2, 3]), ([4, 4, 0, 1, 2, 3, 4], [4]), ([5, 0, 1, 2, 3, 4, 5], [])])
def paiT.B7 : List Nat := [0, 0, 2, 0, 15, 31, 63]
theorem paiT.tab7 : rtab .any (opsOf Try.f46 7) = paiT.T7 := by kernel_rfl
theorem paiT.bits7 : waitsOk paiT.T7.2 paiT.B7 = true := by kernel_rfl
set_option maxRecDepth 100000 in
set_option maxHeartbeats 8000000 in
theorem packets_Pairs.calls (k : Nat) (A0 : Option Addr) (c0 : Nat) (l0 : List Int) (a1 : Int) (r1 r2 r3 : Int) (w : World) (hr0 : Kd.C (Kd.int .i64) w A0 l0.length l0) (hc0 : l0.length ≤ c0) (h : packets_Pairs.f k l0 a1 = some (r1, r2, r3)) :
    Calls Try.prog 46 #[.slice A0 l0.length c0, .int .i64 a1] w fun e w' => e = .returned (.tuple #[.agg #[.int .i64 r1, .int .i64 r2], .int .i64 r3]) ∧ Below w.heap.size w w' := by
  have hu25 := Try.underlying25
  have hmm := @run_makeMap Try.prog
  have HR0 := Aside0.mk hr0
  have HC0 := Aside0.mk hc0
  clear hr0 hc0
  have HB := Aside0.mk (Below.refl w.heap.size w)
  unfold packets_Pairs.f at h
  replace h := Option.bind_eq_some_iff.mp h
  obtain ⟨tv, ht, h⟩ := h
  have HT := Aside0.mk ht
  clear ht
  have HB1 := Aside0.mk (below_alloc HB.out (.cells #[.slice A0 l0.length c0] 23))
  have HB2 := Aside0.mk (below_alloc HB1.out (.cells #[.int .i64 0, .int .i64 0] 25))
  have HB3 := Aside0.mk (below_alloc HB2.out (.cells #[.slice A0 l0.length c0] 52))
  have HB4 := Aside0.mk (below_alloc HB3.out (.cells #[.int .i64 a1] 3))
  have B2 := Aside0.mk ((((Box.new HB.out #[.slice A0 l0.length c0] 23).alloc (.cells #[.int .i64 0, .int .i64 0] 25)).alloc (.cells #[.slice A0 l0.length c0] 52)).alloc (.cells #[.int .i64 a1] 3))
  have B4 := Aside0.mk (((Box.new HB1.out #[.int .i64 0, .int .i64 0] 25).alloc (.cells #[.slice A0 l0.length c0] 52)).alloc (.cells #[.int .i64 a1] 3))
  have B6 := Aside0.mk ((Box.new HB2.out #[.slice A0 l0.length c0] 52).alloc (.cells #[.int .i64 a1] 3))
  have BL := Aside0.mk (Box.new HB3.out #[.int .i64 a1] 3)
  rw [World.size_alloc] at B4
  rw [World.size_alloc, World.size_alloc] at B6
  rw [World.size_alloc, World.size_alloc, World.size_alloc] at BL
  go_enter Try.func46, Try.ntmps46
  go_wp2_with fail
  refine (packets_weights_isSet.calls k A0 c0 l0 (some ⟨w.heap.size + 1 + 1 + 1, 0, none⟩) 1 [a1] tv _ (Kd.C_below HR0.out HB4.out) HC0.out (C_one _ _ _ (BL.out.cell 0 rfl)) (by simp) HT.out).mono ?_
  rintro e w1 ⟨rfl, hb⟩
  replace HB := Aside0.mk (below_step HB4.out hb)
  replace B2 := Aside0.mk (B2.out.below hb)
  replace B4 := Aside0.mk (B4.out.below hb)
  replace B6 := Aside0.mk (B6.out.below hb)
  clear hb BL HB1 HB2 HB3 HB4
  have c20 := B2.out.cell 0 rfl
  have c40 := B4.out.cell 0 rfl
  have c41 := B4.out.cell 1 rfl
  have c60 := B6.out.cell 0 rfl
  have f40 := B4.out.frozen 0
  have f41 := B4.out.frozen 1
  cases tv with
  | false =>
    obtain ⟨rfl, rfl, rfl⟩ : 0 = r1 ∧ 0 = r2 ∧ 2 = r3 := by simpa using h
    clear h
    go_wp2_with fail
    (try simp only [Exit.inBlock, Exit.then])
    refine bodyPost_ret (by simp [results, res46, go_sem, c40, c41]; try rfl) rfl ?_
    exact ⟨rfl, below_set' (below_set' HB.out (Nat.le_succ _) _) (Nat.le_succ _) _⟩
  | true =>
    rw [if_pos rfl] at h
    by_cases h3 : (l0.length : Int) > 3
    · rw [if_pos h3] at h
      obtain ⟨rfl, rfl, rfl⟩ : 0 = r1 ∧ 0 = r2 ∧ 2 = r3 := by simpa using h
      have h3b : decide ((l0.length : Int) > 3) = true := decide_eq_true h3
      clear h h3
      go_wp2_with fail
      (try simp only [Exit.inBlock, Exit.then])
      refine bodyPost_ret (by simp [results, res46, go_sem, c40, c41]; try rfl) rfl ?_
      exact ⟨rfl, below_set' (below_set' HB.out (Nat.le_succ _) _) (Nat.le_succ _) _⟩
    · rw [if_neg h3] at h
      have h3b : decide ((l0.length : Int) > 3) = false := decide_eq_false h3
      have HL3 : Aside0 (l0.length ≤ 3) := ⟨by omega⟩
      obtain ⟨q, hq, h⟩ := Option.bind_eq_some_iff.mp h
      obtain ⟨⟨z1, z2⟩, hz, h⟩ := Option.bind_eq_some_iff.mp h
      obtain ⟨rfl, rfl, rfl⟩ : z1 = r1 ∧ z2 = r2 ∧ 0 = r3 := by simpa using h
      obtain ⟨qn, hqn, hq8⟩ := all_range3 l0 q HL3.out hq
      obtain ⟨ha0, ha8⟩ := isSet_range3 k l0 a1 HL3.out HT.out
      obtain ⟨an, han⟩ : ∃ an : Nat, a1 = (an : Int) := ⟨a1.toNat, by omega⟩
      have HQ := Aside0.mk hq
      have HZ := Aside0.mk hz
      have HQN := Aside0.mk (And.intro hqn hq8)
      have HAN : Aside0 (a1 = (an : Int) ∧ an < 8) := ⟨⟨han, by omega⟩⟩
      clear h hq hz hqn hq8 ha0 ha8 han h3
      have hl2 := B2.out.lt
      have hl4 := B4.out.lt
      have hl6 := B6.out.lt
      go_wp2_with fail
      have HV : Aside0 (PSt w (w1.heap.size + 1) (w.heap.size + 1 + 1) (w.heap.size) (w1.heap.size + 1 + 1) w1.heap.size 0 (.map []) A0 c0 l0 (((w1.alloc (.map #[] 0)).alloc (.cells #[.map (some w1.heap.size)] 65)).alloc (.cells #[.func (.func 72) #[] #[.pointer (some ⟨w1.heap.size + 1, 0, none⟩), .pointer (some ⟨w.heap.size + 1 + 1, 0, none⟩), .pointer (some ⟨w.heap.size, 0, none⟩), .pointer (some ⟨w1.heap.size + 1 + 1, 0, none⟩)]] 58))) := by
        have hk := blk_new (w1.alloc (.map #[] 0)) (.cells #[.map (some w1.heap.size)] 65)
        have hf := blk_new ((w1.alloc (.map #[] 0)).alloc (.cells #[.map (some w1.heap.size)] 65)) (.cells #[.func (.func 72) #[] #[.pointer (some ⟨w1.heap.size + 1, 0, none⟩), .pointer (some ⟨w.heap.size + 1 + 1, 0, none⟩), .pointer (some ⟨w.heap.size, 0, none⟩), .pointer (some ⟨w1.heap.size + 1 + 1, 0, none⟩)]] 58)
        rw [show (w1.alloc (.map #[] 0)).heap.size = w1.heap.size + 1 by simp [World.alloc, -World.alloc_eq]] at hk
        rw [show ((w1.alloc (.map #[] 0)).alloc (.cells #[.map (some w1.heap.size)] 65)).heap.size = w1.heap.size + 1 + 1 by simp [World.alloc, -World.alloc_eq]] at hf
        exact ⟨⟨blk_alloc hk _, blk_alloc (blk_alloc (blk_alloc B6.out.2 _) _) _, blk_alloc (blk_alloc (blk_alloc B2.out.2 _) _) _, hf, ((World.ownsMap_made w1 _ _ _).alloc _).alloc _, HR0.out, HC0.out, below_alloc (below_alloc (below_alloc HB.out _) _) _, HB.out.size, by omega, by omega, by omega, by omega⟩⟩
      have B4b := Aside0.mk (blk_alloc (blk_alloc (blk_alloc B4.out.2 (.map #[] 0)) (.cells #[.map (some w1.heap.size)] 65)) (.cells #[.func (.func 72) #[] #[.pointer (some ⟨w1.heap.size + 1, 0, none⟩), .pointer (some ⟨w.heap.size + 1 + 1, 0, none⟩), .pointer (some ⟨w.heap.size, 0, none⟩), .pointer (some ⟨w1.heap.size + 1 + 1, 0, none⟩)]] 58))
      have HN4 : Aside0 (w.heap.size + 1 ≠ w1.heap.size) := ⟨by omega⟩
      clear c20 c40 c41 c60 f40 f41 hl2 hl4 hl6 B2 B4 B6
      generalize (((w1.alloc (.map #[] 0)).alloc (.cells #[.map (some w1.heap.size)] 65)).alloc (.cells #[.func (.func 72) #[] #[.pointer (some ⟨w1.heap.size + 1, 0, none⟩), .pointer (some ⟨w.heap.size + 1 + 1, 0, none⟩), .pointer (some ⟨w.heap.size, 0, none⟩), .pointer (some ⟨w1.heap.size + 1 + 1, 0, none⟩)]] 58)) = W3 at HV B4b ⊢
      replace HV := Aside0.mk (HV.out.below (below_drew (Below.refl _ _)))
      replace B4b := Aside0.mk (blk_below B4b.out (below_drew (Below.refl _ _)))
      refine start_ (n := 7) (S := PY (w1.heap.size + 1 + 1) (.func (.func 72) #[] #[.pointer (some ⟨w1.heap.size + 1, 0, none⟩), .pointer (some ⟨w.heap.size + 1 + 1, 0, none⟩), .pointer (some ⟨w.heap.size, 0, none⟩), .pointer (some ⟨w1.heap.size + 1 + 1, 0, none⟩)]) (w.heap.size + 1 + 1) (.slice A0 l0.length c0)) (ds := [5]) #[false, false, false, false, false, false, false] (by kernel_rfl) rfl rfl ⟨blk_cell HV.out.bf 0, blk_cell HV.out.bx 0⟩ (fun hHeld => ?_)
      refine with_tabW paiT.tab7 paiT.bits7 (fun HT_ HW_ => ?_)
      generalize (World.drew _) = Wd at HV B4b hHeld ⊢
      refine take_ (i := 0) (N := some 23) (v := ?_) (a' := ?_) #[true, false, false, false, false, false, false] rfl rfl (take_ofW HT_.out HW_.out (by kernel_rfl)) (fun _ _ _ h => h) (Or.inl ⟨by rfl, ?_⟩) hHeld ?_ ?_
      rotate_left
      · rintro w' ⟨s0, s1⟩
        go_simp
        with_reducible rfl
      rotate_left
      · simp only [Act.put, List.setIfInBounds_toArray, List.set_cons_zero, List.set_cons_succ, i64_w, i32_w]
        rfl
      refine take_ (i := 1) (N := some 24) (v := ?_) (a' := ?_) #[true, true, false, false, false, false, false] rfl rfl (take_ofW HT_.out HW_.out (by kernel_rfl)) (fun _ _ _ h => h) (Or.inl ⟨by rfl, ?_⟩) hHeld ?_ ?_
      rotate_left
      · rintro w' ⟨s0, s1⟩
        go_simp
        with_reducible rfl
      rotate_left
      · simp only [Act.put, List.setIfInBounds_toArray, List.set_cons_zero, List.set_cons_succ, i64_w, i32_w]
        rfl
      refine pure_ (i := 3) (N := some 26) (v := ?_) (a' := ?_) #[true, true, false, true, false, false, false] rfl rfl (any_of HT_.out (by kernel_rfl)) (fun _ _ _ h => h) (Or.inl ⟨by rfl, ?_⟩) ?_ ?_
      rotate_left
      · intro w'
        go_simp
        with_reducible rfl
      rotate_left
      · simp only [Act.put, List.setIfInBounds_toArray, List.set_cons_zero, List.set_cons_succ, i64_w, i32_w]
        rfl
      refine one_ (i := 2) (N := some 25) #[true, true, true, true, false, false, false] rfl rfl (one_of HT_.out (by kernel_rfl)) (by decide) (fun K hK => ?_)
      refine goes_ Try.func55 (by kernel_rfl) rfl #[.slice A0 l0.length c0] (by rfl) rfl rfl (by (try simp only [List.map_toArray, List.map_cons, List.map_nil]); first | done | rfl | (simp only [List.length_drop, List.length_take]; rfl)) ?_
      refine (all_below A0 c0 l0 q _ (Kd.C_below HV.out.came HV.out.bel) HV.out.hc HQ.out).mono ?_
      rintro e wr1 ⟨rfl, hb⟩
      refine ⟨_, rfl, ?_⟩
      replace HV := Aside0.mk (HV.out.below hb)
      replace B4b := Aside0.mk (blk_below B4b.out hb)
      refine hK.out _ _ (PY.below hHeld hb) (fun hHeld => ?_)
      clear hK K hb
      refine norm_ (a' := ?_) ?_ ?_
      rotate_left
      · show Act.put _ (some 25) _ = _
        simp only [Act.put, List.setIfInBounds_toArray, List.set_cons_zero, List.set_cons_succ, i64_w, i32_w]
        rfl
      refine one_ (i := 4) (N := some 27) #[true, true, true, true, true, false, false] rfl rfl (one_of HT_.out (by kernel_rfl)) (by decide) (fun K hK => ?_)
      refine call_ 72 #[.int .i64 q, .int .i64 a1, .pointer (some ⟨w1.heap.size + 1, 0, none⟩), .pointer (some ⟨w.heap.size + 1 + 1, 0, none⟩), .pointer (some ⟨w.heap.size, 0, none⟩), .pointer (some ⟨w1.heap.size + 1 + 1, 0, none⟩)] (by rfl) rfl ?_ ?_
      · exact parRun rfl rfl rfl rfl
      refine (pairs1.calls HL3.out k qn an 0 q a1 (.map []) _ z1 z2 HQN.out.1 HAN.out.1 HQN.out.2 HAN.out.2 (pc_top HQN.out.2 HAN.out.2) HZ.out HV.out (Memo.start l0)).mono ?_
      rintro e wz ⟨rfl, N2, D2, hN2, hV2, hM2, hE2⟩
      refine ⟨_, rfl, ?_⟩
      replace HV := Aside0.mk hV2
      replace B4b := Aside0.mk (hE2.2 _ _ HN4.out B4b.out)
      clear hV2 hM2 hE2 hN2
      refine hK.out _ _ ⟨blk_cell HV.out.bf 0, blk_cell HV.out.bx 0⟩ (fun hHeld => ?_)
      clear hK K
      refine norm_ (a' := ?_) ?_ ?_
      rotate_left
      · show Act.put _ (some 27) _ = _
        simp only [Act.put, List.setIfInBounds_toArray, List.set_cons_zero, List.set_cons_succ, i64_w, i32_w]
        rfl
      refine last_ (i := 5) (N := none) #[true, true, true, true, true, true, false] rfl rfl (one_of HT_.out (by kernel_rfl)) (by decide) (fun K hK => ?_)
      have c40 := blk_cell B4b.out 0
      have c41 := blk_cell B4b.out 1
      have f40 := blk_frozen B4b.out 0
      have f41 := blk_frozen B4b.out 1
      refine skip_ (w1 := ?_) (by rfl) rfl ?_ ?_
      rotate_left
      · go_simp
        rfl
      refine hK.out _ _ ?_
      clear hK K
      refine pure_ (i := 6) (N := some 5) (v := ?_) (a' := ?_) #[true, true, true, true, true, true, true] rfl rfl (any_of HT_.out (by kernel_rfl)) (fun _ _ _ h => h) (Or.inl ⟨by rfl, ?_⟩) ?_ ?_
      rotate_left
      · intro w'
        go_simp
        with_reducible rfl
      rotate_left
      · simp only [Act.put, List.setIfInBounds_toArray, List.set_cons_zero, List.set_cons_succ, i64_w, i32_w]
        rfl
      refine done_ (done_of HT_.out (by kernel_rfl)) ?_
      (try simp only [Exit.inBlock, Exit.then])
      go_wp2_with fail
      (try simp only [Exit.inBlock, Exit.then])
      refine bodyPost_ret (by simp [results, res46, go_sem, c40, c41]; try rfl) rfl ?_
      exact ⟨rfl, below_set' (below_set' HV.out.bel (Nat.le_succ _) _) (Nat.le_succ _) _⟩
end Go.Proofs.Ytigmhomfadimnaa.X
