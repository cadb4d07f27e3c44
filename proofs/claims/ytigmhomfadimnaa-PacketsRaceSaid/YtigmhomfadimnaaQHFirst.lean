/- The contract of packets.First. -/
import Derived.Test.YtigmhomfadimnaaQHFirstB
import Derived.Test.YtigmhomfadimnaaQHMean
set_option linter.unusedVariables false
set_option linter.unusedSimpArgs false
namespace Go.Proofs.Ytigmhomfadimnaa.X
open Go.RowKit Go.Proofs.YtigmhomfadimnaaW.PrintWords Go.Proofs.YtigmhomfadimnaaW.PrintLast Go.Proofs.YtigmhomfadimnaaW.PrintMore
open Go.Maps
attribute [local go_sem] Oper.semAt_some
def packets_First.f (k : Nat) (l0 : List Int) (a1 a2 : Int) : Option (Int × Int × Int) :=
  (packets_weights_isSet.f k l0 [a1, a2]).bind fun t => if t = true then (if a1 = 0 then some (0, 0, 2) else if a2 = 0 then some (0, 0, 2) else (packets_First1.f k l0 a1 a2 0).bind fun z => some (z.1, z.2, 0)) else some (0, 0, 2)
theorem isSet_parts (k : Nat) (l0 : List Int) (a b : Int) (h : packets_weights_isSet.f k l0 [a, b] = some true) : packets_weights_isSet.f k l0 [a] = some true ∧ packets_weights_isSet.f k l0 [b] = some true ∧ l0.length ≤ 6 := by
  unfold packets_weights_isSet.f at h ⊢
  obtain ⟨t, ht, h⟩ := Option.bind_eq_some_iff.mp h
  rw [ht]
  cases t with
  | false => simp at h
  | true =>
    simp only [if_true, Option.some.injEq, List.any_cons, List.any_nil, Bool.or_false, Bool.not_eq_true', Bool.or_eq_false_iff] at h
    refine ⟨?_, ?_, ?_⟩
    · simp [h.1]
    · simp [h.2]
    · unfold packets_weights_valid.f at ht
      by_cases h1 : (l0.length : Int) ≥ 1
      · rw [if_pos h1] at ht
        by_cases h2 : (l0.length : Int) ≤ 6
        · omega
        · rw [if_neg h2] at ht
          simp at ht
      · rw [if_neg h1] at ht
        simp at ht
theorem C_two (g : Nat) (a b : Int) (W : World) (h : W.cell? ⟨g, 0, none⟩ = some (.int .i64 a)) (h2 : W.cell? ⟨g, 1, none⟩ = some (.int .i64 b)) : Kd.C (Kd.int .i64) W (some ⟨g, 0, none⟩) ([a, b] : List Int).length [a, b] :=
  Kd.C_of_reads (d := 0) ⟨rfl, by simp, fun _ => ⟨_, rfl, fun j hj => by
    have : j = 0 ∨ j = 1 := by simp at hj; omega
    rcases this with rfl | rfl
    · exact h
    · exact h2⟩⟩
theorem res41 : Try.f41.results = #[.cell 6 25, .tmp 7] := rfl
set_option maxRecDepth 100000 in
set_option maxHeartbeats 8000000 in
theorem packets_First.calls (k : Nat) (A0 : Option Addr) (c0 : Nat) (l0 : List Int) (a1 a2 : Int) (r1 r2 r3 : Int) (w : World) (hr0 : Kd.C (Kd.int .i64) w A0 l0.length l0) (hc0 : l0.length ≤ c0) (h : packets_First.f k l0 a1 a2 = some (r1, r2, r3)) :
    Calls Try.prog 41 #[.slice A0 l0.length c0, .int .i64 a1, .int .i64 a2] w fun e w' => e = .returned (.tuple #[.agg #[.int .i64 r1, .int .i64 r2], .int .i64 r3]) ∧ Below w.heap.size w w' := by
  have hu25 := Try.underlying25
  have hmm := @run_makeMap Try.prog
  have HR0 := Aside0.mk hr0
  have HC0 := Aside0.mk hc0
  clear hr0 hc0
  have HB := Aside0.mk (Below.refl w.heap.size w)
  unfold packets_First.f at h
  replace h := Option.bind_eq_some_iff.mp h
  obtain ⟨tv, ht, h⟩ := h
  have HT := Aside0.mk ht
  clear ht
  have HB1 := Aside0.mk (below_alloc HB.out (.cells #[.slice A0 l0.length c0] 23))
  have HB2 := Aside0.mk (below_alloc HB1.out (.cells #[.int .i64 a1] 3))
  have HB3 := Aside0.mk (below_alloc HB2.out (.cells #[.int .i64 a2] 3))
  have HB4 := Aside0.mk (below_alloc HB3.out (.cells #[.int .i64 0, .int .i64 0] 25))
  have HB5 := Aside0.mk (below_alloc HB4.out (.cells #[.slice A0 l0.length c0] 52))
  have HB6 := Aside0.mk (below_alloc HB5.out (.cells #[.int .i64 a1, .int .i64 a2] 3))
  have B3 := Aside0.mk ((((((Box.new HB.out #[.slice A0 l0.length c0] 23).alloc (.cells #[.int .i64 a1] 3)).alloc (.cells #[.int .i64 a2] 3)).alloc (.cells #[.int .i64 0, .int .i64 0] 25)).alloc (.cells #[.slice A0 l0.length c0] 52)).alloc (.cells #[.int .i64 a1, .int .i64 a2] 3))
  have B4 := Aside0.mk (((((Box.new HB1.out #[.int .i64 a1] 3).alloc (.cells #[.int .i64 a2] 3)).alloc (.cells #[.int .i64 0, .int .i64 0] 25)).alloc (.cells #[.slice A0 l0.length c0] 52)).alloc (.cells #[.int .i64 a1, .int .i64 a2] 3))
  have B5 := Aside0.mk ((((Box.new HB2.out #[.int .i64 a2] 3).alloc (.cells #[.int .i64 0, .int .i64 0] 25)).alloc (.cells #[.slice A0 l0.length c0] 52)).alloc (.cells #[.int .i64 a1, .int .i64 a2] 3))
  have B6 := Aside0.mk (((Box.new HB3.out #[.int .i64 0, .int .i64 0] 25).alloc (.cells #[.slice A0 l0.length c0] 52)).alloc (.cells #[.int .i64 a1, .int .i64 a2] 3))
  have B8 := Aside0.mk ((Box.new HB4.out #[.slice A0 l0.length c0] 52).alloc (.cells #[.int .i64 a1, .int .i64 a2] 3))
  have BL := Aside0.mk (Box.new HB5.out #[.int .i64 a1, .int .i64 a2] 3)
  simp only [World.size_alloc] at B4 B5 B6 B8 BL
  go_enter Try.func41, Try.ntmps41
  go_wp2_with fail
  refine (packets_weights_isSet.calls k A0 c0 l0 (some ⟨w.heap.size + 1 + 1 + 1 + 1 + 1, 0, none⟩) 2 [a1, a2] tv _ (Kd.C_below HR0.out HB6.out) HC0.out (C_two _ _ _ _ (BL.out.cell 0 rfl) (BL.out.cell 1 rfl)) (by simp) HT.out).mono ?_
  rintro e w1 ⟨rfl, hb⟩
  replace HB := Aside0.mk (below_step HB6.out hb)
  replace B3 := Aside0.mk (B3.out.below hb)
  replace B4 := Aside0.mk (B4.out.below hb)
  replace B5 := Aside0.mk (B5.out.below hb)
  replace B6 := Aside0.mk (B6.out.below hb)
  replace B8 := Aside0.mk (B8.out.below hb)
  clear hb BL HB1 HB2 HB3 HB4 HB5 HB6
  have c30 := B3.out.cell 0 rfl
  have c40 := B4.out.cell 0 rfl
  have c50 := B5.out.cell 0 rfl
  have c60 := B6.out.cell 0 rfl
  have c61 := B6.out.cell 1 rfl
  have c80 := B8.out.cell 0 rfl
  have f60 := B6.out.frozen 0
  have f61 := B6.out.frozen 1
  have HLE : Aside0 (w.heap.size ≤ w.heap.size + 1 + 1 + 1) := ⟨by omega⟩
  cases tv with
  | false =>
    obtain ⟨rfl, rfl, rfl⟩ : 0 = r1 ∧ 0 = r2 ∧ 2 = r3 := by simpa using h
    clear h
    go_wp2_with fail
    (try simp only [Exit.inBlock, Exit.then])
    refine bodyPost_ret (by simp [results, res41, go_sem, c60, c61]; try rfl) rfl ?_
    exact ⟨rfl, below_set' (below_set' HB.out HLE.out _) HLE.out _⟩
  | true =>
    rw [if_pos rfl] at h
    by_cases h1 : a1 = 0
    · rw [if_pos h1] at h
      obtain ⟨rfl, rfl, rfl⟩ : 0 = r1 ∧ 0 = r2 ∧ 2 = r3 := by simpa using h
      have h1b : (a1 == 0) = true := beq_iff_eq.mpr h1
      clear h h1
      go_wp2_with fail
      (try simp only [Exit.inBlock, Exit.then])
      refine bodyPost_ret (by simp [results, res41, go_sem, c60, c61]; try rfl) rfl ?_
      exact ⟨rfl, below_set' (below_set' HB.out HLE.out _) HLE.out _⟩
    · rw [if_neg h1] at h
      have h1b : (a1 == 0) = false := beq_eq_false_iff_ne.mpr h1
      by_cases h2 : a2 = 0
      · rw [if_pos h2] at h
        obtain ⟨rfl, rfl, rfl⟩ : 0 = r1 ∧ 0 = r2 ∧ 2 = r3 := by simpa using h
        have h2b : (a2 == 0) = true := beq_iff_eq.mpr h2
        clear h h1 h2
        go_wp2_with fail
        (try simp only [Exit.inBlock, Exit.then])
        refine bodyPost_ret (by simp [results, res41, go_sem, c60, c61]; try rfl) rfl ?_
        exact ⟨rfl, below_set' (below_set' HB.out HLE.out _) HLE.out _⟩
      · rw [if_neg h2] at h
        have h2b : (a2 == 0) = false := beq_eq_false_iff_ne.mpr h2
        obtain ⟨⟨z1, z2⟩, hz, h⟩ := Option.bind_eq_some_iff.mp h
        obtain ⟨rfl, rfl, rfl⟩ : z1 = r1 ∧ z2 = r2 ∧ 0 = r3 := by simpa using h
        obtain ⟨s1, s2, hl6⟩ := isSet_parts k l0 a1 a2 HT.out
        have g1 := isSet_range k l0 a1 s1
        have g2 := isSet_range k l0 a2 s2
        obtain ⟨an, han⟩ : ∃ an : Nat, a1 = (an : Int) := ⟨a1.toNat, by omega⟩
        obtain ⟨bn, hbn⟩ : ∃ bn : Nat, a2 = (bn : Int) := ⟨a2.toNat, by omega⟩
        have HZ := Aside0.mk hz
        have HAN : Aside0 ((a1 = (an : Int) ∧ an < 64) ∧ (a2 = (bn : Int) ∧ bn < 64) ∧ l0.length ≤ 6) := ⟨⟨⟨han, by omega⟩, ⟨hbn, by omega⟩, hl6⟩⟩
        clear h hz s1 s2 g1 g2 han hbn h1 h2 hl6
        have hl3 := B3.out.lt
        have hl4 := B4.out.lt
        have hl5 := B5.out.lt
        have hl6_ := B6.out.lt
        have hl8 := B8.out.lt
        go_wp2_with fail
        have HV : Aside0 (FSt w (w.heap.size + 1 + 1) (w.heap.size + 1) (w1.heap.size + 1) (w.heap.size) (w.heap.size + 1 + 1 + 1 + 1) (w1.heap.size + 1 + 1) w1.heap.size 0 (.map []) A0 c0 l0 a1 a2 (((w1.alloc (.map #[] 0)).alloc (.cells #[.map (some w1.heap.size)] 64)).alloc (.cells #[.func (.func 69) #[] #[.pointer (some ⟨w.heap.size + 1 + 1, 0, none⟩), .pointer (some ⟨w.heap.size + 1, 0, none⟩), .pointer (some ⟨w1.heap.size + 1, 0, none⟩), .pointer (some ⟨w.heap.size, 0, none⟩), .pointer (some ⟨w.heap.size + 1 + 1 + 1 + 1, 0, none⟩), .pointer (some ⟨w1.heap.size + 1 + 1, 0, none⟩)]] 54))) := by
          have hk := blk_new (w1.alloc (.map #[] 0)) (.cells #[.map (some w1.heap.size)] 64)
          have hf := blk_new ((w1.alloc (.map #[] 0)).alloc (.cells #[.map (some w1.heap.size)] 64)) (.cells #[.func (.func 69) #[] #[.pointer (some ⟨w.heap.size + 1 + 1, 0, none⟩), .pointer (some ⟨w.heap.size + 1, 0, none⟩), .pointer (some ⟨w1.heap.size + 1, 0, none⟩), .pointer (some ⟨w.heap.size, 0, none⟩), .pointer (some ⟨w.heap.size + 1 + 1 + 1 + 1, 0, none⟩), .pointer (some ⟨w1.heap.size + 1 + 1, 0, none⟩)]] 54)
          rw [show (w1.alloc (.map #[] 0)).heap.size = w1.heap.size + 1 by simp [World.alloc, -World.alloc_eq]] at hk
          rw [show ((w1.alloc (.map #[] 0)).alloc (.cells #[.map (some w1.heap.size)] 64)).heap.size = w1.heap.size + 1 + 1 by simp [World.alloc, -World.alloc_eq]] at hf
          exact ⟨⟨blk_alloc (blk_alloc (blk_alloc B5.out.2 _) _) _, blk_alloc (blk_alloc (blk_alloc B4.out.2 _) _) _, blk_alloc hk _, blk_alloc (blk_alloc (blk_alloc B3.out.2 _) _) _, blk_alloc (blk_alloc (blk_alloc B8.out.2 _) _) _, hf, ((World.ownsMap_made w1 _ _ _).alloc _).alloc _, HR0.out, HC0.out, below_alloc (below_alloc (below_alloc HB.out _) _) _, HB.out.size, by omega, by omega, by omega, by omega, by omega, by omega⟩⟩
        have B6b := Aside0.mk (blk_alloc (blk_alloc (blk_alloc B6.out.2 (.map #[] 0)) (.cells #[.map (some w1.heap.size)] 64)) (.cells #[.func (.func 69) #[] #[.pointer (some ⟨w.heap.size + 1 + 1, 0, none⟩), .pointer (some ⟨w.heap.size + 1, 0, none⟩), .pointer (some ⟨w1.heap.size + 1, 0, none⟩), .pointer (some ⟨w.heap.size, 0, none⟩), .pointer (some ⟨w.heap.size + 1 + 1 + 1 + 1, 0, none⟩), .pointer (some ⟨w1.heap.size + 1 + 1, 0, none⟩)]] 54))
        have HN6 : Aside0 (w.heap.size + 1 + 1 + 1 ≠ w1.heap.size) := ⟨by omega⟩
        refine (first1.calls HAN.out.2.2 an bn HAN.out.1.1 HAN.out.2.1.1 HAN.out.1.2 HAN.out.2.1.2 k 0 0 0 (.map []) _ z1 z2 rfl (by decide) (by decide) HZ.out HV.out (MemoF.start l0 a1 a2)).mono ?_
        rintro e w5 ⟨rfl, N2, D2, hN2, hV2, hM2, hE2⟩
        have HV2 := Aside0.mk hV2
        have B6c := Aside0.mk (hE2.2 _ _ HN6.out B6b.out)
        clear c30 c40 c50 c60 c61 c80 f60 f61 hl3 hl4 hl5 hl6_ hl8 hV2 hM2 hE2 hN2
        have c60 := blk_cell B6c.out 0
        have c61 := blk_cell B6c.out 1
        have f60 := blk_frozen B6c.out 0
        have f61 := blk_frozen B6c.out 1
        go_wp2_with fail
        (try simp only [Exit.inBlock, Exit.then])
        refine bodyPost_ret (by simp [results, res41, go_sem, c60, c61]; try rfl) rfl ?_
        exact ⟨rfl, below_set' (below_set' HV2.out.bel HLE.out _) HLE.out _⟩
end Go.Proofs.Ytigmhomfadimnaa.X
