/- The contract of packets.Last: valid weights, a set of them and a kind of it, then the loop over the parts of the others. -/
import Derived.Test.YtigmhomfadimnaaQHBoxes
import Derived.Test.YtigmhomfadimnaaQHParts
import Derived.Test.YtigmhomfadimnaaQHIsSet
import Derived.Test.YtigmhomfadimnaaQHMean
import Derived.Test.YtigmhomfadimnaaQXP
set_option linter.unusedVariables false
set_option linter.unusedSimpArgs false
namespace Go.Proofs.Ytigmhomfadimnaa.X
open Go.RowKit Go.Proofs.YtigmhomfadimnaaW.PrintWords Go.Proofs.YtigmhomfadimnaaW.PrintLast Go.Proofs.YtigmhomfadimnaaW.PrintMore
attribute [local go_sem] Oper.semAt_some

/-- One round: a part, and the sum so far. -/
def packets_Last.step (k : Nat) (l0 : List Int) (a2 p s1 s2 : Int) : Option (Int × Int) :=
  (packets_sign.f k p).bind fun t1 => (packets_weights_of.f k l0 p).bind fun t2 => (packets_frac.f k (wrap64 (t1 * rd l0 a2)) (wrap64 (rd l0 a2 + t2))).bind fun b => packets_plus.f k s1 s2 b.1 b.2
def packets_Last.go (k : Nat) (l0 : List Int) (a2 : Int) : List Int → Int → Int → Option (Int × Int)
  | [], s1, s2 => some (s1, s2)
  | p :: ps, s1, s2 => (packets_Last.step k l0 a2 p s1 s2).bind fun d => packets_Last.go k l0 a2 ps d.1 d.2
def packets_Last.f (k : Nat) (l0 : List Int) (a1 a2 : Int) : Option (Int × Int × Int) :=
  (packets_weights_isSet.f k l0 [a1]).bind fun t => if t = true then (if a2 < 0 then some (0, 0, 2) else if a2 ≥ (l0.length : Int) then some (0, 0, 2) else if Go.bits .and .i64 (shr .i64 a1 a2) 1 = 0 then some (0, 0, 2) else
    (packets_whole.f 0).bind fun z => if 0 ≤ Go.bits .andNot .i64 a1 (shl .i64 1 a2) then if Go.bits .andNot .i64 a1 (shl .i64 1 a2) < 9223372036854775808 then (packets_Last.go k l0 a2 (partsL (Go.bits .andNot .i64 a1 (shl .i64 1 a2))) z.1 z.2).bind fun s => some (s.1, s.2, 0) else none else none) else some (0, 0, 2)
/-- What stands in memory between two rounds. -/
def LastSt (w V : World) (g3 g5 g6 g8 g9 gB : Nat) (ad : Addr) (n c0 : Nat) (a2 v set s1 s2 : Int) (W : World) : Prop :=
  W.cell? ⟨g3, 0, none⟩ = some (.slice (some ad) n c0) ∧ W.cell? ⟨g5, 0, none⟩ = some (.int .i64 a2) ∧ W.cell? ⟨g8, 0, none⟩ = some (.slice (some ad) n c0) ∧ W.cell? ⟨g9, 0, none⟩ = some (.int .i64 s1) ∧ W.cell? ⟨g9, 1, none⟩ = some (.int .i64 s2) ∧ W.cell? (ad.add a2.toNat) = some (.int .i64 v) ∧ Below w.heap.size w W ∧
  Box w g3 #[.slice (some ad) n c0] 23 W ∧ Box w g5 #[.int .i64 a2] 3 W ∧ Box w g6 #[.int .i64 0, .int .i64 0] 25 W ∧ Box w g8 #[.slice (some ad) n c0] 52 W ∧ Box w g9 #[.int .i64 s1, .int .i64 s2] 25 W ∧ Box w gB #[.int .i64 set] 3 W ∧ (w.cell? (ad.add a2.toNat) = some (.int .i64 v) ∧ Below V.heap.size V W)
section
variable {w V W W1 : World} {g3 g5 g6 g8 g9 gB n c0 : Nat} {ad : Addr} {a2 v set s1 s2 : Int}
theorem LastSt.mk (hx : w.cell? (ad.add a2.toNat) = some (.int .i64 v)) (hb : Below w.heap.size w W) (h3 : Box w g3 #[.slice (some ad) n c0] 23 W) (h5 : Box w g5 #[.int .i64 a2] 3 W) (h6 : Box w g6 #[.int .i64 0, .int .i64 0] 25 W) (h8 : Box w g8 #[.slice (some ad) n c0] 52 W) (h9 : Box w g9 #[.int .i64 s1, .int .i64 s2] 25 W) (hB : Box w gB #[.int .i64 set] 3 W) (hV : Below V.heap.size V W) :
    LastSt w V g3 g5 g6 g8 g9 gB ad n c0 a2 v set s1 s2 W := ⟨h3.cell 0 rfl, h5.cell 0 rfl, h8.cell 0 rfl, h9.cell 0 rfl, h9.cell 1 rfl, (hb.cell (World.block_lt_of_cell? w _ hx)).trans hx, hb, h3, h5, h6, h8, h9, hB, hx, hV⟩
theorem LastSt.below (h : LastSt w V g3 g5 g6 g8 g9 gB ad n c0 a2 v set s1 s2 W) (hb : Below W.heap.size W W1) : LastSt w V g3 g5 g6 g8 g9 gB ad n c0 a2 v set s1 s2 W1 := by
  obtain ⟨-, -, -, -, -, -, h0, h3, h5, h6, h8, h9, hB, hx, hV⟩ := h
  exact .mk hx (below_step h0 hb) (h3.below hb) (h5.below hb) (h6.below hb) (h8.below hb) (h9.below hb) (hB.below hb) (below_step hV hb)
theorem LastSt.put (h : LastSt w V g3 g5 g6 g8 g9 gB ad n c0 a2 v set s1 s2 W) (n6 : g6 ≠ g9) (d1 d2 : Int) (W2 : World) (e : W2 = (W.setCell ⟨g9, 0, none⟩ (.int .i64 d1)).setCell ⟨g9, 1, none⟩ (.int .i64 d2)) : LastSt w W2 g3 g5 g6 g8 g9 gB ad n c0 a2 v set d1 d2 W2 := by
  subst e
  obtain ⟨-, -, -, -, -, -, h0, h3, h5, h6, h8, h9, hB, hx, hV⟩ := h
  have n3 := h3.ne h9 (by decide)
  have n5 := h5.ne h9 (by decide)
  have n8 := h8.ne h9 (by decide)
  have nB := hB.ne h9 (by decide)
  exact .mk hx (below_set' (below_set' h0 h9.1 _) h9.1 _) ((h3.far (p := ⟨g9, 0, none⟩) n3 _).far (p := ⟨g9, 1, none⟩) n3 _) ((h5.far (p := ⟨g9, 0, none⟩) n5 _).far (p := ⟨g9, 1, none⟩) n5 _) ((h6.far (p := ⟨g9, 0, none⟩) n6 _).far (p := ⟨g9, 1, none⟩) n6 _) ((h8.far (p := ⟨g9, 0, none⟩) n8 _).far (p := ⟨g9, 1, none⟩) n8 _) ((h9.put 0 _).put 1 _) ((hB.far (p := ⟨g9, 0, none⟩) nB _).far (p := ⟨g9, 1, none⟩) nB _) (Below.refl _ _)
theorem LastSt.own {B : Nat} {row : Option Nat} (h : LastSt w V g3 g5 g6 g8 g9 gB ad n c0 a2 v set s1 s2 W) (hb : w.heap.size ≤ B) (hg : W.grownBy W1 row) (hr : ∀ r, row = some r → B ≤ r ∧ ∃ o : Obj, W.heap[r]? = some o ∧ o.isCells = false) : LastSt w W1 g3 g5 g6 g8 g9 gB ad n c0 a2 v set s1 s2 W1 := by
  have hr' := fun r e => (hr r e).2
  obtain ⟨-, -, -, -, -, -, h0, h3, h5, h6, h8, h9, hB, hx, hV⟩ := h
  exact .mk hx (below_own h0 hb hg hr) (h3.grown hg hr') (h5.grown hg hr') (h6.grown hg hr') (h8.grown hg hr') (h9.grown hg hr') (hB.grown hg hr') (Below.refl _ _)
end

def lastT.T7 : Bool × List (List Nat × List Nat) := (true, [([], []), ([], []), ([1], [1]), ([], []), ([], []), ([3, 4], [3, 4]), ([5], [5]), ([2, 6], [2, 6]), ([], []), ([], []), ([8, 9], [8, 9]), ([10], [10]), ([], []), ([], []), ([12, 13, 2], [12, 13]), ([11, 14], [11, 14]), ([7, 15, 14], [7, 15]), ([0, 16, 16], [0, 16]), ([17, 17, 0, 1, 2, 3, 4, 5, 6, 7, 8, 9, 10, 11, 12, 13, 14, 15, 16, 17], [17])])
def lastT.B7 : List Nat := [0, 0, 2, 0, 0, 24, 56, 126, 0, 0, 768, 1792, 0, 0, 12294, 32518, 65534, 131071, 262143]
theorem lastT.tab7 : rtab .any (opsOf Try.f26 7) = lastT.T7 := by kernel_rfl
theorem lastT.bits7 : waitsOk lastT.T7.2 lastT.B7 = true := by kernel_rfl

set_option maxRecDepth 100000 in
set_option maxHeartbeats 8000000 in
theorem packets_Last.calls (k : Nat) (A0 : Option Addr) (c0 : Nat) (l0 : List Int) (a1 a2 : Int) (r1 r2 r3 : Int) (w : World) (hr0 : Kd.C (Kd.int .i64) w A0 l0.length l0) (hc0 : l0.length ≤ c0) (h : packets_Last.f k l0 a1 a2 = some (r1, r2, r3)) :
    Calls Try.prog 26 #[.slice A0 l0.length c0, .int .i64 a1, .int .i64 a2] w fun e w' => e = .returned (.tuple #[.agg #[.int .i64 r1, .int .i64 r2], .int .i64 r3]) ∧ Below w.heap.size w w' := by
  have hu25 := Try.underlying25
  have HR0 := Aside0.mk hr0
  have HC0 := Aside0.mk hc0
  clear hr0 hc0
  have HB := Aside0.mk (Below.refl w.heap.size w)
  unfold packets_Last.f at h
  replace h := Option.bind_eq_some_iff.mp h
  obtain ⟨t, ht, h⟩ := h
  have HT := Aside0.mk ht
  clear ht
  have HB1 := Aside0.mk (below_alloc HB.out (.cells #[.slice A0 l0.length c0] 23))
  have HB2 := Aside0.mk (below_alloc HB1.out (.cells #[.int .i64 a2] 3))
  have HB3 := Aside0.mk (below_alloc HB2.out (.cells #[.int .i64 0, .int .i64 0] 25))
  have HB4 := Aside0.mk (below_alloc HB3.out (.cells #[.slice A0 l0.length c0] 52))
  have HB5 := Aside0.mk (below_alloc HB4.out (.cells #[.int .i64 a1] 3))
  have B3 := Aside0.mk (((((Box.new HB.out #[.slice A0 l0.length c0] 23).alloc (.cells #[.int .i64 a2] 3)).alloc (.cells #[.int .i64 0, .int .i64 0] 25)).alloc (.cells #[.slice A0 l0.length c0] 52)).alloc (.cells #[.int .i64 a1] 3))
  have B5 := Aside0.mk ((((Box.new HB1.out #[.int .i64 a2] 3).alloc (.cells #[.int .i64 0, .int .i64 0] 25)).alloc (.cells #[.slice A0 l0.length c0] 52)).alloc (.cells #[.int .i64 a1] 3))
  have B6 := Aside0.mk (((Box.new HB2.out #[.int .i64 0, .int .i64 0] 25).alloc (.cells #[.slice A0 l0.length c0] 52)).alloc (.cells #[.int .i64 a1] 3))
  have B8 := Aside0.mk ((Box.new HB3.out #[.slice A0 l0.length c0] 52).alloc (.cells #[.int .i64 a1] 3))
  have BL := Aside0.mk (Box.new HB4.out #[.int .i64 a1] 3)
  simp only [World.size_alloc] at B5 B6 B8 BL
  refine calls_of_marks Try.func26 rfl ?_
  simp only [Try.ntmps26, List.size_toArray, List.length_cons, List.length_nil, Nat.reduceAdd, Nat.reduceSub, Array.replicate_succ, Array.replicate_zero, List.push_toArray, List.append_toArray, List.nil_append, List.cons_append]
  go_wp2_with fail
  refine (packets_weights_isSet.calls k A0 c0 l0 (some ⟨w.heap.size + 1 + 1 + 1 + 1, 0, none⟩) 1 [a1] t _ (Kd.C_below HR0.out HB5.out) HC0.out (C_one _ _ _ (BL.out.cell 0 rfl)) (by simp) HT.out).mono ?_
  rintro e w1 ⟨rfl, hb⟩
  replace HB := Aside0.mk (below_step HB5.out hb)
  replace B3 := Aside0.mk (B3.out.below hb)
  replace B5 := Aside0.mk (B5.out.below hb)
  replace B6 := Aside0.mk (B6.out.below hb)
  replace B8 := Aside0.mk (B8.out.below hb)
  clear hb BL HB1 HB2 HB3 HB4 HB5
  have c30 := B3.out.cell 0 rfl
  have c50 := B5.out.cell 0 rfl
  have c60 := B6.out.cell 0 rfl
  have c61 := B6.out.cell 1 rfl
  have c80 := B8.out.cell 0 rfl
  have f60 := B6.out.frozen 0
  have f61 := B6.out.frozen 1
  cases t with
  | false =>
    obtain ⟨rfl, rfl, rfl⟩ : 0 = r1 ∧ 0 = r2 ∧ 2 = r3 := by simpa using h
    clear h
    go_wp2
    refine marks_ret (results_ct rfl _ _ (w.heap.size + 1 + 1) 25 #[.int .i64 0, .int .i64 0] (0, 0) _ rfl ((B6.out.put 0 _).put 1 _).2 Try.underlying25 rfl (by kernel_rfl)) ⟨rfl, below_set' (below_set' HB.out (by show w.heap.size ≤ w.heap.size + 1 + 1; omega) _) (by show w.heap.size ≤ w.heap.size + 1 + 1; omega) _⟩
  | true =>
    simp only [if_true] at h
    by_cases g1 : a2 < 0
    · rw [if_pos g1] at h
      have g1b : decide (a2 < 0) = true := decide_eq_true g1
      obtain ⟨rfl, rfl, rfl⟩ : 0 = r1 ∧ 0 = r2 ∧ 2 = r3 := by simpa using h
      clear h g1
      go_wp2
      refine marks_ret (results_ct rfl _ _ (w.heap.size + 1 + 1) 25 #[.int .i64 0, .int .i64 0] (0, 0) _ rfl ((B6.out.put 0 _).put 1 _).2 Try.underlying25 rfl (by kernel_rfl)) ⟨rfl, below_set' (below_set' HB.out (by show w.heap.size ≤ w.heap.size + 1 + 1; omega) _) (by show w.heap.size ≤ w.heap.size + 1 + 1; omega) _⟩
    rw [if_neg g1] at h
    have g1b : decide (a2 < 0) = false := decide_eq_false g1
    by_cases g2 : a2 ≥ (l0.length : Int)
    · rw [if_pos g2] at h
      have g2b : decide ((l0.length : Int) ≤ a2) = true := decide_eq_true g2
      obtain ⟨rfl, rfl, rfl⟩ : 0 = r1 ∧ 0 = r2 ∧ 2 = r3 := by simpa using h
      clear h g1 g2
      go_wp2
      refine marks_ret (results_ct rfl _ _ (w.heap.size + 1 + 1) 25 #[.int .i64 0, .int .i64 0] (0, 0) _ rfl ((B6.out.put 0 _).put 1 _).2 Try.underlying25 rfl (by kernel_rfl)) ⟨rfl, below_set' (below_set' HB.out (by show w.heap.size ≤ w.heap.size + 1 + 1; omega) _) (by show w.heap.size ≤ w.heap.size + 1 + 1; omega) _⟩
    rw [if_neg g2] at h
    have g2b : decide ((l0.length : Int) ≤ a2) = false := decide_eq_false g2
    have g0 : 0 ≤ a2 := by omega
    have g0b : decide (0 ≤ a2) = true := decide_eq_true g0
    have g3b : decide (a2 < (l0.length : Int)) = true := decide_eq_true (by omega)
    have hl6 : (l0.length : Int) ≤ 9223372036854775807 := by have := HR0.out.2.1; omega
    obtain ⟨ji1, hji1⟩ : ∃ j_ : Int, (shr .i64 a1 a2) = j_ := ⟨_, rfl⟩
    rw [hji1] at h
    have hji1_ : (a1 / 2 ^ min a2.toNat 64) = ji1 := hji1
    have hji1z : a2 ≤ 64 → (a1 / 2 ^ a2.toNat) = ji1 := shr_small hji1
    have g0p := eq_true g0
    by_cases g4 : Go.bits .and .i64 ji1 1 = 0
    · rw [if_pos g4] at h
      have g4b : decide (Go.bits .and .i64 ji1 1 = 0) = true := decide_eq_true g4
      obtain ⟨rfl, rfl, rfl⟩ : 0 = r1 ∧ 0 = r2 ∧ 2 = r3 := by simpa using h
      clear h g1 g2
      go_wp2
      refine marks_ret (results_ct rfl _ _ (w.heap.size + 1 + 1) 25 #[.int .i64 0, .int .i64 0] (0, 0) _ rfl ((B6.out.put 0 _).put 1 _).2 Try.underlying25 rfl (by kernel_rfl)) ⟨rfl, below_set' (below_set' HB.out (by show w.heap.size ≤ w.heap.size + 1 + 1; omega) _) (by show w.heap.size ≤ w.heap.size + 1 + 1; omega) _⟩
    rw [if_neg g4] at h
    have g4b : decide (Go.bits .and .i64 ji1 1 = 0) = false := decide_eq_false g4
    replace h := Option.bind_eq_some_iff.mp h
    obtain ⟨⟨z1, z2⟩, hz, h⟩ := h
    have HZ := Aside0.mk hz
    clear hz
    obtain ⟨ji2, hji2⟩ : ∃ j_ : Int, (shl .i64 1 a2) = j_ := ⟨_, rfl⟩
    rw [hji2] at h
    have hji2_ : (IntKind.i64.wrap (1 * 2 ^ min a2.toNat 64)) = ji2 := hji2
    have hji2z : a2 ≤ 64 → (IntKind.i64.wrap (1 * 2 ^ a2.toNat)) = ji2 := shl_small hji2
    have hji2u : (IntKind.i64.wrap (2 ^ min a2.toNat 64)) = ji2 := by have h_ := hji2_; rw [Int.one_mul] at h_; exact h_
    have hji2v : a2 ≤ 64 → (IntKind.i64.wrap (2 ^ a2.toNat)) = ji2 := fun hle_ => by have h_ := hji2z hle_; rw [Int.one_mul] at h_; exact h_
    have hji2y : (wrap64 (1 * 2 ^ min a2.toNat 64)) = ji2 := (i64_w _).symm.trans hji2_
    obtain ⟨set', hset'⟩ : ∃ s_ : Int, Go.bits .andNot .i64 a1 ji2 = s_ := ⟨_, rfl⟩
    rw [hset'] at h
    by_cases hs0 : 0 ≤ set'
    case neg => rw [if_neg hs0] at h; cases h
    rw [if_pos hs0] at h
    by_cases hs1 : set' < 9223372036854775808
    case neg => rw [if_neg hs1] at h; cases h
    rw [if_pos hs1] at h
    replace h := Option.bind_eq_some_iff.mp h
    obtain ⟨⟨y1, y2⟩, hy, h⟩ := h
    obtain ⟨rfl, rfl, rfl⟩ : y1 = r1 ∧ y2 = r2 ∧ 0 = r3 := by simpa using h
    have HY := Aside0.mk hy
    clear h hy
    obtain ⟨ad, ead, hx⟩ := Kd.at_int HR0.out a2 g0 (by omega)
    cases ead
    have HX := Aside0.mk hx
    clear hx
    go_wp2_with fail
    refine (packets_whole.calls 0 z1 z2 _ HZ.out).mono ?_
    rintro e w2 ⟨rfl, hd⟩
    replace HB := Aside0.mk (below_step HB.out hd)
    replace B3 := Aside0.mk (B3.out.below hd)
    replace B5 := Aside0.mk (B5.out.below hd)
    replace B6 := Aside0.mk (B6.out.below hd)
    replace B8 := Aside0.mk (B8.out.below hd)
    clear hd c30 c50 c60 c61 c80 f60 f61
    have c50 := B5.out.cell 0 rfl
    have B9 := Aside0.mk ((Box.new HB.out #[.int .i64 z1, .int .i64 z2] 25).alloc (.cells #[.int .i64 set'] 3))
    have HB1 := Aside0.mk (below_alloc HB.out (.cells #[.int .i64 z1, .int .i64 z2] 25))
    have BB := Aside0.mk (Box.new HB1.out #[.int .i64 set'] 3)
    have HB2 := Aside0.mk (below_alloc HB1.out (.cells #[.int .i64 set'] 3))
    rw [World.size_alloc] at BB
    have d50 := (B5.out.alloc (.cells #[.int .i64 z1, .int .i64 z2] 25)).cell 0 rfl
    go_wp2_with fail
    refine (parts_calls set' _).mono ?_
    rintro e w3 ⟨rfl, rfl⟩
    go_wp2
    have HSET := Aside0.mk (parts_seq (w2.heap.size + 1) set' hs0 (by omega) _ (by simp) (BB.out.cell 0 rfl))
    have HST0 : Aside0 (LastSt w _ w.heap.size (w.heap.size + 1) (w.heap.size + 1 + 1) (w.heap.size + 1 + 1 + 1) w2.heap.size (w2.heap.size + 1) ad l0.length c0 a2 (rd l0 a2) set' z1 z2 ((w2.alloc (.cells #[.int .i64 z1, .int .i64 z2] 25)).alloc (.cells #[.int .i64 set'] 3))) :=
      ⟨.mk HX.out HB2.out ((B3.out.alloc _).alloc _) ((B5.out.alloc _).alloc _) ((B6.out.alloc _).alloc _) ((B8.out.alloc _).alloc _) B9.out BB.out (Below.refl _ _)⟩
    have N6 : Aside0 (w.heap.size + 1 + 1 ≠ w2.heap.size) := ⟨by have := B6.out.lt; omega⟩
    clear c50 d50 B3 B5 B6 B8 B9 BB HB HB1 HT HZ hji1 hji1_ hji1z hji2 hji2_ hji2z hji2u hji2v hji2y
    refine rangeL (gf := 76) (lb := #[.pointer (some ⟨w2.heap.size + 1, 0, none⟩)]) rfl (fun args w => enters_ Try.func76 (by kernel_rfl) rfl args w) HSET.out (fun h h' => Eq.trans h' h) ?keepsB (Below.refl _ _) rfl
      (fun j W => ∃ s1 s2 : Int, Aside0 (packets_Last.go k l0 a2 ((partsL set').drop j) s1 s2 = some (y1, y2)) ∧ Aside0 (LastSt w W w.heap.size (w.heap.size + 1) (w.heap.size + 1 + 1) (w.heap.size + 1 + 1 + 1) w2.heap.size (w2.heap.size + 1) ad l0.length c0 a2 (rd l0 a2) set' s1 s2 W)) ?own ⟨z1, z2, HY, HST0⟩
      (fun x => { tmps := #[.slice (some ad) l0.length c0, .int .i64 a1, .int .i64 a2, .pointer (some ⟨w.heap.size, 0, none⟩), undef, .pointer (some ⟨w.heap.size + 1, 0, none⟩), .pointer (some ⟨w.heap.size + 1 + 1, 0, none⟩), .int .i64 0, .pointer (some ⟨w.heap.size + 1 + 1 + 1, 0, none⟩), .pointer (some ⟨w2.heap.size, 0, none⟩), .int .i64 x, .slice (some ad) l0.length c0, .slice (some ad) l0.length c0, .int .i64 a1, .slice (some ⟨w.heap.size + 1 + 1 + 1 + 1, 0, none⟩) 1 1, .bool true, .bool false, .bool false, .int .i64 a2, .bool false, .bool false, .bool false, .int .i64 a2, .slice (some ad) l0.length c0, .int .i64 l0.length, .bool false, .bool false, .bool false, .int .i64 a1, .int .i64 a2, .int .i64 ji1, .int .i64 (Go.bits .and .i64 ji1 1), .bool false, .bool false, undef, .agg #[.int .i64 z1, .int .i64 z2], .int .i64 a1, .int .i64 a2, .int .i64 ji2, .int .i64 set', .func (.func 76) #[] #[.pointer (some ⟨w2.heap.size + 1, 0, none⟩)], .int .i64 x, undef, undef, undef, undef, undef, undef, undef, undef, undef, undef, undef, undef, undef, undef, undef, undef, undef, undef, undef], defers := [] })
      ?assign ?body ?done
    case keepsB =>
      intro W l o o' hl _ _
      show (W.putObj l o').cell? _ = W.cell? _
      exact World.cell?_of_block (World.putObj_heap_other (by simp at hl; show w2.heap.size + 1 ≠ l; omega))
    case own =>
      rintro j W W' row ⟨s1, s2, h1, h2⟩ hg hr
      exact ⟨s1, s2, h1, ⟨h2.out.own (by have := HB2.out.size; exact this) hg hr⟩⟩
    case assign =>
      intro l x W K hK
      gi_wp2
      exact hK
    case body =>
      rintro l j W hj ⟨s1, s2, hgo, HST⟩
      have hd : (partsL set').drop j = (partsL set').getD j 0 :: (partsL set').drop (j + 1) := by
        rw [List.drop_eq_getElem_cons hj]; simp [hj]
      rw [hd] at hgo
      clear hd
      generalize (partsL set').getD j 0 = p at *
      replace hgo := Option.bind_eq_some_iff.mp hgo.out
      obtain ⟨⟨d1, d2⟩, hs, hgo⟩ := hgo
      have HGO := Aside0.mk hgo
      clear hgo HST0 HSET HY
      have HKP : Aside0 (∀ W', LastSt w W' w.heap.size (w.heap.size + 1) (w.heap.size + 1 + 1) (w.heap.size + 1 + 1 + 1) w2.heap.size (w2.heap.size + 1) ad l0.length c0 a2 (rd l0 a2) set' d1 d2 W' → keepsCell (w2.heap.size + 1) W W') := ⟨fun W' h' => (h'.2.2.2.2.2.2.2.2.2.2.2.2.1.cell 0 rfl).trans (HST.out.2.2.2.2.2.2.2.2.2.2.2.2.1.cell 0 rfl).symm⟩
      unfold packets_Last.step at hs
      replace hs := Option.bind_eq_some_iff.mp hs
      obtain ⟨t1, h1, hs⟩ := hs
      replace hs := Option.bind_eq_some_iff.mp hs
      obtain ⟨t2, h2, hs⟩ := hs
      replace hs := Option.bind_eq_some_iff.mp hs
      obtain ⟨⟨b1, b2⟩, h3, hs⟩ := hs
      have H1 := Aside0.mk h1
      have H2 := Aside0.mk h2
      have H3 := Aside0.mk h3
      have H4 := Aside0.mk hs
      clear h1 h2 h3 hs
      have p1 := eq_true g0
      have q1 : (a2 < (l0.length : Int)) = True := eq_true (by omega)
      gi_wp2
      refine startIn_ (n := 19) (S := LastSt w W w.heap.size (w.heap.size + 1) (w.heap.size + 1 + 1) (w.heap.size + 1 + 1 + 1) w2.heap.size (w2.heap.size + 1) ad l0.length c0 a2 (rd l0 a2) set' s1 s2) (ds := [18]) #[false, false, false, false, false, false, false, false, false, false, false, false, false, false, false, false, false, false, false] (by kernel_rfl) (by kernel_rfl) (fun _ _ h => h) rfl rfl (LastSt.below HST.out (below_drew (Below.refl _ _))) (fun hHeld => ?_)
      refine with_tabW lastT.tab7 lastT.bits7 (fun HT_ HW_ => ?_)
      refine take_ (i := 0) (N := some 42) (v := ?_) (a' := ?_) #[true, false, false, false, false, false, false, false, false, false, false, false, false, false, false, false, false, false, false] rfl rfl (take_ofW HT_.out HW_.out (by kernel_rfl)) (fun _ _ _ h => h) (Or.inl ⟨by rfl, ?_⟩) hHeld ?_ ?_
      rotate_left
      · rintro w' ⟨s0, s1, s2, s3, s4, s5, s6, s7, s8, s9, s10, s11, s12, s13⟩
        go_simp
        with_reducible rfl
      rotate_left
      · simp only [Act.put, List.setIfInBounds_toArray, List.set_cons_zero, List.set_cons_succ, i64_w, i32_w]
        rfl
      refine pure_ (i := 1) (N := some 43) (v := ?_) (a' := ?_) #[true, true, false, false, false, false, false, false, false, false, false, false, false, false, false, false, false, false, false] rfl rfl (any_of HT_.out (by kernel_rfl)) (fun _ _ _ h => h) (Or.inl ⟨by rfl, ?_⟩) ?_ ?_
      rotate_left
      · intro w'
        go_simp
        with_reducible rfl
      rotate_left
      · simp only [Act.put, List.setIfInBounds_toArray, List.set_cons_zero, List.set_cons_succ, i64_w, i32_w]
        rfl
      refine take_ (i := 3) (N := some 45) (v := ?_) (a' := ?_) #[true, true, false, true, false, false, false, false, false, false, false, false, false, false, false, false, false, false, false] rfl rfl (take_ofW HT_.out HW_.out (by kernel_rfl)) (fun _ _ _ h => h) (Or.inl ⟨by rfl, ?_⟩) hHeld ?_ ?_
      rotate_left
      · rintro w' ⟨s0, s1, s2, s3, s4, s5, s6, s7, s8, s9, s10, s11, s12, s13⟩
        go_simp
        with_reducible rfl
      rotate_left
      · simp only [Act.put, List.setIfInBounds_toArray, List.set_cons_zero, List.set_cons_succ, i64_w, i32_w]
        rfl
      refine take_ (i := 4) (N := some 46) (v := ?_) (a' := ?_) #[true, true, false, true, true, false, false, false, false, false, false, false, false, false, false, false, false, false, false] rfl rfl (take_ofW HT_.out HW_.out (by kernel_rfl)) (fun _ _ _ h => h) (Or.inl ⟨by rfl, ?_⟩) hHeld ?_ ?_
      rotate_left
      · rintro w' ⟨s0, s1, s2, s3, s4, s5, s6, s7, s8, s9, s10, s11, s12, s13⟩
        go_simp
        with_reducible rfl
      rotate_left
      · simp only [Act.put, List.setIfInBounds_toArray, List.set_cons_zero, List.set_cons_succ, i64_w, i32_w]
        rfl
      refine pure_ (i := 5) (N := some 47) (v := ?_) (a' := ?_) #[true, true, false, true, true, true, false, false, false, false, false, false, false, false, false, false, false, false, false] rfl rfl (any_of HT_.out (by kernel_rfl)) (fun _ _ _ h => h) (Or.inl ⟨by rfl, ?_⟩) ?_ ?_
      rotate_left
      · intro w'
        go_simp
        with_reducible rfl
      rotate_left
      · simp only [Act.put, List.setIfInBounds_toArray, List.set_cons_zero, List.set_cons_succ, i64_w, i32_w]
        rfl
      refine take_ (i := 6) (N := some 48) (v := ?_) (a' := ?_) #[true, true, false, true, true, true, true, false, false, false, false, false, false, false, false, false, false, false, false] rfl rfl (take_ofW HT_.out HW_.out (by kernel_rfl)) (fun _ _ _ h => h) (Or.inl ⟨by rfl, ?_⟩) hHeld ?_ ?_
      rotate_left
      · rintro w' ⟨s0, s1, s2, s3, s4, s5, s6, s7, s8, s9, s10, s11, s12, s13⟩
        go_simp
        with_reducible rfl
      rotate_left
      · simp only [Act.put, List.setIfInBounds_toArray, List.set_cons_zero, List.set_cons_succ, i64_w, i32_w]
        rfl
      refine take_ (i := 8) (N := some 50) (v := ?_) (a' := ?_) #[true, true, false, true, true, true, true, false, true, false, false, false, false, false, false, false, false, false, false] rfl rfl (take_ofW HT_.out HW_.out (by kernel_rfl)) (fun _ _ _ h => h) (Or.inl ⟨by rfl, ?_⟩) hHeld ?_ ?_
      rotate_left
      · rintro w' ⟨s0, s1, s2, s3, s4, s5, s6, s7, s8, s9, s10, s11, s12, s13⟩
        go_simp
        with_reducible rfl
      rotate_left
      · simp only [Act.put, List.setIfInBounds_toArray, List.set_cons_zero, List.set_cons_succ, i64_w, i32_w]
        rfl
      refine take_ (i := 9) (N := some 51) (v := ?_) (a' := ?_) #[true, true, false, true, true, true, true, false, true, true, false, false, false, false, false, false, false, false, false] rfl rfl (take_ofW HT_.out HW_.out (by kernel_rfl)) (fun _ _ _ h => h) (Or.inl ⟨by rfl, ?_⟩) hHeld ?_ ?_
      rotate_left
      · rintro w' ⟨s0, s1, s2, s3, s4, s5, s6, s7, s8, s9, s10, s11, s12, s13⟩
        go_simp
        with_reducible rfl
      rotate_left
      · simp only [Act.put, List.setIfInBounds_toArray, List.set_cons_zero, List.set_cons_succ, i64_w, i32_w]
        rfl
      refine pure_ (i := 10) (N := some 52) (v := ?_) (a' := ?_) #[true, true, false, true, true, true, true, false, true, true, true, false, false, false, false, false, false, false, false] rfl rfl (any_of HT_.out (by kernel_rfl)) (fun _ _ _ h => h) (Or.inl ⟨by rfl, ?_⟩) ?_ ?_
      rotate_left
      · intro w'
        go_simp
        with_reducible rfl
      rotate_left
      · simp only [Act.put, List.setIfInBounds_toArray, List.set_cons_zero, List.set_cons_succ, i64_w, i32_w]
        rfl
      refine take_ (i := 11) (N := some 53) (v := ?_) (a' := ?_) #[true, true, false, true, true, true, true, false, true, true, true, true, false, false, false, false, false, false, false] rfl rfl (take_ofW HT_.out HW_.out (by kernel_rfl)) (fun _ _ _ h => h) (Or.inl ⟨by rfl, ?_⟩) hHeld ?_ ?_
      rotate_left
      · rintro w' ⟨s0, s1, s2, s3, s4, s5, s6, s7, s8, s9, s10, s11, s12, s13⟩
        go_simp
        with_reducible rfl
      rotate_left
      · simp only [Act.put, List.setIfInBounds_toArray, List.set_cons_zero, List.set_cons_succ, i64_w, i32_w]
        rfl
      refine take_ (i := 12) (N := some 54) (v := ?_) (a' := ?_) #[true, true, false, true, true, true, true, false, true, true, true, true, true, false, false, false, false, false, false] rfl rfl (take_ofW HT_.out HW_.out (by kernel_rfl)) (fun _ _ _ h => h) (Or.inl ⟨by rfl, ?_⟩) hHeld ?_ ?_
      rotate_left
      · rintro w' ⟨s0, s1, s2, s3, s4, s5, s6, s7, s8, s9, s10, s11, s12, s13⟩
        go_simp
        with_reducible rfl
      rotate_left
      · simp only [Act.put, List.setIfInBounds_toArray, List.set_cons_zero, List.set_cons_succ, i64_w, i32_w]
        rfl
      refine pure_ (i := 13) (N := some 55) (v := ?_) (a' := ?_) #[true, true, false, true, true, true, true, false, true, true, true, true, true, true, false, false, false, false, false] rfl rfl (any_of HT_.out (by kernel_rfl)) (fun _ _ _ h => h) (Or.inl ⟨by rfl, ?_⟩) ?_ ?_
      rotate_left
      · intro w'
        go_simp
        with_reducible rfl
      rotate_left
      · simp only [Act.put, List.setIfInBounds_toArray, List.set_cons_zero, List.set_cons_succ, i64_w, i32_w]
        rfl
      refine one_ (i := 2) (N := some 44) #[true, true, true, true, true, true, true, false, true, true, true, true, true, true, false, false, false, false, false] rfl rfl (one_of HT_.out (by kernel_rfl)) (by decide) (fun K hK => ?_)
      refine goes_ Try.func53 (by kernel_rfl) rfl #[.int .i64 p] (by rfl) rfl rfl (by (try simp only [List.map_toArray, List.map_cons, List.map_nil]); first | done | rfl | (simp only [List.length_drop, List.length_take]; rfl)) ?_
      refine (packets_sign.calls k p t1 _ H1.out).mono ?_
      rintro e wr1 ⟨rfl, hb⟩
      replace hb := hb.below
      refine ⟨_, rfl, ?_⟩
      refine hK.out _ _ (LastSt.below hHeld hb) (fun hHeld => ?_)
      clear hK K hb
      refine norm_ (a' := ?_) ?_ ?_
      rotate_left
      · show Act.put _ (some 44) _ = _
        simp only [Act.put, List.setIfInBounds_toArray, List.set_cons_zero, List.set_cons_succ, i64_w, i32_w]
        rfl
      refine pure_ (i := 7) (N := some 49) (v := ?_) (a' := ?_) #[true, true, true, true, true, true, true, true, true, true, true, true, true, true, false, false, false, false, false] rfl rfl (any_of HT_.out (by kernel_rfl)) (fun _ _ _ h => h) (Or.inl ⟨by rfl, ?_⟩) ?_ ?_
      rotate_left
      · intro w'
        go_simp
        with_reducible rfl
      rotate_left
      · simp only [Act.put, List.setIfInBounds_toArray, List.set_cons_zero, List.set_cons_succ, i64_w, i32_w]
        rfl
      refine one_ (i := 14) (N := some 56) #[true, true, true, true, true, true, true, true, true, true, true, true, true, true, true, false, false, false, false] rfl rfl (one_of HT_.out (by kernel_rfl)) (by decide) (fun K hK => ?_)
      refine goes_ Try.func54 (by kernel_rfl) rfl #[.slice (some ad) l0.length c0, .int .i64 p] (by rfl) rfl rfl (by (try simp only [List.map_toArray, List.map_cons, List.map_nil]); first | done | rfl | (simp only [List.length_drop, List.length_take]; rfl)) ?_
      refine (packets_weights_of.calls k (some ad) c0 l0 p t2 _ (by exact Kd.C_below HR0.out hHeld.2.2.2.2.2.2.1) HC0.out H2.out).mono ?_
      rintro e wr2 ⟨rfl, hb⟩
      replace hb := hb.below
      refine ⟨_, rfl, ?_⟩
      refine hK.out _ _ (LastSt.below hHeld hb) (fun hHeld => ?_)
      clear hK K hb
      refine norm_ (a' := ?_) ?_ ?_
      rotate_left
      · show Act.put _ (some 56) _ = _
        simp only [Act.put, List.setIfInBounds_toArray, List.set_cons_zero, List.set_cons_succ, i64_w, i32_w]
        rfl
      refine pure_ (i := 15) (N := some 57) (v := ?_) (a' := ?_) #[true, true, true, true, true, true, true, true, true, true, true, true, true, true, true, true, false, false, false] rfl rfl (any_of HT_.out (by kernel_rfl)) (fun _ _ _ h => h) (Or.inl ⟨by rfl, ?_⟩) ?_ ?_
      rotate_left
      · intro w'
        go_simp
        with_reducible rfl
      rotate_left
      · simp only [Act.put, List.setIfInBounds_toArray, List.set_cons_zero, List.set_cons_succ, i64_w, i32_w]
        rfl
      refine one_ (i := 16) (N := some 58) #[true, true, true, true, true, true, true, true, true, true, true, true, true, true, true, true, true, false, false] rfl rfl (one_of HT_.out (by kernel_rfl)) (by decide) (fun K hK => ?_)
      refine goes_ Try.func52 (by kernel_rfl) rfl #[.int .i64 (wrap64 (t1 * rd l0 a2)), .int .i64 (wrap64 (rd l0 a2 + t2))] (by rfl) rfl rfl (by (try simp only [List.map_toArray, List.map_cons, List.map_nil]); first | done | rfl | (simp only [List.length_drop, List.length_take]; rfl)) ?_
      refine (packets_frac.calls k (wrap64 (t1 * rd l0 a2)) (wrap64 (rd l0 a2 + t2)) b1 b2 _ H3.out).mono ?_
      rintro e wr3 ⟨rfl, hb⟩
      refine ⟨_, rfl, ?_⟩
      refine hK.out _ _ (LastSt.below hHeld hb) (fun hHeld => ?_)
      clear hK K hb
      refine norm_ (a' := ?_) ?_ ?_
      rotate_left
      · show Act.put _ (some 58) _ = _
        simp only [Act.put, List.setIfInBounds_toArray, List.set_cons_zero, List.set_cons_succ, i64_w, i32_w]
        rfl
      refine one_ (i := 17) (N := some 59) #[true, true, true, true, true, true, true, true, true, true, true, true, true, true, true, true, true, true, false] rfl rfl (one_of HT_.out (by kernel_rfl)) (by decide) (fun K hK => ?_)
      refine goes_ Try.func51 (by kernel_rfl) rfl #[.agg #[.int .i64 s1, .int .i64 s2], .agg #[.int .i64 b1, .int .i64 b2]] (by rfl) rfl rfl (by (try simp only [List.map_toArray, List.map_cons, List.map_nil]); first | done | rfl | (simp only [List.length_drop, List.length_take]; rfl)) ?_
      refine (packets_plus.calls k s1 s2 b1 b2 d1 d2 _ H4.out).mono ?_
      rintro e wr4 ⟨rfl, hb⟩
      refine ⟨_, rfl, ?_⟩
      refine hK.out _ _ (LastSt.below hHeld hb) (fun hHeld => ?_)
      clear hK K hb
      refine norm_ (a' := ?_) ?_ ?_
      rotate_left
      · show Act.put _ (some 59) _ = _
        simp only [Act.put, List.setIfInBounds_toArray, List.set_cons_zero, List.set_cons_succ, i64_w, i32_w]
        rfl
      refine last_ (i := 18) (N := none) #[true, true, true, true, true, true, true, true, true, true, true, true, true, true, true, true, true, true, true] rfl rfl (one_of HT_.out (by kernel_rfl)) (by decide) (fun K hK => ?_)
      have hs0 := hHeld.2.2.2.1
      have hs1 := hHeld.2.2.2.2.1
      have hf0 := hHeld.2.2.2.2.2.2.2.2.2.2.2.1.frozen 0
      have hf1 := hHeld.2.2.2.2.2.2.2.2.2.2.2.1.frozen 1
      have hHS := Aside0.mk hHeld
      clear hHeld
      refine skip_ (w1 := ?_) (by rfl) rfl ?_ ?_
      rotate_left
      · go_simp
        rfl
      refine hK.out _ _ ?_
      clear hK K
      refine done_ (done_of HT_.out (by kernel_rfl)) ?_
      have hfin := hHS.out.put N6.out d1 d2 _ rfl
      exact ⟨((keeps_below _ hHS.out.2.2.2.2.2.2.2.2.2.2.2.2.2.2).trans ((KeepsOthers.setCell _ _ _).from _)).trans ((KeepsOthers.setCell _ _ _).from _), HKP.out _ hfin, d1, d2, HGO, ⟨hfin⟩⟩
    case done =>
      rintro D W hD ⟨s1, s2, hgo, HST⟩ hk
      rw [List.drop_length] at hgo
      obtain ⟨rfl, rfl⟩ : s1 = y1 ∧ s2 = y2 := by simpa [packets_Last.go] using hgo.out
      have hs0 := HST.out.2.2.2.1
      have hs1 := HST.out.2.2.2.2.1
      have hf0 := HST.out.2.2.2.2.2.2.2.2.2.1.frozen 0
      have hf1 := HST.out.2.2.2.2.2.2.2.2.2.1.frozen 1
      have hc0 := HST.out.2.2.2.2.2.2.2.2.2.1.cell 0 rfl
      have hc1 := HST.out.2.2.2.2.2.2.2.2.2.1.cell 1 rfl
      have HK := Aside0.mk hk
      clear hk hgo
      go_wp2
      have hK := ((KeepsOthers.setCell W ⟨w.heap.size + 1 + 1, 0, none⟩ (.int .i64 s1)).trans (KeepsOthers.setCell _ ⟨w.heap.size + 1 + 1, 1, none⟩ (.int .i64 s2))).same D _ HK.out rfl
      refine marks_ret1 hK (results_ct rfl _ _ (w.heap.size + 1 + 1) 25 #[.int .i64 s1, .int .i64 s2] (0, 0) _ rfl (Box.ended ((HST.out.2.2.2.2.2.2.2.2.2.1.put 0 _).put 1 _) hK rfl).2 Try.underlying25 rfl (by kernel_rfl)) ⟨rfl, ?_⟩
      have hwD : w.heap.size ≤ D := Nat.le_trans HB2.out.size hD
      exact below_ended (below_set' (below_set' HST.out.2.2.2.2.2.2.1 (by show w.heap.size ≤ w.heap.size + 1 + 1; omega) _) (by show w.heap.size ≤ w.heap.size + 1 + 1; omega) _) hwD

end Go.Proofs.Ytigmhomfadimnaa.X
