/- The contract of packets.Mean: valid weights and a set of them, then the loop over the set's parts. -/
import Derived.Test.YtigmhomfadimnaaQHBoxes
import Derived.Test.YtigmhomfadimnaaQHParts
import Derived.Test.YtigmhomfadimnaaQHIsSet
import Derived.Test.YtigmhomfadimnaaQXP
set_option linter.unusedVariables false
set_option linter.unusedSimpArgs false
namespace Go.Proofs.Ytigmhomfadimnaa.X
open Go.RowKit Go.Proofs.YtigmhomfadimnaaW.PrintWords Go.Proofs.YtigmhomfadimnaaW.PrintLast Go.Proofs.YtigmhomfadimnaaW.PrintMore
attribute [local go_sem] Oper.semAt_some

/-- One round: a part, and the sum so far. -/
def packets_Mean.step (k : Nat) (l0 : List Int) (p : Int) (s1 s2 : Int) : Option (Int × Int) :=
  if 0 < p then (packets_sign.f k p).bind fun t1 => (packets_weights_all.f l0).bind fun t2 => (packets_weights_of.f k l0 t2).bind fun t3 => (packets_weights_of.f k l0 p).bind fun t4 =>
    (packets_frac.f k (wrap64 ((wrap64 (-t1)) * t3)) t4).bind fun b => packets_plus.f k s1 s2 b.1 b.2
  else some (s1, s2)
def packets_Mean.go (k : Nat) (l0 : List Int) : List Int → Int → Int → Option (Int × Int)
  | [], s1, s2 => some (s1, s2)
  | p :: ps, s1, s2 => (packets_Mean.step k l0 p s1 s2).bind fun d => packets_Mean.go k l0 ps d.1 d.2
def packets_Mean.f (k : Nat) (l0 : List Int) (a1 : Int) : Option (Int × Int × Int) :=
  (packets_weights_isSet.f k l0 [a1]).bind fun t => if t = true then ((packets_whole.f 0).bind fun z => (packets_Mean.go k l0 (partsL a1) z.1 z.2).bind fun s => some (s.1, s.2, 0)) else some (0, 0, 2)

theorem packets_Mean.mono_go (k : Nat) (l0 : List Int) : ∀ (L : List Int) (s1 s2 : Int), LeO (packets_Mean.go k l0 L s1 s2) (packets_Mean.go (k + 1) l0 L s1 s2) := by
  intro L
  induction L with
  | nil => exact fun _ _ => LeO.refl _
  | cons p L ih =>
    intro s1 s2
    unfold packets_Mean.go packets_Mean.step
    repeat' first
      | (with_reducible exact ih _ _)
      | (with_reducible exact packets_sign.mono _ _)
      | (with_reducible exact packets_weights_of.mono _ _ _)
      | (with_reducible exact packets_frac.mono _ _ _)
      | (with_reducible exact packets_plus.mono _ _ _ _ _)
      | (with_reducible exact LeO.refl _)
      | (with_reducible exact LeO.none _)
      | (with_reducible refine LeO.ite ?_ ?_)
      | (with_reducible refine LeO.bind ?_ (fun _ => ?_))
theorem packets_Mean.mono : ∀ a0 a1 k, LeO (packets_Mean.f k a0 a1) (packets_Mean.f (k + 1) a0 a1) := by
  intro a0 a1 k
  unfold packets_Mean.f
  repeat' first
      | (with_reducible exact packets_Mean.mono_go _ _ _ _ _)
      | (with_reducible exact packets_weights_isSet.mono _ _ _)
      | (with_reducible exact LeO.refl _)
      | (with_reducible exact LeO.none _)
      | (with_reducible refine LeO.ite ?_ ?_)
      | (with_reducible refine LeO.bind ?_ (fun _ => ?_))

/-- What stands in memory between two rounds. -/
def MeanSt (w V : World) (g4 g6 g7 gB : Nat) (A0 : Option Addr) (n c0 : Nat) (set s1 s2 : Int) (W : World) : Prop :=
  W.cell? ⟨g6, 0, none⟩ = some (.slice A0 n c0) ∧ W.cell? ⟨g7, 0, none⟩ = some (.int .i64 s1) ∧ W.cell? ⟨g7, 1, none⟩ = some (.int .i64 s2) ∧ Below w.heap.size w W ∧
  Box w g6 #[.slice A0 n c0] 52 W ∧ Box w g7 #[.int .i64 s1, .int .i64 s2] 25 W ∧ Box w g4 #[.int .i64 0, .int .i64 0] 25 W ∧ Box w gB #[.int .i64 set] 3 W ∧ Below V.heap.size V W
section
variable {w V W W1 : World} {g4 g6 g7 gB n c0 : Nat} {A0 : Option Addr} {set s1 s2 : Int}
theorem MeanSt.mk (hb : Below w.heap.size w W) (h6 : Box w g6 #[.slice A0 n c0] 52 W) (h7 : Box w g7 #[.int .i64 s1, .int .i64 s2] 25 W) (h4 : Box w g4 #[.int .i64 0, .int .i64 0] 25 W) (hB : Box w gB #[.int .i64 set] 3 W) (hV : Below V.heap.size V W) :
    MeanSt w V g4 g6 g7 gB A0 n c0 set s1 s2 W := ⟨h6.cell 0 rfl, h7.cell 0 rfl, h7.cell 1 rfl, hb, h6, h7, h4, hB, hV⟩
theorem MeanSt.below (h : MeanSt w V g4 g6 g7 gB A0 n c0 set s1 s2 W) (hb : Below W.heap.size W W1) : MeanSt w V g4 g6 g7 gB A0 n c0 set s1 s2 W1 :=
  .mk (below_step h.2.2.2.1 hb) (h.2.2.2.2.1.below hb) (h.2.2.2.2.2.1.below hb) (h.2.2.2.2.2.2.1.below hb) (h.2.2.2.2.2.2.2.1.below hb) (below_step h.2.2.2.2.2.2.2.2 hb)
theorem MeanSt.put (h : MeanSt w V g4 g6 g7 gB A0 n c0 set s1 s2 W) (h47 : g4 ≠ g7) (d1 d2 : Int) (W2 : World) (e : W2 = (W.setCell ⟨g7, 0, none⟩ (.int .i64 d1)).setCell ⟨g7, 1, none⟩ (.int .i64 d2)) : MeanSt w W2 g4 g6 g7 gB A0 n c0 set d1 d2 W2 := by
  subst e
  obtain ⟨-, -, -, hb, h6, h7, h4, hB, -⟩ := h
  have n6 := h6.ne h7 (by decide)
  have nB := hB.ne h7 (by decide)
  exact .mk (below_set' (below_set' hb h7.1 _) h7.1 _) ((h6.far (p := ⟨g7, 0, none⟩) n6 _).far (p := ⟨g7, 1, none⟩) n6 _) ((h7.put 0 _).put 1 _) ((h4.far (p := ⟨g7, 0, none⟩) h47 _).far (p := ⟨g7, 1, none⟩) h47 _) ((hB.far (p := ⟨g7, 0, none⟩) nB _).far (p := ⟨g7, 1, none⟩) nB _) (Below.refl _ _)
theorem MeanSt.own {B : Nat} {row : Option Nat} (h : MeanSt w V g4 g6 g7 gB A0 n c0 set s1 s2 W) (hB : w.heap.size ≤ B) (hg : W.grownBy W1 row) (hr : ∀ r, row = some r → B ≤ r ∧ ∃ o : Obj, W.heap[r]? = some o ∧ o.isCells = false) : MeanSt w W1 g4 g6 g7 gB A0 n c0 set s1 s2 W1 :=
  .mk (below_own h.2.2.2.1 hB hg hr) (h.2.2.2.2.1.grown hg (fun r e => (hr r e).2)) (h.2.2.2.2.2.1.grown hg (fun r e => (hr r e).2)) (h.2.2.2.2.2.2.1.grown hg (fun r e => (hr r e).2)) (h.2.2.2.2.2.2.2.1.grown hg (fun r e => (hr r e).2)) (Below.refl _ _)
end

def meanT.T8 : Bool × List (List Nat × List Nat) := (true, [([], []), ([], []), ([1], [1]), ([2], [2]), ([], []), ([], []), ([5, 2], [5]), ([4, 6, 6], [4, 6]), ([3, 7], [3, 7]), ([], []), ([], []), ([9, 10, 7], [9, 10]), ([8, 11, 11], [8, 11]), ([0, 12, 12], [0, 12]), ([13, 13, 0, 1, 2, 3, 4, 5, 6, 7, 8, 9, 10, 11, 12, 13], [13])])
def meanT.B8 : List Nat := [0, 0, 2, 6, 0, 0, 38, 118, 254, 0, 0, 1782, 4094, 8191, 16383]
theorem meanT.tab8 : rtab .any (opsOf Try.f18 8) = meanT.T8 := by kernel_rfl
theorem meanT.bits8 : waitsOk meanT.T8.2 meanT.B8 = true := by kernel_rfl

theorem isSet_range (k : Nat) (l0 : List Int) (a1 : Int) (h : packets_weights_isSet.f k l0 [a1] = some true) : 0 ≤ a1 ∧ a1 < 64 := by
  unfold packets_weights_isSet.f at h
  replace h := Option.bind_eq_some_iff.mp h
  obtain ⟨t, ht, h⟩ := h
  cases t with
  | false => simp at h
  | true =>
    have hl : l0.length ≤ 6 := by
      unfold packets_weights_valid.f at ht
      by_cases h1 : (l0.length : Int) ≥ 1
      · rw [if_pos h1] at ht
        by_cases h2 : (l0.length : Int) ≤ 6
        · omega
        · rw [if_neg h2] at ht
          simp at ht
      · rw [if_neg h1] at ht
        simp at ht
    simp only [if_true, Option.some.injEq, List.any_cons, List.any_nil, Bool.or_false, Bool.not_eq_true', noSet] at h
    by_cases h0 : a1 < 0
    · rw [if_pos h0] at h
      simp at h
    · rw [if_neg h0] at h
      have hs : shl .i64 1 (l0.length : Int) ≤ 64 := by
        have : l0.length = 0 ∨ l0.length = 1 ∨ l0.length = 2 ∨ l0.length = 3 ∨ l0.length = 4 ∨ l0.length = 5 ∨ l0.length = 6 := by omega
        rcases this with e | e | e | e | e | e | e <;> rw [e] <;> decide
      have h' := of_decide_eq_false h
      omega

theorem C_one (g : Nat) (a : Int) (W : World) (h : W.cell? ⟨g, 0, none⟩ = some (.int .i64 a)) : Kd.C (Kd.int .i64) W (some ⟨g, 0, none⟩) ([a] : List Int).length [a] :=
  Kd.C_of_reads (d := 0) ⟨rfl, by simp, fun _ => ⟨_, rfl, fun j hj => by
    obtain rfl : j = 0 := by simpa using hj
    exact h⟩⟩

set_option maxRecDepth 100000 in
set_option maxHeartbeats 8000000 in
theorem packets_Mean.calls (k : Nat) (A0 : Option Addr) (c0 : Nat) (l0 : List Int) (a1 : Int) (r1 r2 r3 : Int) (w : World) (hr0 : Kd.C (Kd.int .i64) w A0 l0.length l0) (hc0 : l0.length ≤ c0) (h : packets_Mean.f k l0 a1 = some (r1, r2, r3)) :
    Calls Try.prog 18 #[.slice A0 l0.length c0, .int .i64 a1] w fun e w' => e = .returned (.tuple #[.agg #[.int .i64 r1, .int .i64 r2], .int .i64 r3]) ∧ Below w.heap.size w w' := by
  have hu25 := Try.underlying25
  have HR0 := Aside0.mk hr0
  have HC0 := Aside0.mk hc0
  clear hr0 hc0
  have HB := Aside0.mk (Below.refl w.heap.size w)
  unfold packets_Mean.f at h
  replace h := Option.bind_eq_some_iff.mp h
  obtain ⟨t, ht, h⟩ := h
  have HT := Aside0.mk ht
  clear ht
  have HB1 := Aside0.mk (below_alloc HB.out (.cells #[.int .i64 0, .int .i64 0] 25))
  have HB2 := Aside0.mk (below_alloc HB1.out (.cells #[.slice A0 l0.length c0] 52))
  have HB3 := Aside0.mk (below_alloc HB2.out (.cells #[.int .i64 a1] 3))
  have B4 := Aside0.mk (((Box.new HB.out #[.int .i64 0, .int .i64 0] 25).alloc (.cells #[.slice A0 l0.length c0] 52)).alloc (.cells #[.int .i64 a1] 3))
  have B6 := Aside0.mk ((Box.new HB1.out #[.slice A0 l0.length c0] 52).alloc (.cells #[.int .i64 a1] 3))
  have BL := Aside0.mk (Box.new HB2.out #[.int .i64 a1] 3)
  rw [World.size_alloc] at B6 
  rw [World.size_alloc, World.size_alloc] at BL
  refine calls_of_marks Try.func18 rfl ?_
  simp only [Try.ntmps18, List.size_toArray, List.length_cons, List.length_nil, Nat.reduceAdd, Nat.reduceSub, Array.replicate_succ, Array.replicate_zero, List.push_toArray, List.append_toArray, List.nil_append, List.cons_append]
  go_wp2_with fail
  refine (packets_weights_isSet.calls k A0 c0 l0 (some ⟨w.heap.size + 1 + 1, 0, none⟩) 1 [a1] t _ (Kd.C_below HR0.out HB3.out) HC0.out (C_one _ _ _ (BL.out.cell 0 rfl)) (by simp) HT.out).mono ?_
  rintro e w1 ⟨rfl, hb⟩
  replace HB := Aside0.mk (below_step HB3.out hb)
  replace B4 := Aside0.mk (B4.out.below hb)
  replace B6 := Aside0.mk (B6.out.below hb)
  clear hb BL HB1 HB2 HB3
  have N46 : Aside0 (w.heap.size ≠ w.heap.size + 1) := ⟨by omega⟩
  have c40 := B4.out.cell 0 rfl
  have c41 := B4.out.cell 1 rfl
  have c60 := B6.out.cell 0 rfl
  have f40 := B4.out.frozen 0
  have f41 := B4.out.frozen 1
  cases t with
  | false =>
    obtain ⟨rfl, rfl, rfl⟩ : 0 = r1 ∧ 0 = r2 ∧ 2 = r3 := by simpa using h
    clear h
    go_wp2
    refine marks_ret (results_ct rfl _ _ w.heap.size 25 #[.int .i64 0, .int .i64 0] (0, 0) _ rfl ((B4.out.put 0 _).put 1 _).2 Try.underlying25 rfl (by kernel_rfl)) ⟨rfl, below_set' (below_set' HB.out (Nat.le_refl _) _) (Nat.le_refl _) _⟩
  | true =>
    simp only [if_true] at h
    replace h := Option.bind_eq_some_iff.mp h
    obtain ⟨⟨z1, z2⟩, hz, h⟩ := h
    replace h := Option.bind_eq_some_iff.mp h
    obtain ⟨⟨y1, y2⟩, hy, h⟩ := h
    obtain ⟨rfl, rfl, rfl⟩ : y1 = r1 ∧ y2 = r2 ∧ 0 = r3 := by simpa using h
    clear h
    have HZ := Aside0.mk hz
    have HY := Aside0.mk hy
    clear hz hy
    go_wp2_with fail
    refine (packets_whole.calls 0 z1 z2 _ HZ.out).mono ?_
    rintro e w2 ⟨rfl, hb⟩
    replace HB := Aside0.mk (below_step HB.out hb)
    replace B4 := Aside0.mk (B4.out.below hb)
    replace B6 := Aside0.mk (B6.out.below hb)
    clear c40 c41 c60 f40 f41 hb
    have B7 := Aside0.mk ((Box.new HB.out #[.int .i64 z1, .int .i64 z2] 25).alloc (.cells #[.int .i64 a1] 3))
    have HB1 := Aside0.mk (below_alloc HB.out (.cells #[.int .i64 z1, .int .i64 z2] 25))
    have BB := Aside0.mk (Box.new HB1.out #[.int .i64 a1] 3)
    have HB2 := Aside0.mk (below_alloc HB1.out (.cells #[.int .i64 a1] 3))
    rw [World.size_alloc] at BB
    go_wp2_with fail
    refine (parts_calls a1 _).mono ?_
    rintro e w3 ⟨rfl, rfl⟩
    go_wp2
    have hr := isSet_range k l0 a1 HT.out
    have HSET := Aside0.mk (parts_seq (w2.heap.size + 1) a1 hr.1 (by omega) _ (by simp) (BB.out.cell 0 rfl))
    have HST0 : Aside0 (MeanSt w _ w.heap.size (w.heap.size + 1) w2.heap.size (w2.heap.size + 1) A0 l0.length c0 a1 z1 z2 ((w2.alloc (.cells #[.int .i64 z1, .int .i64 z2] 25)).alloc (.cells #[.int .i64 a1] 3))) :=
      ⟨.mk HB2.out ((B6.out.alloc _).alloc _) B7.out ((B4.out.alloc _).alloc _) BB.out (Below.refl _ _)⟩
    have N47 : Aside0 (w.heap.size ≠ w2.heap.size) := ⟨by have := B4.out.lt; omega⟩
    clear B4 B6 B7 BB HB HB1 HZ hr
    refine rangeL (gf := 76) (lb := #[.pointer (some ⟨w2.heap.size + 1, 0, none⟩)]) rfl (fun args w => enters_ Try.func76 (by kernel_rfl) rfl args w) HSET.out (fun h h' => Eq.trans h' h) ?keepsB (Below.refl _ _) rfl
      (fun j W => ∃ s1 s2 : Int, Aside0 (packets_Mean.go k l0 ((partsL a1).drop j) s1 s2 = some (y1, y2)) ∧ Aside0 (MeanSt w W w.heap.size (w.heap.size + 1) w2.heap.size (w2.heap.size + 1) A0 l0.length c0 a1 s1 s2 W)) ?own ⟨z1, z2, HY, HST0⟩
      (fun x => { tmps := #[.slice A0 l0.length c0, .int .i64 a1, undef, undef, .pointer (some ⟨w.heap.size, 0, none⟩), .int .i64 0, .pointer (some ⟨w.heap.size + 1, 0, none⟩), .pointer (some ⟨w2.heap.size, 0, none⟩), .int .i64 x, .slice A0 l0.length c0, .slice A0 l0.length c0, .int .i64 a1, .slice (some ⟨w.heap.size + 1 + 1, 0, none⟩) 1 1, .bool true, .bool false, undef, .agg #[.int .i64 z1, .int .i64 z2], .int .i64 a1, .func (.func 76) #[] #[.pointer (some ⟨w2.heap.size + 1, 0, none⟩)], .int .i64 x, undef, undef, undef, undef, undef, undef, undef, undef, undef, undef, undef, undef, undef, undef, undef, undef, undef], defers := [] })
      ?assign ?body ?done
    case keepsB =>
      intro W l o o' hl _ _
      show (W.putObj l o').cell? _ = W.cell? _
      exact World.cell?_of_block (World.putObj_heap_other (by simp at hl; show w2.heap.size + 1 ≠ l; omega))
    case own =>
      rintro j W W' row ⟨s1, s2, h1, h2⟩ hg hr
      exact ⟨s1, s2, h1, ⟨h2.out.own (by have := HB2.out.size; exact this) hg hr⟩⟩
    case assign =>
      intro l x W K hK
      gi_wp2
      exact hK
    case body =>
      rintro l j W hj ⟨s1, s2, hgo, HST⟩
      have hd : (partsL a1).drop j = (partsL a1).getD j 0 :: (partsL a1).drop (j + 1) := by
        rw [List.drop_eq_getElem_cons hj]; simp [hj]
      rw [hd] at hgo
      clear hd
      generalize (partsL a1).getD j 0 = p at *
      replace hgo := Option.bind_eq_some_iff.mp hgo.out
      obtain ⟨⟨d1, d2⟩, hs, hgo⟩ := hgo
      have HGO := Aside0.mk hgo
      clear hgo HST0 HSET HY HT
      have HKP : Aside0 (∀ W', MeanSt w W' w.heap.size (w.heap.size + 1) w2.heap.size (w2.heap.size + 1) A0 l0.length c0 a1 d1 d2 W' → keepsCell (w2.heap.size + 1) W W') := ⟨fun W' h' => (h'.2.2.2.2.2.2.2.1.cell 0 rfl).trans (HST.out.2.2.2.2.2.2.2.1.cell 0 rfl).symm⟩
      unfold packets_Mean.step at hs
      by_cases hp : 0 < p
      · rw [if_pos hp] at hs
        have hp0 : decide (0 < p) = true := decide_eq_true hp
        replace hs := Option.bind_eq_some_iff.mp hs
        obtain ⟨t1, h1, hs⟩ := hs
        replace hs := Option.bind_eq_some_iff.mp hs
        obtain ⟨t2, h2, hs⟩ := hs
        replace hs := Option.bind_eq_some_iff.mp hs
        obtain ⟨t3, h3, hs⟩ := hs
        replace hs := Option.bind_eq_some_iff.mp hs
        obtain ⟨t4, h4, hs⟩ := hs
        replace hs := Option.bind_eq_some_iff.mp hs
        obtain ⟨⟨b1, b2⟩, h5, hs⟩ := hs
        have H1 := Aside0.mk h1
        have H2 := Aside0.mk h2
        have H3 := Aside0.mk h3
        have H4 := Aside0.mk h4
        have H5 := Aside0.mk h5
        have H6 := Aside0.mk hs
        clear h1 h2 h3 h4 h5 hs hp
        gi_wp2
        refine startIn_ (n := 15) (S := MeanSt w W w.heap.size (w.heap.size + 1) w2.heap.size (w2.heap.size + 1) A0 l0.length c0 a1 s1 s2) (ds := [14]) #[false, false, false, false, false, false, false, false, false, false, false, false, false, false, false] (by kernel_rfl) (by kernel_rfl) (fun _ _ h => h) rfl rfl (MeanSt.below HST.out (below_drew (Below.refl _ _))) (fun hHeld => ?_)
        refine with_tabW meanT.tab8 meanT.bits8 (fun HT_ HW_ => ?_)
        refine take_ (i := 0) (N := some 22) (v := ?_) (a' := ?_) #[true, false, false, false, false, false, false, false, false, false, false, false, false, false, false] rfl rfl (take_ofW HT_.out HW_.out (by kernel_rfl)) (fun _ _ _ h => h) (Or.inl ⟨by rfl, ?_⟩) hHeld ?_ ?_
        rotate_left
        · rintro w' ⟨s0, s1, s2, s3, s4, s5, s6, s7, s8⟩
          go_simp
          with_reducible rfl
        rotate_left
        · simp only [Act.put, List.setIfInBounds_toArray, List.set_cons_zero, List.set_cons_succ, i64_w, i32_w]
          rfl
        refine pure_ (i := 1) (N := some 23) (v := ?_) (a' := ?_) #[true, true, false, false, false, false, false, false, false, false, false, false, false, false, false] rfl rfl (any_of HT_.out (by kernel_rfl)) (fun _ _ _ h => h) (Or.inl ⟨by rfl, ?_⟩) ?_ ?_
        rotate_left
        · intro w'
          go_simp
          with_reducible rfl
        rotate_left
        · simp only [Act.put, List.setIfInBounds_toArray, List.set_cons_zero, List.set_cons_succ, i64_w, i32_w]
          rfl
        refine take_ (i := 4) (N := some 26) (v := ?_) (a' := ?_) #[true, true, false, false, true, false, false, false, false, false, false, false, false, false, false] rfl rfl (take_ofW HT_.out HW_.out (by kernel_rfl)) (fun _ _ _ h => h) (Or.inl ⟨by rfl, ?_⟩) hHeld ?_ ?_
        rotate_left
        · rintro w' ⟨s0, s1, s2, s3, s4, s5, s6, s7, s8⟩
          go_simp
          with_reducible rfl
        rotate_left
        · simp only [Act.put, List.setIfInBounds_toArray, List.set_cons_zero, List.set_cons_succ, i64_w, i32_w]
          rfl
        refine take_ (i := 5) (N := some 27) (v := ?_) (a' := ?_) #[true, true, false, false, true, true, false, false, false, false, false, false, false, false, false] rfl rfl (take_ofW HT_.out HW_.out (by kernel_rfl)) (fun _ _ _ h => h) (Or.inl ⟨by rfl, ?_⟩) hHeld ?_ ?_
        rotate_left
        · rintro w' ⟨s0, s1, s2, s3, s4, s5, s6, s7, s8⟩
          go_simp
          with_reducible rfl
        rotate_left
        · simp only [Act.put, List.setIfInBounds_toArray, List.set_cons_zero, List.set_cons_succ, i64_w, i32_w]
          rfl
        refine take_ (i := 9) (N := some 31) (v := ?_) (a' := ?_) #[true, true, false, false, true, true, false, false, false, true, false, false, false, false, false] rfl rfl (take_ofW HT_.out HW_.out (by kernel_rfl)) (fun _ _ _ h => h) (Or.inl ⟨by rfl, ?_⟩) hHeld ?_ ?_
        rotate_left
        · rintro w' ⟨s0, s1, s2, s3, s4, s5, s6, s7, s8⟩
          go_simp
          with_reducible rfl
        rotate_left
        · simp only [Act.put, List.setIfInBounds_toArray, List.set_cons_zero, List.set_cons_succ, i64_w, i32_w]
          rfl
        refine pure_ (i := 10) (N := some 32) (v := ?_) (a' := ?_) #[true, true, false, false, true, true, false, false, false, true, true, false, false, false, false] rfl rfl (any_of HT_.out (by kernel_rfl)) (fun _ _ _ h => h) (Or.inl ⟨by rfl, ?_⟩) ?_ ?_
        rotate_left
        · intro w'
          go_simp
          with_reducible rfl
        rotate_left
        · simp only [Act.put, List.setIfInBounds_toArray, List.set_cons_zero, List.set_cons_succ, i64_w, i32_w]
          rfl
        refine one_ (i := 2) (N := some 24) #[true, true, true, false, true, true, false, false, false, true, true, false, false, false, false] rfl rfl (one_of HT_.out (by kernel_rfl)) (by decide) (fun K hK => ?_)
        refine goes_ Try.func53 (by kernel_rfl) rfl #[.int .i64 p] (by rfl) rfl rfl (by (try simp only [List.map_toArray, List.map_cons, List.map_nil]); first | done | rfl | (simp only [List.length_drop, List.length_take]; rfl)) ?_
        refine (packets_sign.calls k p t1 _ H1.out).mono ?_
        rintro e wr1 ⟨rfl, hb⟩
        replace hb := hb.below
        refine ⟨_, rfl, ?_⟩
        refine hK.out _ _ (MeanSt.below hHeld hb) (fun hHeld => ?_)
        clear hK K hb
        refine norm_ (a' := ?_) ?_ ?_
        rotate_left
        · show Act.put _ (some 24) _ = _
          simp only [Act.put, List.setIfInBounds_toArray, List.set_cons_zero, List.set_cons_succ, i64_w, i32_w]
          rfl
        refine pure_ (i := 3) (N := some 25) (v := ?_) (a' := ?_) #[true, true, true, true, true, true, false, false, false, true, true, false, false, false, false] rfl rfl (any_of HT_.out (by kernel_rfl)) (fun _ _ _ h => h) (Or.inl ⟨by rfl, ?_⟩) ?_ ?_
        rotate_left
        · intro w'
          go_simp
          with_reducible rfl
        rotate_left
        · simp only [Act.put, List.setIfInBounds_toArray, List.set_cons_zero, List.set_cons_succ, i64_w, i32_w]
          rfl
        refine one_ (i := 6) (N := some 28) #[true, true, true, true, true, true, true, false, false, true, true, false, false, false, false] rfl rfl (one_of HT_.out (by kernel_rfl)) (by decide) (fun K hK => ?_)
        refine goes_ Try.func55 (by kernel_rfl) rfl #[.slice A0 l0.length c0] (by rfl) rfl rfl (by (try simp only [List.map_toArray, List.map_cons, List.map_nil]); first | done | rfl | (simp only [List.length_drop, List.length_take]; rfl)) ?_
        refine (packets_weights_all.calls A0 c0 l0 t2 _ (by exact Kd.C_below HR0.out hHeld.2.2.2.1) HC0.out H2.out).mono ?_
        rintro e wr2 ⟨rfl, hb⟩
        replace hb := hb.below
        refine ⟨_, rfl, ?_⟩
        refine hK.out _ _ (MeanSt.below hHeld hb) (fun hHeld => ?_)
        clear hK K hb
        refine norm_ (a' := ?_) ?_ ?_
        rotate_left
        · show Act.put _ (some 28) _ = _
          simp only [Act.put, List.setIfInBounds_toArray, List.set_cons_zero, List.set_cons_succ, i64_w, i32_w]
          rfl
        refine one_ (i := 7) (N := some 29) #[true, true, true, true, true, true, true, true, false, true, true, false, false, false, false] rfl rfl (one_of HT_.out (by kernel_rfl)) (by decide) (fun K hK => ?_)
        refine goes_ Try.func54 (by kernel_rfl) rfl #[.slice A0 l0.length c0, .int .i64 t2] (by rfl) rfl rfl (by (try simp only [List.map_toArray, List.map_cons, List.map_nil]); first | done | rfl | (simp only [List.length_drop, List.length_take]; rfl)) ?_
        refine (packets_weights_of.calls k A0 c0 l0 t2 t3 _ (by exact Kd.C_below HR0.out hHeld.2.2.2.1) HC0.out H3.out).mono ?_
        rintro e wr3 ⟨rfl, hb⟩
        replace hb := hb.below
        refine ⟨_, rfl, ?_⟩
        refine hK.out _ _ (MeanSt.below hHeld hb) (fun hHeld => ?_)
        clear hK K hb
        refine norm_ (a' := ?_) ?_ ?_
        rotate_left
        · show Act.put _ (some 29) _ = _
          simp only [Act.put, List.setIfInBounds_toArray, List.set_cons_zero, List.set_cons_succ, i64_w, i32_w]
          rfl
        refine pure_ (i := 8) (N := some 30) (v := ?_) (a' := ?_) #[true, true, true, true, true, true, true, true, true, true, true, false, false, false, false] rfl rfl (any_of HT_.out (by kernel_rfl)) (fun _ _ _ h => h) (Or.inl ⟨by rfl, ?_⟩) ?_ ?_
        rotate_left
        · intro w'
          go_simp
          with_reducible rfl
        rotate_left
        · simp only [Act.put, List.setIfInBounds_toArray, List.set_cons_zero, List.set_cons_succ, i64_w, i32_w]
          rfl
        refine one_ (i := 11) (N := some 33) #[true, true, true, true, true, true, true, true, true, true, true, true, false, false, false] rfl rfl (one_of HT_.out (by kernel_rfl)) (by decide) (fun K hK => ?_)
        refine goes_ Try.func54 (by kernel_rfl) rfl #[.slice A0 l0.length c0, .int .i64 p] (by rfl) rfl rfl (by (try simp only [List.map_toArray, List.map_cons, List.map_nil]); first | done | rfl | (simp only [List.length_drop, List.length_take]; rfl)) ?_
        refine (packets_weights_of.calls k A0 c0 l0 p t4 _ (by exact Kd.C_below HR0.out hHeld.2.2.2.1) HC0.out H4.out).mono ?_
        rintro e wr4 ⟨rfl, hb⟩
        replace hb := hb.below
        refine ⟨_, rfl, ?_⟩
        refine hK.out _ _ (MeanSt.below hHeld hb) (fun hHeld => ?_)
        clear hK K hb
        refine norm_ (a' := ?_) ?_ ?_
        rotate_left
        · show Act.put _ (some 33) _ = _
          simp only [Act.put, List.setIfInBounds_toArray, List.set_cons_zero, List.set_cons_succ, i64_w, i32_w]
          rfl
        refine one_ (i := 12) (N := some 34) #[true, true, true, true, true, true, true, true, true, true, true, true, true, false, false] rfl rfl (one_of HT_.out (by kernel_rfl)) (by decide) (fun K hK => ?_)
        refine goes_ Try.func52 (by kernel_rfl) rfl #[.int .i64 (wrap64 ((wrap64 (-t1)) * t3)), .int .i64 t4] (by rfl) rfl rfl (by (try simp only [List.map_toArray, List.map_cons, List.map_nil]); first | done | rfl | (simp only [List.length_drop, List.length_take]; rfl)) ?_
        refine (packets_frac.calls k (wrap64 ((wrap64 (-t1)) * t3)) t4 b1 b2 _ H5.out).mono ?_
        rintro e wr5 ⟨rfl, hb⟩
        refine ⟨_, rfl, ?_⟩
        refine hK.out _ _ (MeanSt.below hHeld hb) (fun hHeld => ?_)
        clear hK K hb
        refine norm_ (a' := ?_) ?_ ?_
        rotate_left
        · show Act.put _ (some 34) _ = _
          simp only [Act.put, List.setIfInBounds_toArray, List.set_cons_zero, List.set_cons_succ, i64_w, i32_w]
          rfl
        refine one_ (i := 13) (N := some 35) #[true, true, true, true, true, true, true, true, true, true, true, true, true, true, false] rfl rfl (one_of HT_.out (by kernel_rfl)) (by decide) (fun K hK => ?_)
        refine goes_ Try.func51 (by kernel_rfl) rfl #[.agg #[.int .i64 s1, .int .i64 s2], .agg #[.int .i64 b1, .int .i64 b2]] (by rfl) rfl rfl (by (try simp only [List.map_toArray, List.map_cons, List.map_nil]); first | done | rfl | (simp only [List.length_drop, List.length_take]; rfl)) ?_
        refine (packets_plus.calls k s1 s2 b1 b2 d1 d2 _ H6.out).mono ?_
        rintro e wr6 ⟨rfl, hb⟩
        refine ⟨_, rfl, ?_⟩
        refine hK.out _ _ (MeanSt.below hHeld hb) (fun hHeld => ?_)
        clear hK K hb
        refine norm_ (a' := ?_) ?_ ?_
        rotate_left
        · show Act.put _ (some 35) _ = _
          simp only [Act.put, List.setIfInBounds_toArray, List.set_cons_zero, List.set_cons_succ, i64_w, i32_w]
          rfl
        refine last_ (i := 14) (N := none) #[true, true, true, true, true, true, true, true, true, true, true, true, true, true, true] rfl rfl (one_of HT_.out (by kernel_rfl)) (by decide) (fun K hK => ?_)
        have hs0 := hHeld.2.1
        have hs1 := hHeld.2.2.1
        have hf0 := hHeld.2.2.2.2.2.1.frozen 0
        have hf1 := hHeld.2.2.2.2.2.1.frozen 1
        have hHS := Aside0.mk hHeld
        clear hHeld
        refine skip_ (w1 := ?_) (by rfl) rfl ?_ ?_
        rotate_left
        · go_simp
          rfl
        refine hK.out _ _ ?_
        clear hK K
        refine done_ (done_of HT_.out (by kernel_rfl)) ?_
        have hfin := hHS.out.put N47.out d1 d2 _ rfl
        exact ⟨((keeps_below _ hHS.out.2.2.2.2.2.2.2.2).trans ((KeepsOthers.setCell _ _ _).from _)).trans ((KeepsOthers.setCell _ _ _).from _), HKP.out _ hfin, d1, d2, HGO, ⟨hfin⟩⟩
      · rw [if_neg hp] at hs
        have hp0 : decide (0 < p) = false := decide_eq_false hp
        obtain ⟨rfl, rfl⟩ : s1 = d1 ∧ s2 = d2 := by simpa using hs
        clear hs hp
        gi_wp2
        exact ⟨KeepsFrom.refl _ _, HKP.out _ HST.out, s1, s2, HGO, HST⟩
    case done =>
      rintro D W hD ⟨s1, s2, hgo, HST⟩ hk
      rw [List.drop_length] at hgo
      obtain ⟨rfl, rfl⟩ : s1 = y1 ∧ s2 = y2 := by simpa [packets_Mean.go] using hgo.out
      have hs0 := HST.out.2.1
      have hs1 := HST.out.2.2.1
      have hf0 := HST.out.2.2.2.2.2.2.1.frozen 0
      have hf1 := HST.out.2.2.2.2.2.2.1.frozen 1
      have hc0 := HST.out.2.2.2.2.2.2.1.cell 0 rfl
      have hc1 := HST.out.2.2.2.2.2.2.1.cell 1 rfl
      have HK := Aside0.mk hk
      clear hk hgo
      go_wp2
      have hK := ((KeepsOthers.setCell W ⟨w.heap.size, 0, none⟩ (.int .i64 s1)).trans (KeepsOthers.setCell _ ⟨w.heap.size, 1, none⟩ (.int .i64 s2))).same D _ HK.out rfl
      refine marks_ret1 hK (results_ct rfl _ _ w.heap.size 25 #[.int .i64 s1, .int .i64 s2] (0, 0) _ rfl (Box.ended ((HST.out.2.2.2.2.2.2.1.put 0 _).put 1 _) hK rfl).2 Try.underlying25 rfl (by kernel_rfl)) ⟨rfl, ?_⟩
      have hwD : w.heap.size ≤ D := Nat.le_trans HB2.out.size hD
      exact below_ended (below_set' (below_set' HST.out.2.2.2.1 (Nat.le_refl _) _) (Nat.le_refl _) _) hwD

end Go.Proofs.Ytigmhomfadimnaa.X
