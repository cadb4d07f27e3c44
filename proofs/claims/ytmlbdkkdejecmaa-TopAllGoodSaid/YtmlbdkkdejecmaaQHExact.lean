/- The contract of packets.Exact: valid weights, a set of them and a count of packets, then the loop over the set's parts. -/
import Derived.Test.YtmlbdkkdejecmaaQHBoxesK
import Derived.Test.YtmlbdkkdejecmaaQHParts
import Derived.Test.YtmlbdkkdejecmaaQHIsSet
import Derived.Test.YtmlbdkkdejecmaaQHMean
import Derived.Test.YtmlbdkkdejecmaaQXK
set_option linter.unusedVariables false
set_option linter.unusedSimpArgs false
namespace Go.Proofs.Ytmlbdkkdejecmaa.X
open Go.RowKit Go.Proofs.YtmlbdkkdejecmaaW.PrintWords Go.Proofs.YtmlbdkkdejecmaaW.PrintLast Go.Proofs.YtmlbdkkdejecmaaW.PrintMore
attribute [local go_sem] Oper.semAt_some

/-- One round: a part, and the sum so far. -/
def packets_Exact.step (k : Nat) (l0 : List Int) (a1 a2 p s : Int) : Option Int :=
  (packets_sign.f k (Go.bits .andNot .i64 a1 p)).bind fun t1 => (packets_weights_of.f k l0 p).bind fun t3 => (packets_power.f k t3 a2).bind fun t4 => some (wrap64 (s + wrap64 (t1 * t4)))
def packets_Exact.go (k : Nat) (l0 : List Int) (a1 a2 : Int) : List Int → Int → Option Int
  | [], s => some s
  | p :: ps, s => (packets_Exact.step k l0 a1 a2 p s).bind fun d => packets_Exact.go k l0 a1 a2 ps d
def packets_Exact.f (k : Nat) (l0 : List Int) (a1 a2 : Int) : Option (Int × Int × Int) :=
  (packets_weights_isSet.f k l0 [a1]).bind fun t => if t = true then ((packets_isCount.f a2).bind fun t' => if t' = true then ((packets_Exact.go k l0 a1 a2 (partsL a1) 0).bind fun s =>
    (packets_weights_all.f l0).bind fun u1 => (packets_weights_of.f k l0 u1).bind fun u2 => (packets_power.f k u2 a2).bind fun u3 => (packets_frac.f k s u3).bind fun b => some (b.1, b.2, 0)) else some (0, 0, 2)) else some (0, 0, 2)
/-- What stands in memory between two rounds. -/
def ExactSt (w V : World) (g4 g5 g6 g8 g9 gB : Nat) (A0 : Option Addr) (n c0 : Nat) (a1 a2 s : Int) (W : World) : Prop :=
  W.cell? ⟨g4, 0, none⟩ = some (.int .i64 a1) ∧ W.cell? ⟨g5, 0, none⟩ = some (.int .i64 a2) ∧ W.cell? ⟨g8, 0, none⟩ = some (.slice A0 n c0) ∧ W.cell? ⟨g9, 0, none⟩ = some (.int .i64 s) ∧ Below w.heap.size w W ∧
  Box w g4 #[.int .i64 a1] 3 W ∧ Box w g5 #[.int .i64 a2] 3 W ∧ Box w g6 #[.int .i64 0, .int .i64 0] 30 W ∧ Box w g8 #[.slice A0 n c0] 62 W ∧ Box w g9 #[.int .i64 s] 3 W ∧ Box w gB #[.int .i64 a1] 3 W ∧ Below V.heap.size V W
section
variable {w V W W1 : World} {g4 g5 g6 g8 g9 gB n c0 : Nat} {A0 : Option Addr} {a1 a2 s : Int}
theorem ExactSt.mk (hb : Below w.heap.size w W) (h4 : Box w g4 #[.int .i64 a1] 3 W) (h5 : Box w g5 #[.int .i64 a2] 3 W) (h6 : Box w g6 #[.int .i64 0, .int .i64 0] 30 W) (h8 : Box w g8 #[.slice A0 n c0] 62 W) (h9 : Box w g9 #[.int .i64 s] 3 W) (hB : Box w gB #[.int .i64 a1] 3 W) (hV : Below V.heap.size V W) :
    ExactSt w V g4 g5 g6 g8 g9 gB A0 n c0 a1 a2 s W := ⟨h4.cell 0 rfl, h5.cell 0 rfl, h8.cell 0 rfl, h9.cell 0 rfl, hb, h4, h5, h6, h8, h9, hB, hV⟩
theorem ExactSt.below (h : ExactSt w V g4 g5 g6 g8 g9 gB A0 n c0 a1 a2 s W) (hb : Below W.heap.size W W1) : ExactSt w V g4 g5 g6 g8 g9 gB A0 n c0 a1 a2 s W1 := by
  obtain ⟨-, -, -, -, h0, h4, h5, h6, h8, h9, hB, hV⟩ := h
  exact .mk (below_step h0 hb) (h4.below hb) (h5.below hb) (h6.below hb) (h8.below hb) (h9.below hb) (hB.below hb) (below_step hV hb)
theorem ExactSt.put (h : ExactSt w V g4 g5 g6 g8 g9 gB A0 n c0 a1 a2 s W) (n4 : g4 ≠ g9) (n5 : g5 ≠ g9) (nB : gB ≠ g9) (d : Int) (W2 : World) (e : W2 = W.setCell ⟨g9, 0, none⟩ (.int .i64 d)) : ExactSt w W2 g4 g5 g6 g8 g9 gB A0 n c0 a1 a2 d W2 := by
  subst e
  obtain ⟨-, -, -, -, h0, h4, h5, h6, h8, h9, hB, hV⟩ := h
  exact .mk (below_set' h0 h9.1 _) (h4.far (p := ⟨g9, 0, none⟩) n4 _) (h5.far (p := ⟨g9, 0, none⟩) n5 _) (h6.far (p := ⟨g9, 0, none⟩) (h6.ne h9 (by decide)) _) (h8.far (p := ⟨g9, 0, none⟩) (h8.ne h9 (by decide)) _) (h9.put 0 _) (hB.far (p := ⟨g9, 0, none⟩) nB _) (Below.refl _ _)
theorem ExactSt.own {B : Nat} {row : Option Nat} (h : ExactSt w V g4 g5 g6 g8 g9 gB A0 n c0 a1 a2 s W) (hb : w.heap.size ≤ B) (hg : W.grownBy W1 row) (hr : ∀ r, row = some r → B ≤ r ∧ ∃ o : Obj, W.heap[r]? = some o ∧ o.isCells = false) : ExactSt w W1 g4 g5 g6 g8 g9 gB A0 n c0 a1 a2 s W1 := by
  have hr' := fun r e => (hr r e).2
  obtain ⟨-, -, -, -, h0, h4, h5, h6, h8, h9, hB, hV⟩ := h
  exact .mk (below_own h0 hb hg hr) (h4.grownK hg hr') (h5.grownK hg hr') (h6.grownK hg hr') (h8.grownK hg hr') (h9.grownK hg hr') (hB.grownK hg hr') (Below.refl _ _)
theorem ExactSt.now (h : ExactSt w V g4 g5 g6 g8 g9 gB A0 n c0 a1 a2 s W) : ExactSt w W g4 g5 g6 g8 g9 gB A0 n c0 a1 a2 s W := by
  obtain ⟨-, -, -, -, h0, h4, h5, h6, h8, h9, hB, hV⟩ := h
  exact .mk h0 h4 h5 h6 h8 h9 hB (Below.refl _ _)
end

def exactT.T7 : Bool × List (List Nat × List Nat) := (true, [([], []), ([], []), ([], []), ([1, 2], [1, 2]), ([3], [3]), ([], []), ([], []), ([5, 6, 4], [5, 6]), ([], []), ([7, 8, 7], [7, 8]), ([4, 9], [4, 9]), ([0, 10], [0, 10]), ([11, 9, 0, 1, 2, 3, 4, 5, 6, 7, 8, 9, 10, 11], [11])])
def exactT.B7 : List Nat := [0, 0, 0, 6, 14, 0, 0, 126, 0, 510, 1022, 2047, 4095]
theorem exactT.tab7 : rtab .any (opsOf Try.f8 7) = exactT.T7 := by kernel_rfl
theorem exactT.bits7 : waitsOk exactT.T7.2 exactT.B7 = true := by kernel_rfl
def exactT.T8 : Bool × List (List Nat × List Nat) := (true, [([], []), ([], []), ([], []), ([2], [2]), ([1, 3, 3], [1, 3]), ([], []), ([4, 5, 4], [4, 5]), ([0, 6, 6], [0, 6]), ([7, 7, 0, 1, 2, 3, 4, 5, 6, 7], [7]), ([8, 0, 1, 2, 3, 4, 5, 6, 7, 8], [])])
def exactT.B8 : List Nat := [0, 0, 0, 4, 14, 0, 62, 127, 255, 511]
theorem exactT.tab8 : rtab .any (opsOf Try.f8 8) = exactT.T8 := by kernel_rfl
theorem exactT.bits8 : waitsOk exactT.T8.2 exactT.B8 = true := by kernel_rfl

set_option maxRecDepth 100000 in
set_option maxHeartbeats 8000000 in
theorem packets_Exact.calls (k : Nat) (A0 : Option Addr) (c0 : Nat) (l0 : List Int) (a1 a2 : Int) (r1 r2 r3 : Int) (w : World) (hr0 : Kd.C (Kd.int .i64) w A0 l0.length l0) (hc0 : l0.length ≤ c0) (h : packets_Exact.f k l0 a1 a2 = some (r1, r2, r3)) :
    Calls Try.prog 8 #[.slice A0 l0.length c0, .int .i64 a1, .int .i64 a2] w fun e w' => e = .returned (.tuple #[.agg #[.int .i64 r1, .int .i64 r2], .int .i64 r3]) ∧ Below w.heap.size w w' := by
  have hu30 := Try.underlying30
  have HR0 := Aside0.mk hr0
  have HC0 := Aside0.mk hc0
  clear hr0 hc0
  have HB := Aside0.mk (Below.refl w.heap.size w)
  unfold packets_Exact.f at h
  replace h := Option.bind_eq_some_iff.mp h
  obtain ⟨t, ht, h⟩ := h
  have HT := Aside0.mk ht
  clear ht
  have HB1 := Aside0.mk (below_alloc HB.out (.cells #[.int .i64 a1] 3))
  have HB2 := Aside0.mk (below_alloc HB1.out (.cells #[.int .i64 a2] 3))
  have HB3 := Aside0.mk (below_alloc HB2.out (.cells #[.int .i64 0, .int .i64 0] 30))
  have HB4 := Aside0.mk (below_alloc HB3.out (.cells #[.slice A0 l0.length c0] 62))
  have HB5 := Aside0.mk (below_alloc HB4.out (.cells #[.int .i64 a1] 3))
  have B4 := Aside0.mk (((((Box.new HB.out #[.int .i64 a1] 3).alloc (.cells #[.int .i64 a2] 3)).alloc (.cells #[.int .i64 0, .int .i64 0] 30)).alloc (.cells #[.slice A0 l0.length c0] 62)).alloc (.cells #[.int .i64 a1] 3))
  have B5 := Aside0.mk ((((Box.new HB1.out #[.int .i64 a2] 3).alloc (.cells #[.int .i64 0, .int .i64 0] 30)).alloc (.cells #[.slice A0 l0.length c0] 62)).alloc (.cells #[.int .i64 a1] 3))
  have B6 := Aside0.mk (((Box.new HB2.out #[.int .i64 0, .int .i64 0] 30).alloc (.cells #[.slice A0 l0.length c0] 62)).alloc (.cells #[.int .i64 a1] 3))
  have B8 := Aside0.mk ((Box.new HB3.out #[.slice A0 l0.length c0] 62).alloc (.cells #[.int .i64 a1] 3))
  have BL := Aside0.mk (Box.new HB4.out #[.int .i64 a1] 3)
  simp only [World.size_alloc] at B5 B6 B8 BL
  refine calls_of_marks Try.func8 rfl ?_
  simp only [Try.ntmps8, List.size_toArray, List.length_cons, List.length_nil, Nat.reduceAdd, Nat.reduceSub, Array.replicate_succ, Array.replicate_zero, List.push_toArray, List.append_toArray, List.nil_append, List.cons_append]
  go_wp2_with fail
  refine (packets_weights_isSet.calls k A0 c0 l0 (some ⟨w.heap.size + 1 + 1 + 1 + 1, 0, none⟩) 1 [a1] t _ (Kd.C_below HR0.out HB5.out) HC0.out (C_one _ _ _ (BL.out.cell 0 rfl)) (by simp) HT.out).mono ?_
  rintro e w1 ⟨rfl, hb⟩
  replace HB := Aside0.mk (below_step HB5.out hb)
  replace B4 := Aside0.mk (B4.out.below hb)
  replace B5 := Aside0.mk (B5.out.below hb)
  replace B6 := Aside0.mk (B6.out.below hb)
  replace B8 := Aside0.mk (B8.out.below hb)
  clear hb BL HB1 HB2 HB3 HB4 HB5
  have c40 := B4.out.cell 0 rfl
  have c50 := B5.out.cell 0 rfl
  have c60 := B6.out.cell 0 rfl
  have c61 := B6.out.cell 1 rfl
  have c80 := B8.out.cell 0 rfl
  have f60 := B6.out.frozen 0
  have f61 := B6.out.frozen 1
  cases t with
  | false =>
    obtain ⟨rfl, rfl, rfl⟩ : 0 = r1 ∧ 0 = r2 ∧ 2 = r3 := by simpa using h
    clear h
    go_wp2
    refine marks_ret (results_ct rfl _ _ (w.heap.size + 1 + 1) 30 #[.int .i64 0, .int .i64 0] (0, 0) _ rfl ((B6.out.put 0 _).put 1 _).2 Try.underlying30 rfl (by kernel_rfl)) ⟨rfl, below_set' (below_set' HB.out (by show w.heap.size ≤ w.heap.size + 1 + 1; omega) _) (by show w.heap.size ≤ w.heap.size + 1 + 1; omega) _⟩
  | true =>
    simp only [if_true] at h
    replace h := Option.bind_eq_some_iff.mp h
    obtain ⟨t', ht', h⟩ := h
    have HT' := Aside0.mk ht'
    clear ht'
    cases t' with
    | false =>
      obtain ⟨rfl, rfl, rfl⟩ : 0 = r1 ∧ 0 = r2 ∧ 2 = r3 := by simpa using h
      clear h
      go_wp2_with fail
      refine (packets_isCount.calls a2 false _ HT'.out).mono ?_
      rintro e w2 ⟨rfl, ⟨m2, rfl⟩⟩
      go_wp2
      refine marks_ret (results_ct rfl _ _ (w.heap.size + 1 + 1) 30 #[.int .i64 0, .int .i64 0] (0, 0) _ rfl (((B6.out.put 0 _).put 1 _).drewN _).2 Try.underlying30 rfl (by kernel_rfl)) ⟨rfl, pw_below_drewN (below_set' (below_set' HB.out (by show w.heap.size ≤ w.heap.size + 1 + 1; omega) _) (by show w.heap.size ≤ w.heap.size + 1 + 1; omega) _) _⟩
    | true =>
      simp only [if_true] at h
      replace h := Option.bind_eq_some_iff.mp h
      obtain ⟨y, hy, h⟩ := h
      replace h := Option.bind_eq_some_iff.mp h
      obtain ⟨u1, hu1, h⟩ := h
      replace h := Option.bind_eq_some_iff.mp h
      obtain ⟨u2, hu2, h⟩ := h
      replace h := Option.bind_eq_some_iff.mp h
      obtain ⟨u3, hu3, h⟩ := h
      replace h := Option.bind_eq_some_iff.mp h
      obtain ⟨⟨y1, y2⟩, hu4, h⟩ := h
      obtain ⟨rfl, rfl, rfl⟩ : y1 = r1 ∧ y2 = r2 ∧ 0 = r3 := by simpa using h
      clear h
      have HY := Aside0.mk hy
      have U1 := Aside0.mk hu1
      have U2 := Aside0.mk hu2
      have U3 := Aside0.mk hu3
      have U4 := Aside0.mk hu4
      clear hy hu1 hu2 hu3 hu4
      go_wp2_with fail
      refine (packets_isCount.calls a2 true _ HT'.out).mono ?_
      rintro e w2 ⟨rfl, hd⟩
      replace hd := hd.below
      replace HB := Aside0.mk (below_step HB.out hd)
      replace B4 := Aside0.mk (B4.out.below hd)
      replace B5 := Aside0.mk (B5.out.below hd)
      replace B6 := Aside0.mk (B6.out.below hd)
      replace B8 := Aside0.mk (B8.out.below hd)
      clear hd c40 c50 c60 c61 c80 f60 f61
      have c40 := B4.out.cell 0 rfl
      have c50 := B5.out.cell 0 rfl
      have c60 := B6.out.cell 0 rfl
      have c61 := B6.out.cell 1 rfl
      have c80 := B8.out.cell 0 rfl
      have f60 := B6.out.frozen 0
      have f61 := B6.out.frozen 1
      have B9 := Aside0.mk (((Box.new HB.out #[.int .i64 0] 3).alloc (.cells #[.int .i64 a1] 3)))
      have HB1 := Aside0.mk (below_alloc HB.out (.cells #[.int .i64 0] 3))
      have BB := Aside0.mk (Box.new HB1.out #[.int .i64 a1] 3)
      have HB2 := Aside0.mk (below_alloc HB1.out (.cells #[.int .i64 a1] 3))
      rw [World.size_alloc] at BB
      have d40 := (B4.out.alloc (.cells #[.int .i64 0] 3)).cell 0 rfl
      go_wp2_with fail
      refine (parts_calls a1 _).mono ?_
      rintro e w3 ⟨rfl, rfl⟩
      go_wp2
      have hr := isSet_range k l0 a1 HT.out
      have HSET := Aside0.mk (parts_seq (w2.heap.size + 1) a1 hr.1 (by omega) _ (by simp) (BB.out.cell 0 rfl))
      have HST0 : Aside0 (ExactSt w _ w.heap.size (w.heap.size + 1) (w.heap.size + 1 + 1) (w.heap.size + 1 + 1 + 1) w2.heap.size (w2.heap.size + 1) A0 l0.length c0 a1 a2 0 ((w2.alloc (.cells #[.int .i64 0] 3)).alloc (.cells #[.int .i64 a1] 3))) :=
        ⟨.mk HB2.out ((B4.out.alloc _).alloc _) ((B5.out.alloc _).alloc _) ((B6.out.alloc _).alloc _) ((B8.out.alloc _).alloc _) B9.out BB.out (Below.refl _ _)⟩
      have N4 : Aside0 (w.heap.size ≠ w2.heap.size) := ⟨by have := B4.out.lt; omega⟩
      have N5 : Aside0 (w.heap.size + 1 ≠ w2.heap.size) := ⟨by have := B5.out.lt; omega⟩
      have NB : Aside0 (w2.heap.size + 1 ≠ w2.heap.size) := ⟨by omega⟩
      clear c40 c50 c60 c61 c80 f60 f61 d40 B4 B5 B6 B8 B9 BB HB HB1 HT HT' hr
      refine rangeL (gf := 54) (lb := #[.pointer (some ⟨w2.heap.size + 1, 0, none⟩)]) rfl (fun args w => enters_ Try.func54 (by kernel_rfl) rfl args w) HSET.out (fun h h' => Eq.trans h' h) ?keepsB (Below.refl _ _) rfl
        (fun j W => ∃ s : Int, Aside0 (packets_Exact.go k l0 a1 a2 ((partsL a1).drop j) s = some y) ∧ Aside0 (ExactSt w W w.heap.size (w.heap.size + 1) (w.heap.size + 1 + 1) (w.heap.size + 1 + 1 + 1) w2.heap.size (w2.heap.size + 1) A0 l0.length c0 a1 a2 s W)) ?own ⟨0, HY, HST0⟩
        (fun x => { tmps := #[.slice A0 l0.length c0, .int .i64 a1, .int .i64 a2, undef, .pointer (some ⟨w.heap.size, 0, none⟩), .pointer (some ⟨w.heap.size + 1, 0, none⟩), .pointer (some ⟨w.heap.size + 1 + 1, 0, none⟩), .int .i64 0, .pointer (some ⟨w.heap.size + 1 + 1 + 1, 0, none⟩), .pointer (some ⟨w2.heap.size, 0, none⟩), .int .i64 x, .slice A0 l0.length c0, .slice A0 l0.length c0, .int .i64 a1, .slice (some ⟨w.heap.size + 1 + 1 + 1 + 1, 0, none⟩) 1 1, .bool true, .bool false, .bool false, .int .i64 a2, .bool true, .bool false, .bool false, undef, .int .i64 a1, .func (.func 54) #[] #[.pointer (some ⟨w2.heap.size + 1, 0, none⟩)], .int .i64 x, undef, undef, undef, undef, undef, undef, undef, undef, undef, undef, undef, undef, undef, undef, undef, undef, undef, undef, undef, undef], defers := [] })
        ?assign ?body ?done
      case keepsB =>
        intro W l o o' hl _ _
        show (W.putObj l o').cell? _ = W.cell? _
        exact World.cell?_of_block (World.putObj_heap_other (by simp at hl; show w2.heap.size + 1 ≠ l; omega))
      case own =>
        rintro j W W' row ⟨s, h1, h2⟩ hg hr
        exact ⟨s, h1, ⟨h2.out.own (by have := HB2.out.size; exact this) hg hr⟩⟩
      case assign =>
        intro l x W K hK
        gi_wp2
        exact hK
      case body =>
        rintro l j W hj ⟨s, hgo, HST⟩
        have hd : (partsL a1).drop j = (partsL a1).getD j 0 :: (partsL a1).drop (j + 1) := by
          rw [List.drop_eq_getElem_cons hj]; simp [hj]
        rw [hd] at hgo
        clear hd
        generalize (partsL a1).getD j 0 = p at *
        replace hgo := Option.bind_eq_some_iff.mp hgo.out
        obtain ⟨d, hs, hgo⟩ := hgo
        have HGO := Aside0.mk hgo
        clear hgo HST0 HSET HY U1 U2 U3 U4
        have HKP : Aside0 (∀ W', ExactSt w W' w.heap.size (w.heap.size + 1) (w.heap.size + 1 + 1) (w.heap.size + 1 + 1 + 1) w2.heap.size (w2.heap.size + 1) A0 l0.length c0 a1 a2 d W' → keepsCell (w2.heap.size + 1) W W') := ⟨fun W' h' => (h'.2.2.2.2.2.2.2.2.2.2.1.cell 0 rfl).trans (HST.out.2.2.2.2.2.2.2.2.2.2.1.cell 0 rfl).symm⟩
        unfold packets_Exact.step at hs
        replace hs := Option.bind_eq_some_iff.mp hs
        obtain ⟨t1, h1, hs⟩ := hs
        replace hs := Option.bind_eq_some_iff.mp hs
        obtain ⟨t3, h3, hs⟩ := hs
        replace hs := Option.bind_eq_some_iff.mp hs
        obtain ⟨t4, h4, hs⟩ := hs
        obtain rfl : wrap64 (s + wrap64 (t1 * t4)) = d := by simpa using hs
        have H1 := Aside0.mk h1
        have H3 := Aside0.mk h3
        have H4 := Aside0.mk h4
        clear h1 h3 h4 hs
        gi_wp2
        refine startIn_ (n := 13) (S := ExactSt w W w.heap.size (w.heap.size + 1) (w.heap.size + 1 + 1) (w.heap.size + 1 + 1 + 1) w2.heap.size (w2.heap.size + 1) A0 l0.length c0 a1 a2 s) (ds := [12]) #[false, false, false, false, false, false, false, false, false, false, false, false, false] (by kernel_rfl) (by kernel_rfl) (fun _ _ h => h) rfl rfl (ExactSt.below HST.out (below_drew (Below.refl _ _))) (fun hHeld => ?_)
        refine with_tabW exactT.tab7 exactT.bits7 (fun HT_ HW_ => ?_)
        refine take_ (i := 0) (N := some 26) (v := ?_) (a' := ?_) #[true, false, false, false, false, false, false, false, false, false, false, false, false] rfl rfl (take_ofW HT_.out HW_.out (by kernel_rfl)) (fun _ _ _ h => h) (Or.inl ⟨by rfl, ?_⟩) hHeld ?_ ?_
        rotate_left
        · rintro w' ⟨s0, s1, s2, s3, s4, s5, s6, s7, s8, s9, s10, s11⟩
          go_simp
          with_reducible rfl
        rotate_left
        · simp only [Act.put, List.setIfInBounds_toArray, List.set_cons_zero, List.set_cons_succ, i64_w, i32_w]
          rfl
        refine take_ (i := 1) (N := some 27) (v := ?_) (a' := ?_) #[true, true, false, false, false, false, false, false, false, false, false, false, false] rfl rfl (take_ofW HT_.out HW_.out (by kernel_rfl)) (fun _ _ _ h => h) (Or.inl ⟨by rfl, ?_⟩) hHeld ?_ ?_
        rotate_left
        · rintro w' ⟨s0, s1, s2, s3, s4, s5, s6, s7, s8, s9, s10, s11⟩
          go_simp
          with_reducible rfl
        rotate_left
        · simp only [Act.put, List.setIfInBounds_toArray, List.set_cons_zero, List.set_cons_succ, i64_w, i32_w]
          rfl
        refine pure_ (i := 2) (N := some 28) (v := ?_) (a' := ?_) #[true, true, true, false, false, false, false, false, false, false, false, false, false] rfl rfl (any_of HT_.out (by kernel_rfl)) (fun _ _ _ h => h) (Or.inl ⟨by rfl, ?_⟩) ?_ ?_
        rotate_left
        · intro w'
          go_simp
          with_reducible rfl
        rotate_left
        · simp only [Act.put, List.setIfInBounds_toArray, List.set_cons_zero, List.set_cons_succ, i64_w, i32_w]
          rfl
        refine pure_ (i := 3) (N := some 29) (v := ?_) (a' := ?_) #[true, true, true, true, false, false, false, false, false, false, false, false, false] rfl rfl (any_of HT_.out (by kernel_rfl)) (fun _ _ _ h => h) (Or.inl ⟨by rfl, ?_⟩) ?_ ?_
        rotate_left
        · intro w'
          go_simp
          with_reducible rfl
        rotate_left
        · simp only [Act.put, List.setIfInBounds_toArray, List.set_cons_zero, List.set_cons_succ, i64_w, i32_w]
          rfl
        refine take_ (i := 5) (N := some 31) (v := ?_) (a' := ?_) #[true, true, true, true, false, true, false, false, false, false, false, false, false] rfl rfl (take_ofW HT_.out HW_.out (by kernel_rfl)) (fun _ _ _ h => h) (Or.inl ⟨by rfl, ?_⟩) hHeld ?_ ?_
        rotate_left
        · rintro w' ⟨s0, s1, s2, s3, s4, s5, s6, s7, s8, s9, s10, s11⟩
          go_simp
          with_reducible rfl
        rotate_left
        · simp only [Act.put, List.setIfInBounds_toArray, List.set_cons_zero, List.set_cons_succ, i64_w, i32_w]
          rfl
        refine pure_ (i := 6) (N := some 32) (v := ?_) (a' := ?_) #[true, true, true, true, false, true, true, false, false, false, false, false, false] rfl rfl (any_of HT_.out (by kernel_rfl)) (fun _ _ _ h => h) (Or.inl ⟨by rfl, ?_⟩) ?_ ?_
        rotate_left
        · intro w'
          go_simp
          with_reducible rfl
        rotate_left
        · simp only [Act.put, List.setIfInBounds_toArray, List.set_cons_zero, List.set_cons_succ, i64_w, i32_w]
          rfl
        refine take_ (i := 8) (N := some 34) (v := ?_) (a' := ?_) #[true, true, true, true, false, true, true, false, true, false, false, false, false] rfl rfl (take_ofW HT_.out HW_.out (by kernel_rfl)) (fun _ _ _ h => h) (Or.inl ⟨by rfl, ?_⟩) hHeld ?_ ?_
        rotate_left
        · rintro w' ⟨s0, s1, s2, s3, s4, s5, s6, s7, s8, s9, s10, s11⟩
          go_simp
          with_reducible rfl
        rotate_left
        · simp only [Act.put, List.setIfInBounds_toArray, List.set_cons_zero, List.set_cons_succ, i64_w, i32_w]
          rfl
        refine one_ (i := 4) (N := some 30) #[true, true, true, true, true, true, true, false, true, false, false, false, false] rfl rfl (one_of HT_.out (by kernel_rfl)) (by decide) (fun K hK => ?_)
        refine goes_ Try.func30 (by kernel_rfl) rfl #[.int .i64 (Go.bits .andNot .i64 a1 p)] (by rfl) rfl rfl (by (try simp only [List.map_toArray, List.map_cons, List.map_nil]); first | done | rfl | (simp only [List.length_drop, List.length_take]; rfl)) ?_
        refine (packets_sign.calls k (Go.bits .andNot .i64 a1 p) t1 _ H1.out).mono ?_
        rintro e wr1 ⟨rfl, hb⟩
        replace hb := hb.below
        refine ⟨_, rfl, ?_⟩
        refine hK.out _ _ (ExactSt.below hHeld hb) (fun hHeld => ?_)
        clear hK K hb
        refine norm_ (a' := ?_) ?_ ?_
        rotate_left
        · show Act.put _ (some 30) _ = _
          simp only [Act.put, List.setIfInBounds_toArray, List.set_cons_zero, List.set_cons_succ, i64_w, i32_w]
          rfl
        refine one_ (i := 7) (N := some 33) #[true, true, true, true, true, true, true, true, true, false, false, false, false] rfl rfl (one_of HT_.out (by kernel_rfl)) (by decide) (fun K hK => ?_)
        refine goes_ Try.func32 (by kernel_rfl) rfl #[.slice A0 l0.length c0, .int .i64 p] (by rfl) rfl rfl (by (try simp only [List.map_toArray, List.map_cons, List.map_nil]); first | done | rfl | (simp only [List.length_drop, List.length_take]; rfl)) ?_
        refine (packets_weights_of.calls k A0 c0 l0 p t3 _ (by exact Kd.C_below HR0.out hHeld.2.2.2.2.1) HC0.out H3.out).mono ?_
        rintro e wr2 ⟨rfl, hb⟩
        replace hb := hb.below
        refine ⟨_, rfl, ?_⟩
        refine hK.out _ _ (ExactSt.below hHeld hb) (fun hHeld => ?_)
        clear hK K hb
        refine norm_ (a' := ?_) ?_ ?_
        rotate_left
        · show Act.put _ (some 33) _ = _
          simp only [Act.put, List.setIfInBounds_toArray, List.set_cons_zero, List.set_cons_succ, i64_w, i32_w]
          rfl
        refine one_ (i := 9) (N := some 35) #[true, true, true, true, true, true, true, true, true, true, false, false, false] rfl rfl (one_of HT_.out (by kernel_rfl)) (by decide) (fun K hK => ?_)
        refine goes_ Try.func31 (by kernel_rfl) rfl #[.int .i64 t3, .int .i64 a2] (by rfl) rfl rfl (by (try simp only [List.map_toArray, List.map_cons, List.map_nil]); first | done | rfl | (simp only [List.length_drop, List.length_take]; rfl)) ?_
        refine (packets_power.calls k t3 a2 t4 _ H4.out).mono ?_
        rintro e wr3 ⟨rfl, hb⟩
        replace hb := hb.below
        refine ⟨_, rfl, ?_⟩
        refine hK.out _ _ (ExactSt.below hHeld hb) (fun hHeld => ?_)
        clear hK K hb
        refine norm_ (a' := ?_) ?_ ?_
        rotate_left
        · show Act.put _ (some 35) _ = _
          simp only [Act.put, List.setIfInBounds_toArray, List.set_cons_zero, List.set_cons_succ, i64_w, i32_w]
          rfl
        refine pure_ (i := 10) (N := some 36) (v := ?_) (a' := ?_) #[true, true, true, true, true, true, true, true, true, true, true, false, false] rfl rfl (any_of HT_.out (by kernel_rfl)) (fun _ _ _ h => h) (Or.inl ⟨by rfl, ?_⟩) ?_ ?_
        rotate_left
        · intro w'
          go_simp
          with_reducible rfl
        rotate_left
        · simp only [Act.put, List.setIfInBounds_toArray, List.set_cons_zero, List.set_cons_succ, i64_w, i32_w]
          rfl
        refine pure_ (i := 11) (N := some 37) (v := ?_) (a' := ?_) #[true, true, true, true, true, true, true, true, true, true, true, true, false] rfl rfl (any_of HT_.out (by kernel_rfl)) (fun _ _ _ h => h) (Or.inl ⟨by rfl, ?_⟩) ?_ ?_
        rotate_left
        · intro w'
          go_simp
          with_reducible rfl
        rotate_left
        · simp only [Act.put, List.setIfInBounds_toArray, List.set_cons_zero, List.set_cons_succ, i64_w, i32_w]
          rfl
        refine last_ (i := 12) (N := none) #[true, true, true, true, true, true, true, true, true, true, true, true, true] rfl rfl (one_of HT_.out (by kernel_rfl)) (by decide) (fun K hK => ?_)
        have hs0 := hHeld.2.2.2.1
        have hf0 := hHeld.2.2.2.2.2.2.2.2.2.1.frozen 0
        have hHS := Aside0.mk hHeld
        clear hHeld
        refine skip_ (w1 := ?_) (by rfl) rfl ?_ ?_
        rotate_left
        · go_simp
          rfl
        refine hK.out _ _ ?_
        clear hK K
        refine done_ (done_of HT_.out (by kernel_rfl)) ?_
        have hfin := hHS.out.put N4.out N5.out NB.out (wrap64 (s + wrap64 (t1 * t4))) _ rfl
        exact ⟨(keeps_below _ hHS.out.2.2.2.2.2.2.2.2.2.2.2).trans ((KeepsOthers.setCell _ _ _).from _), HKP.out _ hfin, _, HGO, ⟨hfin⟩⟩
      case done =>
        rintro D W hD ⟨s, hgo, HST⟩ hk
        rw [List.drop_length] at hgo
        obtain rfl : s = y := by simpa [packets_Exact.go] using hgo.out
        have HK := Aside0.mk hk
        have HD := Aside0.mk hD
        replace HST := Aside0.mk HST.out.now
        clear hk hgo hD HST0 HY HSET
        go_wp2
        refine quiet ?_
        refine start_ (n := 10) (S := ExactSt w W w.heap.size (w.heap.size + 1) (w.heap.size + 1 + 1) (w.heap.size + 1 + 1 + 1) w2.heap.size (w2.heap.size + 1) A0 l0.length c0 a1 a2 s) (ds := [8]) #[false, false, false, false, false, false, false, false, false, false] (by kernel_rfl) rfl rfl (ExactSt.below HST.out (below_drew (Below.refl _ _))) (fun hHeld => ?_)
        refine with_tabW exactT.tab8 exactT.bits8 (fun HT_ HW_ => ?_)
        refine take_ (i := 0) (N := some 38) (v := ?_) (a' := ?_) #[true, false, false, false, false, false, false, false, false, false] rfl rfl (take_ofW HT_.out HW_.out (by kernel_rfl)) (fun _ _ _ h => h) (Or.inl ⟨by rfl, ?_⟩) hHeld ?_ ?_
        rotate_left
        · rintro w' ⟨s0, s1, s2, s3, s4, s5, s6, s7, s8, s9, s10, s11⟩
          go_simp
          with_reducible rfl
        rotate_left
        · simp only [Act.put, List.setIfInBounds_toArray, List.set_cons_zero, List.set_cons_succ, i64_w, i32_w]
          rfl
        refine take_ (i := 1) (N := some 39) (v := ?_) (a' := ?_) #[true, true, false, false, false, false, false, false, false, false] rfl rfl (take_ofW HT_.out HW_.out (by kernel_rfl)) (fun _ _ _ h => h) (Or.inl ⟨by rfl, ?_⟩) hHeld ?_ ?_
        rotate_left
        · rintro w' ⟨s0, s1, s2, s3, s4, s5, s6, s7, s8, s9, s10, s11⟩
          go_simp
          with_reducible rfl
        rotate_left
        · simp only [Act.put, List.setIfInBounds_toArray, List.set_cons_zero, List.set_cons_succ, i64_w, i32_w]
          rfl
        refine take_ (i := 2) (N := some 40) (v := ?_) (a' := ?_) #[true, true, true, false, false, false, false, false, false, false] rfl rfl (take_ofW HT_.out HW_.out (by kernel_rfl)) (fun _ _ _ h => h) (Or.inl ⟨by rfl, ?_⟩) hHeld ?_ ?_
        rotate_left
        · rintro w' ⟨s0, s1, s2, s3, s4, s5, s6, s7, s8, s9, s10, s11⟩
          go_simp
          with_reducible rfl
        rotate_left
        · simp only [Act.put, List.setIfInBounds_toArray, List.set_cons_zero, List.set_cons_succ, i64_w, i32_w]
          rfl
        refine take_ (i := 5) (N := some 43) (v := ?_) (a' := ?_) #[true, true, true, false, false, true, false, false, false, false] rfl rfl (take_ofW HT_.out HW_.out (by kernel_rfl)) (fun _ _ _ h => h) (Or.inl ⟨by rfl, ?_⟩) hHeld ?_ ?_
        rotate_left
        · rintro w' ⟨s0, s1, s2, s3, s4, s5, s6, s7, s8, s9, s10, s11⟩
          go_simp
          with_reducible rfl
        rotate_left
        · simp only [Act.put, List.setIfInBounds_toArray, List.set_cons_zero, List.set_cons_succ, i64_w, i32_w]
          rfl
        refine one_ (i := 3) (N := some 41) #[true, true, true, true, false, true, false, false, false, false] rfl rfl (one_of HT_.out (by kernel_rfl)) (by decide) (fun K hK => ?_)
        refine goes_ Try.func34 (by kernel_rfl) rfl #[.slice A0 l0.length c0] (by rfl) rfl rfl (by (try simp only [List.map_toArray, List.map_cons, List.map_nil]); first | done | rfl | (simp only [List.length_drop, List.length_take]; rfl)) ?_
        refine (packets_weights_all.calls A0 c0 l0 u1 _ (by exact Kd.C_below HR0.out hHeld.2.2.2.2.1) HC0.out U1.out).mono ?_
        rintro e wr1 ⟨rfl, hb⟩
        replace hb := hb.below
        refine ⟨_, rfl, ?_⟩
        refine hK.out _ _ (ExactSt.below hHeld hb) (fun hHeld => ?_)
        clear hK K hb
        refine norm_ (a' := ?_) ?_ ?_
        rotate_left
        · show Act.put _ (some 41) _ = _
          simp only [Act.put, List.setIfInBounds_toArray, List.set_cons_zero, List.set_cons_succ, i64_w, i32_w]
          rfl
        refine one_ (i := 4) (N := some 42) #[true, true, true, true, true, true, false, false, false, false] rfl rfl (one_of HT_.out (by kernel_rfl)) (by decide) (fun K hK => ?_)
        refine goes_ Try.func32 (by kernel_rfl) rfl #[.slice A0 l0.length c0, .int .i64 u1] (by rfl) rfl rfl (by (try simp only [List.map_toArray, List.map_cons, List.map_nil]); first | done | rfl | (simp only [List.length_drop, List.length_take]; rfl)) ?_
        refine (packets_weights_of.calls k A0 c0 l0 u1 u2 _ (by exact Kd.C_below HR0.out hHeld.2.2.2.2.1) HC0.out U2.out).mono ?_
        rintro e wr2 ⟨rfl, hb⟩
        replace hb := hb.below
        refine ⟨_, rfl, ?_⟩
        refine hK.out _ _ (ExactSt.below hHeld hb) (fun hHeld => ?_)
        clear hK K hb
        refine norm_ (a' := ?_) ?_ ?_
        rotate_left
        · show Act.put _ (some 42) _ = _
          simp only [Act.put, List.setIfInBounds_toArray, List.set_cons_zero, List.set_cons_succ, i64_w, i32_w]
          rfl
        refine one_ (i := 6) (N := some 44) #[true, true, true, true, true, true, true, false, false, false] rfl rfl (one_of HT_.out (by kernel_rfl)) (by decide) (fun K hK => ?_)
        refine goes_ Try.func31 (by kernel_rfl) rfl #[.int .i64 u2, .int .i64 a2] (by rfl) rfl rfl (by (try simp only [List.map_toArray, List.map_cons, List.map_nil]); first | done | rfl | (simp only [List.length_drop, List.length_take]; rfl)) ?_
        refine (packets_power.calls k u2 a2 u3 _ U3.out).mono ?_
        rintro e wr3 ⟨rfl, hb⟩
        replace hb := hb.below
        refine ⟨_, rfl, ?_⟩
        refine hK.out _ _ (ExactSt.below hHeld hb) (fun hHeld => ?_)
        clear hK K hb
        refine norm_ (a' := ?_) ?_ ?_
        rotate_left
        · show Act.put _ (some 44) _ = _
          simp only [Act.put, List.setIfInBounds_toArray, List.set_cons_zero, List.set_cons_succ, i64_w, i32_w]
          rfl
        refine one_ (i := 7) (N := some 45) #[true, true, true, true, true, true, true, true, false, false] rfl rfl (one_of HT_.out (by kernel_rfl)) (by decide) (fun K hK => ?_)
        refine goes_ Try.func33 (by kernel_rfl) rfl #[.int .i64 s, .int .i64 u3] (by rfl) rfl rfl (by (try simp only [List.map_toArray, List.map_cons, List.map_nil]); first | done | rfl | (simp only [List.length_drop, List.length_take]; rfl)) ?_
        refine (packets_frac.calls k s u3 y1 y2 _ U4.out).mono ?_
        rintro e wr4 ⟨rfl, hb⟩
        refine ⟨_, rfl, ?_⟩
        refine hK.out _ _ (ExactSt.below hHeld hb) (fun hHeld => ?_)
        clear hK K hb
        refine norm_ (a' := ?_) ?_ ?_
        rotate_left
        · show Act.put _ (some 45) _ = _
          simp only [Act.put, List.setIfInBounds_toArray, List.set_cons_zero, List.set_cons_succ, i64_w, i32_w]
          rfl
        refine last_ (i := 8) (N := none) #[true, true, true, true, true, true, true, true, true, false] rfl rfl (one_of HT_.out (by kernel_rfl)) (by decide) (fun K hK => ?_)
        have hs0 := hHeld.2.2.2.2.2.2.2.1.cell 0 rfl
        have hs1 := hHeld.2.2.2.2.2.2.2.1.cell 1 rfl
        have hf0 := hHeld.2.2.2.2.2.2.2.1.frozen 0
        have hf1 := hHeld.2.2.2.2.2.2.2.1.frozen 1
        have hHS := Aside0.mk hHeld
        clear hHeld
        refine skip_ (w1 := ?_) (by rfl) rfl ?_ ?_
        rotate_left
        · go_simp
          rfl
        refine hK.out _ _ ?_
        clear hK K
        refine pure_ (i := 9) (N := some 7) (v := ?_) (a' := ?_) #[true, true, true, true, true, true, true, true, true, true] rfl rfl (any_of HT_.out (by kernel_rfl)) (fun _ _ _ h => h) (Or.inl ⟨by rfl, ?_⟩) ?_ ?_
        rotate_left
        · intro w'
          go_simp
          with_reducible rfl
        rotate_left
        · simp only [Act.put, List.setIfInBounds_toArray, List.set_cons_zero, List.set_cons_succ, i64_w, i32_w]
          rfl
        refine done_ (done_of HT_.out (by kernel_rfl)) ?_
        simp only [Quiet]
        go_wp2
        have hK := ((keeps_below w.heap.size hHS.out.2.2.2.2.2.2.2.2.2.2.2).trans (((KeepsOthers.setCell wr4 ⟨w.heap.size + 1 + 1, 0, none⟩ (.int .i64 y1)).trans (KeepsOthers.setCell _ ⟨w.heap.size + 1 + 1, 1, none⟩ (.int .i64 y2))).from w.heap.size)).same D _ (by have := HB2.out.size; have := HD.out; exact Nat.le_trans HB2.out.size HD.out) HK.out rfl
        refine marks_ret1 hK (results_ct rfl _ _ (w.heap.size + 1 + 1) 30 #[.int .i64 y1, .int .i64 y2] (0, 0) _ rfl (Box.ended ((hHS.out.2.2.2.2.2.2.2.1.put 0 _).put 1 _) hK rfl).2 Try.underlying30 rfl (by kernel_rfl)) ⟨rfl, ?_⟩
        have hwD : w.heap.size ≤ D := Nat.le_trans HB2.out.size HD.out
        exact below_ended (below_set' (below_set' hHS.out.2.2.2.2.1 (by show w.heap.size ≤ w.heap.size + 1 + 1; omega) _) (by show w.heap.size ≤ w.heap.size + 1 + 1; omega) _) hwD

end Go.Proofs.Ytmlbdkkdejecmaa.X
