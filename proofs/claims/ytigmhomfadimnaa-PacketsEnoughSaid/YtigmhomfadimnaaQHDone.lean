/- The contract of (packets.weights).done: the loop over the set's parts. -/
import Derived.Test.YtigmhomfadimnaaQHBoxes
import Derived.Test.YtigmhomfadimnaaQHParts
import Derived.Test.YtigmhomfadimnaaQXP
set_option linter.unusedVariables false
set_option linter.unusedSimpArgs false
namespace Go.Proofs.Ytigmhomfadimnaa.X
open Go.RowKit Go.Proofs.YtigmhomfadimnaaW.PrintWords Go.Proofs.YtigmhomfadimnaaW.PrintLast Go.Proofs.YtigmhomfadimnaaW.PrintMore
attribute [local go_sem] Oper.semAt_some

/-- One round: a part, and the sum so far. -/
def packets_weights_done.step (k : Nat) (l0 : List Int) (a2 p s : Int) : Option Int :=
  (packets_sign.f k p).bind fun t1 => (packets_weights_all.f l0).bind fun t2 => (packets_weights_of.f k l0 (Go.bits .andNot .i64 t2 p)).bind fun t3 => (packets_power.f k t3 a2).bind fun t4 => some (wrap64 (s + wrap64 (t1 * t4)))
def packets_weights_done.go (k : Nat) (l0 : List Int) (a2 : Int) : List Int → Int → Option Int
  | [], s => some s
  | p :: ps, s => (packets_weights_done.step k l0 a2 p s).bind fun d => packets_weights_done.go k l0 a2 ps d
def packets_weights_done.f (k : Nat) (l0 : List Int) (a1 a2 : Int) : Option Int :=
  if 0 ≤ a1 then (if a1 < 9223372036854775808 then packets_weights_done.go k l0 a2 (partsL a1) 0 else none) else none
/-- What stands in memory between two rounds. -/
def DoneSt (w V : World) (g3 g5 g7 gB : Nat) (A0 : Option Addr) (n c0 : Nat) (a2 set s : Int) (W : World) : Prop :=
  W.cell? ⟨g3, 0, none⟩ = some (.slice A0 n c0) ∧ W.cell? ⟨g5, 0, none⟩ = some (.int .i64 a2) ∧ W.cell? ⟨g7, 0, none⟩ = some (.int .i64 s) ∧ Below w.heap.size w W ∧
  Box w g3 #[.slice A0 n c0] 52 W ∧ Box w g5 #[.int .i64 a2] 3 W ∧ Box w g7 #[.int .i64 s] 3 W ∧ Box w gB #[.int .i64 set] 3 W ∧ Below V.heap.size V W
section
variable {w V W W1 : World} {g3 g5 g7 gB n c0 : Nat} {A0 : Option Addr} {a2 set s : Int}
theorem DoneSt.mk (hb : Below w.heap.size w W) (h3 : Box w g3 #[.slice A0 n c0] 52 W) (h5 : Box w g5 #[.int .i64 a2] 3 W) (h7 : Box w g7 #[.int .i64 s] 3 W) (hB : Box w gB #[.int .i64 set] 3 W) (hV : Below V.heap.size V W) :
    DoneSt w V g3 g5 g7 gB A0 n c0 a2 set s W := ⟨h3.cell 0 rfl, h5.cell 0 rfl, h7.cell 0 rfl, hb, h3, h5, h7, hB, hV⟩
theorem DoneSt.below (h : DoneSt w V g3 g5 g7 gB A0 n c0 a2 set s W) (hb : Below W.heap.size W W1) : DoneSt w V g3 g5 g7 gB A0 n c0 a2 set s W1 :=
  .mk (below_step h.2.2.2.1 hb) (h.2.2.2.2.1.below hb) (h.2.2.2.2.2.1.below hb) (h.2.2.2.2.2.2.1.below hb) (h.2.2.2.2.2.2.2.1.below hb) (below_step h.2.2.2.2.2.2.2.2 hb)
theorem DoneSt.put (h : DoneSt w V g3 g5 g7 gB A0 n c0 a2 set s W) (h57 : g5 ≠ g7) (hB7 : gB ≠ g7) (d : Int) (W2 : World) (e : W2 = W.setCell ⟨g7, 0, none⟩ (.int .i64 d)) : DoneSt w W2 g3 g5 g7 gB A0 n c0 a2 set d W2 := by
  subst e
  obtain ⟨-, -, -, hb, h3, h5, h7, hB, -⟩ := h
  exact .mk (below_set' hb h7.1 _) (h3.far (p := ⟨g7, 0, none⟩) (h3.ne h7 (by decide)) _) (h5.far (p := ⟨g7, 0, none⟩) h57 _) (h7.put 0 _) (hB.far (p := ⟨g7, 0, none⟩) hB7 _) (Below.refl _ _)
theorem DoneSt.own {B : Nat} {row : Option Nat} (h : DoneSt w V g3 g5 g7 gB A0 n c0 a2 set s W) (hB : w.heap.size ≤ B) (hg : W.grownBy W1 row) (hr : ∀ r, row = some r → B ≤ r ∧ ∃ o : Obj, W.heap[r]? = some o ∧ o.isCells = false) : DoneSt w W1 g3 g5 g7 gB A0 n c0 a2 set s W1 :=
  .mk (below_own h.2.2.2.1 hB hg hr) (h.2.2.2.2.1.grown hg (fun r e => (hr r e).2)) (h.2.2.2.2.2.1.grown hg (fun r e => (hr r e).2)) (h.2.2.2.2.2.2.1.grown hg (fun r e => (hr r e).2)) (h.2.2.2.2.2.2.2.1.grown hg (fun r e => (hr r e).2)) (Below.refl _ _)
end

def doneT.T4 : Bool × List (List Nat × List Nat) := (true, [([], []), ([], []), ([1], [1]), ([], []), ([], []), ([4, 2], [4]), ([], []), ([5, 6], [5, 6]), ([3, 7, 5], [3, 7]), ([], []), ([8, 9, 8], [8, 9]), ([2, 10], [2, 10]), ([0, 11], [0, 11]), ([12, 10, 0, 1, 2, 3, 4, 5, 6, 7, 8, 9, 10, 11, 12], [12])])
def doneT.B4 : List Nat := [0, 0, 2, 0, 0, 22, 0, 118, 254, 0, 1022, 2046, 4095, 8191]
theorem doneT.tab4 : rtab .any (opsOf Try.f65 4) = doneT.T4 := by kernel_rfl
theorem doneT.bits4 : waitsOk doneT.T4.2 doneT.B4 = true := by kernel_rfl

set_option maxRecDepth 100000 in
set_option maxHeartbeats 8000000 in
theorem packets_weights_done.calls (k : Nat) (A0 : Option Addr) (c0 : Nat) (l0 : List Int) (a1 a2 : Int) (r : Int) (w : World) (hr0 : Kd.C (Kd.int .i64) w A0 l0.length l0) (hc0 : l0.length ≤ c0) (h : packets_weights_done.f k l0 a1 a2 = some r) :
    Calls Try.prog 65 #[.slice A0 l0.length c0, .int .i64 a1, .int .i64 a2] w fun e w' => e = .returned (.int .i64 r) ∧ Below w.heap.size w w' := by
  have HR0 := Aside0.mk hr0
  have HC0 := Aside0.mk hc0
  clear hr0 hc0
  have HB := Aside0.mk (Below.refl w.heap.size w)
  unfold packets_weights_done.f at h
  by_cases ha0 : 0 ≤ a1
  · rw [if_pos ha0] at h
    by_cases ha1 : a1 < 9223372036854775808
    · rw [if_pos ha1] at h
      have HY := Aside0.mk h
      clear h
      have HB1 := Aside0.mk (below_alloc HB.out (.cells #[.slice A0 l0.length c0] 52))
      have HB2 := Aside0.mk (below_alloc HB1.out (.cells #[.int .i64 a2] 3))
      have HB3 := Aside0.mk (below_alloc HB2.out (.cells #[.int .i64 0] 3))
      have HB4 := Aside0.mk (below_alloc HB3.out (.cells #[.int .i64 a1] 3))
      have B3 := Aside0.mk ((((Box.new HB.out #[.slice A0 l0.length c0] 52).alloc (.cells #[.int .i64 a2] 3)).alloc (.cells #[.int .i64 0] 3)).alloc (.cells #[.int .i64 a1] 3))
      have B5 := Aside0.mk (((Box.new HB1.out #[.int .i64 a2] 3).alloc (.cells #[.int .i64 0] 3)).alloc (.cells #[.int .i64 a1] 3))
      have B7 := Aside0.mk ((Box.new HB2.out #[.int .i64 0] 3).alloc (.cells #[.int .i64 a1] 3))
      have BB := Aside0.mk (Box.new HB3.out #[.int .i64 a1] 3)
      rw [World.size_alloc] at B5
      rw [World.size_alloc, World.size_alloc] at B7
      rw [World.size_alloc, World.size_alloc, World.size_alloc] at BB
      have N57 : Aside0 (w.heap.size + 1 ≠ w.heap.size + 1 + 1) := ⟨by omega⟩
      have NB7 : Aside0 (w.heap.size + 1 + 1 + 1 ≠ w.heap.size + 1 + 1) := ⟨by omega⟩
      refine calls_of_marks Try.func65 rfl ?_
      simp only [Try.ntmps65, List.size_toArray, List.length_cons, List.length_nil, Nat.reduceAdd, Nat.reduceSub, Array.replicate_succ, Array.replicate_zero, List.push_toArray, List.append_toArray, List.nil_append, List.cons_append]
      go_wp2_with fail
      refine (parts_calls a1 _).mono ?_
      rintro e w3 ⟨rfl, rfl⟩
      go_wp2
      have HSET := Aside0.mk (parts_seq (w.heap.size + 1 + 1 + 1) a1 ha0 (by omega) _ (by simp) (BB.out.cell 0 rfl))
      have HST0 := Aside0.mk (DoneSt.mk HB4.out B3.out B5.out B7.out BB.out (Below.refl _ _))
      clear B3 B5 B7 BB HB HB1 HB2 HB3 ha0 ha1
      refine rangeL (gf := 76) (lb := #[.pointer (some ⟨w.heap.size + 1 + 1 + 1, 0, none⟩)]) rfl (fun args w => enters_ Try.func76 (by kernel_rfl) rfl args w) HSET.out (fun h h' => Eq.trans h' h) ?keepsB (Below.refl _ _) rfl
        (fun j W => ∃ s : Int, Aside0 (packets_weights_done.go k l0 a2 ((partsL a1).drop j) s = some r) ∧ Aside0 (DoneSt w W w.heap.size (w.heap.size + 1) (w.heap.size + 1 + 1) (w.heap.size + 1 + 1 + 1) A0 l0.length c0 a2 a1 s W)) ?own ⟨0, HY, HST0⟩
        (fun x => { tmps := #[.slice A0 l0.length c0, .int .i64 a1, .int .i64 a2, .pointer (some ⟨w.heap.size, 0, none⟩), undef, .pointer (some ⟨w.heap.size + 1, 0, none⟩), .int .i64 0, .pointer (some ⟨w.heap.size + 1 + 1, 0, none⟩), .int .i64 x, .int .i64 a1, .func (.func 76) #[] #[.pointer (some ⟨w.heap.size + 1 + 1 + 1, 0, none⟩)], .int .i64 x, undef, undef, undef, undef, undef, undef, undef, undef, undef, undef, undef, undef, undef, undef], defers := [] })
        ?assign ?body ?done
      case keepsB =>
        intro W l o o' hl _ _
        show (W.putObj l o').cell? _ = W.cell? _
        exact World.cell?_of_block (World.putObj_heap_other (by simp at hl; show w.heap.size + 1 + 1 + 1 ≠ l; omega))
      case own =>
        rintro j W W' row ⟨s, h1, h2⟩ hg hr
        exact ⟨s, h1, ⟨h2.out.own (by have := HB4.out.size; exact this) hg hr⟩⟩
      case assign =>
        intro l x W K hK
        gi_wp2
        exact hK
      case body =>
        rintro l j W hj ⟨s, hgo, HST⟩
        have hd : (partsL a1).drop j = (partsL a1).getD j 0 :: (partsL a1).drop (j + 1) := by
          rw [List.drop_eq_getElem_cons hj]; simp [hj]
        rw [hd] at hgo
        clear hd
        generalize (partsL a1).getD j 0 = p at *
        replace hgo := Option.bind_eq_some_iff.mp hgo.out
        obtain ⟨d, hs, hgo⟩ := hgo
        have HGO := Aside0.mk hgo
        clear hgo HST0 HSET HY
        have HKP : Aside0 (∀ W', DoneSt w W' w.heap.size (w.heap.size + 1) (w.heap.size + 1 + 1) (w.heap.size + 1 + 1 + 1) A0 l0.length c0 a2 a1 d W' → keepsCell (w.heap.size + 1 + 1 + 1) W W') := ⟨fun W' h' => (h'.2.2.2.2.2.2.2.1.cell 0 rfl).trans (HST.out.2.2.2.2.2.2.2.1.cell 0 rfl).symm⟩
        unfold packets_weights_done.step at hs
        replace hs := Option.bind_eq_some_iff.mp hs
        obtain ⟨t1, h1, hs⟩ := hs
        replace hs := Option.bind_eq_some_iff.mp hs
        obtain ⟨t2, h2, hs⟩ := hs
        replace hs := Option.bind_eq_some_iff.mp hs
        obtain ⟨t3, h3, hs⟩ := hs
        replace hs := Option.bind_eq_some_iff.mp hs
        obtain ⟨t4, h4, hs⟩ := hs
        obtain rfl := Option.some.inj hs
        have H1 := Aside0.mk h1
        have H2 := Aside0.mk h2
        have H3 := Aside0.mk h3
        have H4 := Aside0.mk h4
        clear h1 h2 h3 h4 hs
        gi_wp2
        refine startIn_ (n := 14) (S := DoneSt w W w.heap.size (w.heap.size + 1) (w.heap.size + 1 + 1) (w.heap.size + 1 + 1 + 1) A0 l0.length c0 a2 a1 s) (ds := [13]) #[false, false, false, false, false, false, false, false, false, false, false, false, false, false] (by kernel_rfl) (by kernel_rfl) (fun _ _ h => h) rfl rfl (DoneSt.below HST.out (below_drew (Below.refl _ _))) (fun hHeld => ?_)
        refine with_tabW doneT.tab4 doneT.bits4 (fun HT_ HW_ => ?_)
        refine take_ (i := 0) (N := some 12) (v := ?_) (a' := ?_) #[true, false, false, false, false, false, false, false, false, false, false, false, false, false] rfl rfl (take_ofW HT_.out HW_.out (by kernel_rfl)) (fun _ _ _ h => h) (Or.inl ⟨by rfl, ?_⟩) hHeld ?_ ?_
        rotate_left
        · rintro w' ⟨s0, s1, s2, s3, s4, s5, s6, s7, s8⟩
          go_simp
          with_reducible rfl
        rotate_left
        · simp only [Act.put, List.setIfInBounds_toArray, List.set_cons_zero, List.set_cons_succ, i64_w, i32_w]
          rfl
        refine pure_ (i := 1) (N := some 13) (v := ?_) (a' := ?_) #[true, true, false, false, false, false, false, false, false, false, false, false, false, false] rfl rfl (any_of HT_.out (by kernel_rfl)) (fun _ _ _ h => h) (Or.inl ⟨by rfl, ?_⟩) ?_ ?_
        rotate_left
        · intro w'
          go_simp
          with_reducible rfl
        rotate_left
        · simp only [Act.put, List.setIfInBounds_toArray, List.set_cons_zero, List.set_cons_succ, i64_w, i32_w]
          rfl
        refine take_ (i := 3) (N := some 15) (v := ?_) (a' := ?_) #[true, true, false, true, false, false, false, false, false, false, false, false, false, false] rfl rfl (take_ofW HT_.out HW_.out (by kernel_rfl)) (fun _ _ _ h => h) (Or.inl ⟨by rfl, ?_⟩) hHeld ?_ ?_
        rotate_left
        · rintro w' ⟨s0, s1, s2, s3, s4, s5, s6, s7, s8⟩
          go_simp
          with_reducible rfl
        rotate_left
        · simp only [Act.put, List.setIfInBounds_toArray, List.set_cons_zero, List.set_cons_succ, i64_w, i32_w]
          rfl
        refine take_ (i := 4) (N := some 16) (v := ?_) (a' := ?_) #[true, true, false, true, true, false, false, false, false, false, false, false, false, false] rfl rfl (take_ofW HT_.out HW_.out (by kernel_rfl)) (fun _ _ _ h => h) (Or.inl ⟨by rfl, ?_⟩) hHeld ?_ ?_
        rotate_left
        · rintro w' ⟨s0, s1, s2, s3, s4, s5, s6, s7, s8⟩
          go_simp
          with_reducible rfl
        rotate_left
        · simp only [Act.put, List.setIfInBounds_toArray, List.set_cons_zero, List.set_cons_succ, i64_w, i32_w]
          rfl
        refine pure_ (i := 6) (N := some 18) (v := ?_) (a' := ?_) #[true, true, false, true, true, false, true, false, false, false, false, false, false, false] rfl rfl (any_of HT_.out (by kernel_rfl)) (fun _ _ _ h => h) (Or.inl ⟨by rfl, ?_⟩) ?_ ?_
        rotate_left
        · intro w'
          go_simp
          with_reducible rfl
        rotate_left
        · simp only [Act.put, List.setIfInBounds_toArray, List.set_cons_zero, List.set_cons_succ, i64_w, i32_w]
          rfl
        refine take_ (i := 9) (N := some 21) (v := ?_) (a' := ?_) #[true, true, false, true, true, false, true, false, false, true, false, false, false, false] rfl rfl (take_ofW HT_.out HW_.out (by kernel_rfl)) (fun _ _ _ h => h) (Or.inl ⟨by rfl, ?_⟩) hHeld ?_ ?_
        rotate_left
        · rintro w' ⟨s0, s1, s2, s3, s4, s5, s6, s7, s8⟩
          go_simp
          with_reducible rfl
        rotate_left
        · simp only [Act.put, List.setIfInBounds_toArray, List.set_cons_zero, List.set_cons_succ, i64_w, i32_w]
          rfl
        refine one_ (i := 2) (N := some 14) #[true, true, true, true, true, false, true, false, false, true, false, false, false, false] rfl rfl (one_of HT_.out (by kernel_rfl)) (by decide) (fun K hK => ?_)
        refine goes_ Try.func53 (by kernel_rfl) rfl #[.int .i64 p] (by rfl) rfl rfl (by (try simp only [List.map_toArray, List.map_cons, List.map_nil]); first | done | rfl | (simp only [List.length_drop, List.length_take]; rfl)) ?_
        refine (packets_sign.calls k p t1 _ H1.out).mono ?_
        rintro e wr1 ⟨rfl, hb⟩
        replace hb := hb.below
        refine ⟨_, rfl, ?_⟩
        refine hK.out _ _ (DoneSt.below hHeld hb) (fun hHeld => ?_)
        clear hK K hb
        refine norm_ (a' := ?_) ?_ ?_
        rotate_left
        · show Act.put _ (some 14) _ = _
          simp only [Act.put, List.setIfInBounds_toArray, List.set_cons_zero, List.set_cons_succ, i64_w, i32_w]
          rfl
        refine one_ (i := 5) (N := some 17) #[true, true, true, true, true, true, true, false, false, true, false, false, false, false] rfl rfl (one_of HT_.out (by kernel_rfl)) (by decide) (fun K hK => ?_)
        refine goes_ Try.func55 (by kernel_rfl) rfl #[.slice A0 l0.length c0] (by rfl) rfl rfl (by (try simp only [List.map_toArray, List.map_cons, List.map_nil]); first | done | rfl | (simp only [List.length_drop, List.length_take]; rfl)) ?_
        refine (packets_weights_all.calls A0 c0 l0 t2 _ (by exact Kd.C_below HR0.out hHeld.2.2.2.1) HC0.out H2.out).mono ?_
        rintro e wr2 ⟨rfl, hb⟩
        replace hb := hb.below
        refine ⟨_, rfl, ?_⟩
        refine hK.out _ _ (DoneSt.below hHeld hb) (fun hHeld => ?_)
        clear hK K hb
        refine norm_ (a' := ?_) ?_ ?_
        rotate_left
        · show Act.put _ (some 17) _ = _
          simp only [Act.put, List.setIfInBounds_toArray, List.set_cons_zero, List.set_cons_succ, i64_w, i32_w]
          rfl
        refine pure_ (i := 7) (N := some 19) (v := ?_) (a' := ?_) #[true, true, true, true, true, true, true, true, false, true, false, false, false, false] rfl rfl (any_of HT_.out (by kernel_rfl)) (fun _ _ _ h => h) (Or.inl ⟨by rfl, ?_⟩) ?_ ?_
        rotate_left
        · intro w'
          go_simp
          with_reducible rfl
        rotate_left
        · simp only [Act.put, List.setIfInBounds_toArray, List.set_cons_zero, List.set_cons_succ, i64_w, i32_w]
          rfl
        refine one_ (i := 8) (N := some 20) #[true, true, true, true, true, true, true, true, true, true, false, false, false, false] rfl rfl (one_of HT_.out (by kernel_rfl)) (by decide) (fun K hK => ?_)
        refine goes_ Try.func54 (by kernel_rfl) rfl #[.slice A0 l0.length c0, .int .i64 (Go.bits .andNot .i64 t2 p)] (by rfl) rfl rfl (by (try simp only [List.map_toArray, List.map_cons, List.map_nil]); first | done | rfl | (simp only [List.length_drop, List.length_take]; rfl)) ?_
        refine (packets_weights_of.calls k A0 c0 l0 (Go.bits .andNot .i64 t2 p) t3 _ (by exact Kd.C_below HR0.out hHeld.2.2.2.1) HC0.out H3.out).mono ?_
        rintro e wr3 ⟨rfl, hb⟩
        replace hb := hb.below
        refine ⟨_, rfl, ?_⟩
        refine hK.out _ _ (DoneSt.below hHeld hb) (fun hHeld => ?_)
        clear hK K hb
        refine norm_ (a' := ?_) ?_ ?_
        rotate_left
        · show Act.put _ (some 20) _ = _
          simp only [Act.put, List.setIfInBounds_toArray, List.set_cons_zero, List.set_cons_succ, i64_w, i32_w]
          rfl
        refine one_ (i := 10) (N := some 22) #[true, true, true, true, true, true, true, true, true, true, true, false, false, false] rfl rfl (one_of HT_.out (by kernel_rfl)) (by decide) (fun K hK => ?_)
        refine goes_ Try.func66 (by kernel_rfl) rfl #[.int .i64 t3, .int .i64 a2] (by rfl) rfl rfl (by (try simp only [List.map_toArray, List.map_cons, List.map_nil]); first | done | rfl | (simp only [List.length_drop, List.length_take]; rfl)) ?_
        refine (packets_power.calls k t3 a2 t4 _ H4.out).mono ?_
        rintro e wr4 ⟨rfl, hb⟩
        replace hb := hb.below
        refine ⟨_, rfl, ?_⟩
        refine hK.out _ _ (DoneSt.below hHeld hb) (fun hHeld => ?_)
        clear hK K hb
        refine norm_ (a' := ?_) ?_ ?_
        rotate_left
        · show Act.put _ (some 22) _ = _
          simp only [Act.put, List.setIfInBounds_toArray, List.set_cons_zero, List.set_cons_succ, i64_w, i32_w]
          rfl
        refine pure_ (i := 11) (N := some 23) (v := ?_) (a' := ?_) #[true, true, true, true, true, true, true, true, true, true, true, true, false, false] rfl rfl (any_of HT_.out (by kernel_rfl)) (fun _ _ _ h => h) (Or.inl ⟨by rfl, ?_⟩) ?_ ?_
        rotate_left
        · intro w'
          go_simp
          with_reducible rfl
        rotate_left
        · simp only [Act.put, List.setIfInBounds_toArray, List.set_cons_zero, List.set_cons_succ, i64_w, i32_w]
          rfl
        refine pure_ (i := 12) (N := some 24) (v := ?_) (a' := ?_) #[true, true, true, true, true, true, true, true, true, true, true, true, true, false] rfl rfl (any_of HT_.out (by kernel_rfl)) (fun _ _ _ h => h) (Or.inl ⟨by rfl, ?_⟩) ?_ ?_
        rotate_left
        · intro w'
          go_simp
          with_reducible rfl
        rotate_left
        · simp only [Act.put, List.setIfInBounds_toArray, List.set_cons_zero, List.set_cons_succ, i64_w, i32_w]
          rfl
        refine last_ (i := 13) (N := none) #[true, true, true, true, true, true, true, true, true, true, true, true, true, true] rfl rfl (one_of HT_.out (by kernel_rfl)) (by decide) (fun K hK => ?_)
        have hs0 := hHeld.2.2.1
        have hf0 := hHeld.2.2.2.2.2.2.1.frozen 0
        have hHS := Aside0.mk hHeld
        clear hHeld
        refine skip_ (w1 := ?_) (by rfl) rfl ?_ ?_
        rotate_left
        · go_simp
          rfl
        refine hK.out _ _ ?_
        clear hK K
        refine done_ (done_of HT_.out (by kernel_rfl)) ?_
        have hfin := hHS.out.put N57.out NB7.out (wrap64 (s + wrap64 (t1 * t4))) _ rfl
        exact ⟨(keeps_below _ hHS.out.2.2.2.2.2.2.2.2).trans ((KeepsOthers.setCell _ _ _).from _), HKP.out _ hfin, _, HGO, ⟨hfin⟩⟩
      case done =>
        rintro D W hD ⟨s, hgo, HST⟩ hk
        rw [List.drop_length] at hgo
        obtain rfl : s = r := by simpa [packets_weights_done.go] using hgo.out
        have hs0 := HST.out.2.2.1
        have HK := Aside0.mk hk
        clear hk hgo
        go_wp2
        refine marks_ret1 HK.out (results_tmp rfl _ _ _) ⟨rfl, ?_⟩
        have hwD : w.heap.size ≤ D := Nat.le_trans HB4.out.size hD
        exact below_ended HST.out.2.2.2.1 hwD
    · rw [if_neg ha1] at h
      simp at h
  · rw [if_neg ha0] at h
    simp at h

end Go.Proofs.Ytigmhomfadimnaa.X
