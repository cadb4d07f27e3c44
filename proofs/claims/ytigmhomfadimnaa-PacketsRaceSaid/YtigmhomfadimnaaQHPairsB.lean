/- The contract of the closure packets.Pairs$1: what it answers, what it leaves in the map of what is known. -/
import Derived.Test.YtigmhomfadimnaaQHPairsA
set_option linter.unusedVariables false
set_option linter.unusedSimpArgs false
namespace Go.Proofs.Ytigmhomfadimnaa.X
open Go.RowKit Go.Proofs.YtigmhomfadimnaaW.PrintWords Go.Proofs.YtigmhomfadimnaaW.PrintLast Go.Proofs.YtigmhomfadimnaaW.PrintMore
open Go.Maps
attribute [local go_sem] Oper.semAt_some
/-- What is known of the memory amid the calls of Pairs. -/
structure PSt (w0 : World) (gk gx gw gf mb N : Nat) (D : DataW Unit) (A : Option Addr) (c : Nat) (l : List Int) (W : World) : Prop where
  bk : W.heap[gk]? = some (.cells #[.map (some mb)] 65 (0, 0))
  bx : W.heap[gx]? = some (.cells #[.slice A l.length c] 52 (0, 0))
  bw : W.heap[gw]? = some (.cells #[.slice A l.length c] 23 (0, 0))
  bf : W.heap[gf]? = some (.cells #[.func (.func 72) #[] #[.pointer (some ⟨gk, 0, none⟩), .pointer (some ⟨gx, 0, none⟩), .pointer (some ⟨gw, 0, none⟩), .pointer (some ⟨gf, 0, none⟩)]] 58 (0, 0))
  mp : W.ownsMap Try.prog 66 fracElem mb N D
  came : Kd.C (Kd.int .i64) w0 A l.length l
  hc : l.length ≤ c
  bel : Below w0.heap.size w0 W
  hm : w0.heap.size ≤ mb
  m1 : mb ≠ gk
  m2 : mb ≠ gx
  m3 : mb ≠ gw
  m4 : mb ≠ gf
section
variable {w0 : World} {gk gx gw gf mb N N' : Nat} {D D' : DataW Unit} {A : Option Addr} {c : Nat} {l : List Int} {W W' : World}
theorem PSt.below (h : PSt w0 gk gx gw gf mb N D A c l W) (hb : Below W.heap.size W W') : PSt w0 gk gx gw gf mb N D A c l W' := by
  refine ⟨blk_below h.bk hb, blk_below h.bx hb, blk_below h.bw hb, blk_below h.bf hb, ?_, h.came, h.hc, below_step h.bel hb, h.hm, h.m1, h.m2, h.m3, h.m4⟩
  obtain ⟨es, clock, hbk, F, hs, hD⟩ := h.mp
  exact ⟨es, clock, blk_below hbk hb, F, hs, hD⟩
theorem PSt.alloc (h : PSt w0 gk gx gw gf mb N D A c l W) (o : Obj) : PSt w0 gk gx gw gf mb N D A c l (W.alloc o) := h.below (below_alloc (Below.refl _ _) o)
theorem PSt.putm (h : PSt w0 gk gx gw gf mb N D A c l W) (hm : W'.ownsMap Try.prog 66 fracElem mb N' D') (hg : W.grownBy W' (some mb)) : PSt w0 gk gx gw gf mb N' D' A c l W' :=
  ⟨blk_grown h.bk hg (fun e => h.m1 (Option.some.inj e).symm), blk_grown h.bx hg (fun e => h.m2 (Option.some.inj e).symm), blk_grown h.bw hg (fun e => h.m3 (Option.some.inj e).symm), blk_grown h.bf hg (fun e => h.m4 (Option.some.inj e).symm), hm, h.came, h.hc, h.bel.grown hg h.bel.size (fun k e => by cases e; exact h.hm), h.hm, h.m1, h.m2, h.m3, h.m4⟩
/-- A block that is none of the elder ones. -/
structure NewB (w0 : World) (gk gx gw gf mb b : Nat) : Prop where
  k : gk < b
  x : gx < b
  w : gw < b
  f : gf < b
  m : mb < b
  z : w0.heap.size ≤ b
theorem PSt.new (h : PSt w0 gk gx gw gf mb N D A c l W) {b : Nat} (hb : W.heap.size ≤ b) : NewB w0 gk gx gw gf mb b :=
  ⟨Nat.lt_of_lt_of_le (blk_lt h.bk) hb, Nat.lt_of_lt_of_le (blk_lt h.bx) hb, Nat.lt_of_lt_of_le (blk_lt h.bw) hb, Nat.lt_of_lt_of_le (blk_lt h.bf) hb, Nat.lt_of_lt_of_le h.mp.lt hb, Nat.le_trans h.bel.size hb⟩
theorem PSt.set (h : PSt w0 gk gx gw gf mb N D A c l W) {b i : Nat} (n : NewB w0 gk gx gw gf mb b) (v : Value) : PSt w0 gk gx gw gf mb N D A c l (W.setCell ⟨b, i, none⟩ v) :=
  ⟨blk_far h.bk (Nat.ne_of_lt n.k) _, blk_far h.bx (Nat.ne_of_lt n.x) _, blk_far h.bw (Nat.ne_of_lt n.w) _, blk_far h.bf (Nat.ne_of_lt n.f) _, h.mp.setCell (Nat.ne_of_lt n.m) _, h.came, h.hc, h.bel.setCell n.z _, h.hm, h.m1, h.m2, h.m3, h.m4⟩
theorem of_below (k : Nat) (A0 : Option Addr) (c0 : Nat) (l0 : List Int) (a1 : Int) (r : Int) (w : World) (hr0 : Kd.C (Kd.int .i64) w A0 l0.length l0) (hc0 : l0.length ≤ c0) (h : packets_weights_of.f k l0 a1 = some r) :
    Calls Try.prog 54 #[.slice A0 l0.length c0, .int .i64 a1] w fun e w' => e = .returned (.int .i64 r) ∧ Below w.heap.size w w' := (packets_weights_of.calls k A0 c0 l0 a1 r w hr0 hc0 h).mono fun e w' h => ⟨h.1, h.2.below⟩
theorem all_below (A0 : Option Addr) (c0 : Nat) (l0 : List Int) (r : Int) (w : World) (hr0 : Kd.C (Kd.int .i64) w A0 l0.length l0) (hc0 : l0.length ≤ c0) (h : packets_weights_all.f l0 = some r) :
    Calls Try.prog 55 #[.slice A0 l0.length c0] w fun e w' => e = .returned (.int .i64 r) ∧ Below w.heap.size w w' := (packets_weights_all.calls A0 c0 l0 r w hr0 hc0 h).mono fun e w' h => ⟨h.1, h.2.below⟩
end
theorem cell_keep3 {W W1 : World} {a : Addr} {u : Value} (h : W.cell? a = some u) (hb : Below W.heap.size W W1) : W1.cell? a = some u := (hb.cell (World.block_lt_of_cell? W _ h)).trans h
/-- A variable that is read, and what lay before. -/
def PX (g : Nat) (u : Value) (w7 W : World) : Prop := W.cell? ⟨g, 0, none⟩ = some u ∧ Below w7.heap.size w7 W
theorem PX.below {g : Nat} {u : Value} {w7 W W1 : World} (h : PX g u w7 W) (hb : Below W.heap.size W W1) : PX g u w7 W1 := ⟨cell_keep3 h.1 hb, below_step h.2 hb⟩
/-- What the round of the loop reads. -/
def PS6 (g : Nat) (s1 s2 : Int) (gw : Nat) (sl : Value) (p : Addr) (y : Int) (gx gf : Nat) (fv : Value) (W : World) : Prop :=
  W.cell? ⟨g, 0, none⟩ = some (.int .i64 s1) ∧ W.cell? ⟨g, 1, none⟩ = some (.int .i64 s2) ∧ W.cell? ⟨gw, 0, none⟩ = some sl ∧ W.cell? p = some (.int .i64 y) ∧ W.cell? ⟨gx, 0, none⟩ = some sl ∧ W.cell? ⟨gf, 0, none⟩ = some fv
theorem PS6.below {g : Nat} {s1 s2 : Int} {gw : Nat} {sl : Value} {p : Addr} {y : Int} {gx gf : Nat} {fv : Value} {W W1 : World} (h : PS6 g s1 s2 gw sl p y gx gf fv W) (hb : Below W.heap.size W W1) : PS6 g s1 s2 gw sl p y gx gf fv W1 := by
  obtain ⟨h0, h1, h2, h3, h4, h5⟩ := h
  exact ⟨cell_keep3 h0 hb, cell_keep3 h1 hb, cell_keep3 h2 hb, cell_keep3 h3 hb, cell_keep3 h4 hb, cell_keep3 h5 hb⟩
theorem parRun {oi : Oper} {a : Act} {w : World} {b1 b2 : Operand} {y z : Int} {p1 p2 p3 p4 : Value} {tf : Tmp} {ts : Array TypeId} (hop : oi.op = .call { callee := .value (.tmp tf), args := #[b1, b2], argTypes := ts }) (hf : a.eval (.tmp tf) = .func (.func 72) #[] #[p1, p2, p3, p4]) (hb1 : a.eval b1 = .int .i64 y) (hb2 : a.eval b2 = .int .i64 z) :
    (execOp a.eval oi).run Try.prog w = .ok (.enter 72 #[.int .i64 y, .int .i64 z, p1, p2, p3, p4]) w := by
  have he := enters_ (f := 72) Try.func72 (by kernel_rfl) rfl #[.int .i64 y, .int .i64 z, p1, p2, p3, p4] w
  unfold execOp
  simp [hop, resolve, Deferred.ofValue, invoke, hb1, hb2, hf, he]
theorem PSt.el {w0 : World} {gk gx gw gf mb N : Nat} {D : DataW Unit} {ad : Addr} {c : Nat} {l : List Int} {W : World} (h : PSt w0 gk gx gw gf mb N D (some ad) c l W) (i : Nat) (hi : i < l.length) : W.cell? (ad.add i) = some (.int .i64 (rd l (i : Int))) := by
  obtain ⟨ad', he, e0⟩ := Kd.at_int (Kd.C_below h.came h.bel) (i : Int) (by omega) (by omega)
  cases he
  simpa using e0
theorem pc_all : (List.range 8).all (fun o => (List.range 8).all fun a => (Go.bits .or .i64 (o : Int) (a : Int) == 0) || decide (1 ≤ pc3 o + pc3 a)) = true := by decide +kernel
theorem pc_pos {o a : Nat} (ho : o < 8) (ha : a < 8) (h : ¬ Go.bits .or .i64 (o : Int) (a : Int) = 0) : 1 ≤ pc3 o + pc3 a := by
  have h2 := List.all_eq_true.mp (List.all_eq_true.mp pc_all o (by simpa using ho)) a (by simpa using ha)
  rw [beq_eq_false_iff_ne.mpr h, Bool.false_or, decide_eq_true_eq] at h2
  exact h2
theorem pow_step {p p' : Nat} (h : p' + 1 = p) : 4 ^ p' = 4 ^ (p - 1) ∧ 4 ^ p = 4 * 4 ^ p' := by
  subst h
  exact ⟨by simp, by rw [Nat.pow_succ]; omega⟩
theorem res72 : Try.f72.results = #[.cell 8 25] := rfl
def parT.T8 : Bool × List (List Nat × List Nat) := (true, [([], []), ([], []), ([1], [1]), ([0, 2, 2], [0, 2]), ([], []), ([], []), ([4, 5, 3], [4, 5]), ([3, 6, 6], [3, 6]), ([], []), ([8, 7, 7, 0, 1, 2, 3, 4, 5, 6, 7, 8], [7, 8])])
def parT.B8 : List Nat := [0, 0, 2, 7, 0, 0, 63, 127, 0, 511]
theorem parT.tab8 : rtab .any (opsOf Try.f72 8) = parT.T8 := by kernel_rfl
theorem parT.bits8 : waitsOk parT.T8.2 parT.B8 = true := by kernel_rfl
def parT.T16 : Bool × List (List Nat × List Nat) := (true, [([], []), ([], []), ([], []), ([1, 2], [1, 2]), ([3], [3]), ([], []), ([], []), ([5, 6], [5, 6]), ([4, 7, 7], [4, 7]), ([], []), ([], []), ([], []), ([9, 10, 11, 8], [9, 10, 11]), ([8, 12, 12], [8, 12]), ([0, 13, 13], [0, 13]), ([14, 14, 0, 1, 2, 3, 4, 5, 6, 7, 8, 9, 10, 11, 12, 13, 14], [14])])
def parT.B16 : List Nat := [0, 0, 0, 6, 14, 0, 0, 96, 254, 0, 0, 0, 4094, 8190, 16383, 32767]
theorem parT.tab16 : rtab .any (opsOf Try.f72 16) = parT.T16 := by kernel_rfl
theorem parT.bits16 : waitsOk parT.T16.2 parT.B16 = true := by kernel_rfl
set_option maxRecDepth 100000 in
set_option maxHeartbeats 16000000 in
theorem pairs1.calls {w0 : World} {gk gx gw gf mb : Nat} {A : Option Addr} {c : Nat} {l : List Int} (hl3 : l.length ≤ 3) : ∀ (k o a N : Nat) (O B : Int) (D : DataW Unit) (W : World) (n d : Int), O = (o : Int) → B = (a : Int) → o < 8 → a < 8 → N + 4 ^ (pc3 o + pc3 a) ≤ 100000 →
    packets_Pairs1.f k l O B = some (n, d) → PSt w0 gk gx gw gf mb N D A c l W → Memo l D →
    Calls Try.prog 72 #[.int .i64 O, .int .i64 B, .pointer (some ⟨gk, 0, none⟩), .pointer (some ⟨gx, 0, none⟩), .pointer (some ⟨gw, 0, none⟩), .pointer (some ⟨gf, 0, none⟩)] W fun e W' => e = .returned (.agg #[.int .i64 n, .int .i64 d]) ∧ ∃ (N' : Nat) (D' : DataW Unit), N' ≤ N + 4 ^ (pc3 o + pc3 a) ∧ PSt w0 gk gx gw gf mb N' D' A c l W' ∧ Memo l D' ∧ Elder mb W W' := by
  intro k
  induction k using Nat.strongRecOn with
  | ind k ih =>
  intro o a N O B D W n d hO hB ho ha hN hf hV hM
  cases k with
  | zero => rw [packets_Pairs1.f] at hf; cases hf
  | succ k =>
  rw [packets_Pairs1.f] at hf
  have hu25 := Try.underlying25
  have hu66 := Try.underlying66
  have HO := Aside0.mk (And.intro hO hB)
  have HOA := Aside0.mk (And.intro ho ha)
  have HN := Aside0.mk hN
  have HV := Aside0.mk hV
  have HM := Aside0.mk hM
  obtain ⟨m, hm⟩ : ∃ m : Int, Go.bits .or .i64 O B = m := ⟨_, rfl⟩
  rw [hm] at hf
  have ck_ := blk_cell hV.bk 0
  have cx_ := blk_cell hV.bx 0
  have cw_ := blk_cell hV.bw 0
  have cf_ := blk_cell hV.bf 0
  have lk_ := blk_lt hV.bk
  have lx_ := blk_lt hV.bx
  have lw_ := blk_lt hV.bw
  have lf_ := blk_lt hV.bf
  have HNB := Aside0.mk (fun b (hb : W.heap.size ≤ b) => hV.new hb)
  clear hO hB ho ha hN hV hM
  by_cases h0 : m = 0
  · rw [if_pos h0] at hf
    have h0b : (m == 0) = true := beq_iff_eq.mpr h0
    have HR := Aside0.mk (Option.some.inj hf)
    clear hf h0
    go_enter Try.func72, Try.ntmps72
    go_wp2_with fail
    refine (packets_whole.calls 0 0 1 _ rfl).mono ?_
    rintro e w1 ⟨rfl, hb⟩
    have B8 := Aside0.mk (blk_below (blk_new W (.cells #[.int .i64 0, .int .i64 0] 25)) hb)
    have HV1 := Aside0.mk ((HV.out.alloc _).below hb)
    have HE1 := Aside0.mk (((Elder.refl mb W).below (below_alloc (Below.refl _ _) _)).below hb)
    have c80_ := blk_cell B8.out 0
    have c81_ := blk_cell B8.out 1
    have f80_ := blk_frozen B8.out 0
    have f81_ := blk_frozen B8.out 1
    clear hb
    go_wp2_with fail
    (try simp only [Exit.inBlock, Exit.then])
    refine bodyPost_ret (by simp [results, res72, go_sem, c80_, c81_]; try rfl) rfl ?_
    obtain ⟨e1, e2⟩ := Prod.mk.inj HR.out
    subst e1 e2
    exact ⟨rfl, N, D, Nat.le_add_right _ _, (HV1.out.set (HNB.out _ (Nat.le_refl _)) _).set (HNB.out _ (Nat.le_refl _)) _, HM.out, (HE1.out.set (Nat.le_refl _) _).set (Nat.le_refl _) _⟩
  · rw [if_neg h0] at hf
    have h0b : (m == 0) = false := beq_eq_false_iff_ne.mpr h0
    have HF := Aside0.mk hf
    have HFF : Aside0 (packets_Pairs1.f (k + 1) l (o : Int) (a : Int) = some (n, d)) := ⟨by rw [← HO.out.1, ← HO.out.2, packets_Pairs1.f, hm, if_neg h0]; exact hf⟩
    have HPP : Aside0 (1 ≤ pc3 o + pc3 a) := ⟨pc_pos HOA.out.1 HOA.out.2 (by rw [← HO.out.1, ← HO.out.2, hm]; exact h0)⟩
    have HKY : Aside0 (keyOf Try.prog 66 (.agg #[.int .i64 O, .int .i64 B]) = some (keyP o a)) := ⟨by rw [HO.out.1, HO.out.2]; exact keyOfP o a HOA.out.1 HOA.out.2⟩
    obtain ⟨q, hq⟩ : ∃ q, has D (keyP o a) = q := ⟨_, rfl⟩
    have HQ := Aside0.mk hq
    clear hf h0
    cases q with
    | true =>
      go_enter Try.func72, Try.ntmps72
      go_wp2_with (first | (at_lookup; refine wpList_lookup_frac rfl _ _ 65 rfl 66 lawP Try.underlying65 mb N D rfl ((HV.out.alloc _).alloc _).mp (.agg #[.int .i64 O, .int .i64 B]) (keyP o a) rfl HKY.out ?_; intro cN cD hat; have HAT := Aside0.mk hat; clear hat; rw [hq]))
      (try simp only [Exit.inBlock, Exit.then])
      refine bodyPost_ret (by simp [results, res72, go_sem]; try rfl) rfl ?_
      obtain ⟨k2, n2, d2, hf2, hat2⟩ := HM.out.at_ o a HOA.out.1 HOA.out.2 HQ.out
      obtain ⟨e1, e2⟩ := frD_inj (HAT.out.symm.trans hat2)
      have hf1 := HFF.out
      obtain ⟨e3, e4⟩ := Prod.mk.inj (Pairs1_det hf1 hf2)
      refine ⟨by rw [e1, e2, ← e3, ← e4], N, D, Nat.le_add_right _ _, ?_, HM.out, ?_⟩
      · exact ((HV.out.alloc _).alloc _).alloc _
      · exact (((Elder.refl mb W).below (below_alloc (Below.refl _ _) _)).below (below_alloc (Below.refl _ _) _)).below (below_alloc (Below.refl _ _) _)
    | false =>
      have hf := HF.out
      obtain ⟨q, hq1, hf⟩ := Option.bind_eq_some_iff.mp hf
      obtain ⟨x, hx1, hf⟩ := Option.bind_eq_some_iff.mp hf
      obtain ⟨y, hy1, hf⟩ := Option.bind_eq_some_iff.mp hf
      obtain ⟨⟨s1, s2⟩, hs1, hf⟩ := Option.bind_eq_some_iff.mp hf
      have HALL := Aside0.mk hq1
      have HX1 := Aside0.mk hx1
      have HY1 := Aside0.mk hy1
      have HS1 := Aside0.mk hs1
      have HL0 := Aside0.mk hf
      clear hf hq1 hx1 hy1 hs1
      go_enter Try.func72, Try.ntmps72
      go_wp2_with (first | (at_lookup; refine wpList_lookup_frac rfl _ _ 65 rfl 66 lawP Try.underlying65 mb N D rfl ((HV.out.alloc _).alloc _).mp (.agg #[.int .i64 O, .int .i64 B]) (keyP o a) rfl HKY.out ?_; intro cN cD hat; have HAT := Aside0.mk hat; clear hat; rw [hq]))
      have HV3 := Aside0.mk (((HV.out.alloc (.cells #[.int .i64 0, .int .i64 0] 25)).alloc (.cells #[.int .i64 O, .int .i64 B] 66)).alloc (.cells #[.int .i64 cN, .int .i64 cD] 25))
      have HE3 := Aside0.mk ((((Elder.refl mb W).below (below_alloc (Below.refl _ _) (.cells #[.int .i64 0, .int .i64 0] 25))).below (below_alloc (Below.refl _ _) (.cells #[.int .i64 O, .int .i64 B] 66))).below (below_alloc (Below.refl _ _) (.cells #[.int .i64 cN, .int .i64 cD] 25)))
      have B8 := Aside0.mk (blk_alloc (blk_alloc (blk_new W (.cells #[.int .i64 0, .int .i64 0] 25)) (.cells #[.int .i64 O, .int .i64 B] 66)) (.cells #[.int .i64 cN, .int .i64 cD] 25))
      have B10 := Aside0.mk (blk_alloc (blk_new (W.alloc (.cells #[.int .i64 0, .int .i64 0] 25)) (.cells #[.int .i64 O, .int .i64 B] 66)) (.cells #[.int .i64 cN, .int .i64 cD] 25))
      rw [show (W.alloc (.cells #[.int .i64 0, .int .i64 0] 25)).heap.size = W.heap.size + 1 by simp [World.alloc, -World.alloc_eq]] at B10
      clear ck_ cx_ cw_ cf_ lk_ lx_ lw_ lf_ HAT
      generalize (((W.alloc (.cells #[.int .i64 0, .int .i64 0] 25)).alloc (.cells #[.int .i64 O, .int .i64 B] 66)).alloc (.cells #[.int .i64 cN, .int .i64 cD] 25)) = W3 at HV3 HE3 B8 B10 ⊢
      refine start_ (n := 10) (S := PX gx (.slice A l.length c) W3) (ds := []) #[false, false, false, false, false, false, false, false, false, false] (by kernel_rfl) rfl rfl ⟨(blk_cell (HV3.out.below (below_drew (Below.refl _ _))).bx 0).trans rfl, below_drew (Below.refl _ _)⟩ (fun hHeld => ?_)
      refine with_tabW parT.tab8 parT.bits8 (fun HT_ HW_ => ?_)
      generalize (World.drew _) = Wd at hHeld ⊢
      refine take_ (i := 0) (N := some 34) (v := ?_) (a' := ?_) #[true, false, false, false, false, false, false, false, false, false] rfl rfl (take_ofW HT_.out HW_.out (by kernel_rfl)) (fun _ _ _ h => h) (Or.inl ⟨by rfl, ?_⟩) hHeld ?_ ?_
      rotate_left
      · rintro w' ⟨s0, s1⟩
        go_simp
        with_reducible rfl
      rotate_left
      · simp only [Act.put, List.setIfInBounds_toArray, List.set_cons_zero, List.set_cons_succ, i64_w, i32_w]
        rfl
      refine take_ (i := 1) (N := some 35) (v := ?_) (a' := ?_) #[true, true, false, false, false, false, false, false, false, false] rfl rfl (take_ofW HT_.out HW_.out (by kernel_rfl)) (fun _ _ _ h => h) (Or.inl ⟨by rfl, ?_⟩) hHeld ?_ ?_
      rotate_left
      · rintro w' ⟨s0, s1⟩
        go_simp
        with_reducible rfl
      rotate_left
      · simp only [Act.put, List.setIfInBounds_toArray, List.set_cons_zero, List.set_cons_succ, i64_w, i32_w]
        rfl
      refine take_ (i := 4) (N := some 38) (v := ?_) (a' := ?_) #[true, true, false, false, true, false, false, false, false, false] rfl rfl (take_ofW HT_.out HW_.out (by kernel_rfl)) (fun _ _ _ h => h) (Or.inl ⟨by rfl, ?_⟩) hHeld ?_ ?_
      rotate_left
      · rintro w' ⟨s0, s1⟩
        go_simp
        with_reducible rfl
      rotate_left
      · simp only [Act.put, List.setIfInBounds_toArray, List.set_cons_zero, List.set_cons_succ, i64_w, i32_w]
        rfl
      refine pure_ (i := 5) (N := some 39) (v := ?_) (a' := ?_) #[true, true, false, false, true, true, false, false, false, false] rfl rfl (any_of HT_.out (by kernel_rfl)) (fun _ _ _ h => h) (Or.inl ⟨by rfl, ?_⟩) ?_ ?_
      rotate_left
      · intro w'
        go_simp
        with_reducible rfl
      rotate_left
      · simp only [Act.put, List.setIfInBounds_toArray, List.set_cons_zero, List.set_cons_succ, i64_w, i32_w]
        rfl
      refine join_ (σ := Nat) 1 #[true, true, true, true, true, true, true, true, true, false] (fun s_ => [(36, .int .i64 q), (37, .int .i64 x), (40, .int .i64 y), (41, .agg #[.int .i64 s1, .int .i64 s2]), (13, .pointer (some ⟨s_, 0, none⟩))]) (fun s_ w' => PX gx (.slice A l.length c) W3 w' ∧ Box W3 s_ #[.int .i64 0, .int .i64 0] 25 w') ?_ ?_
      rotate_left
      · intro hCont
        refine two_ (i := 2) (j := 8) (Ni := some 36) (Nj := some 13) #[true, true, true, false, true, true, false, false, false, false] #[true, true, false, false, true, true, false, false, true, false] rfl rfl rfl rfl (two_of HT_.out (by kernel_rfl)) (by decide) (by decide) (fun K hK => ?_) (fun K hK => ?_)
        · skip
          refine goes_ Try.func55 (by kernel_rfl) rfl #[.slice A l.length c] (by rfl) rfl rfl (by (try simp only [List.map_toArray, List.map_cons, List.map_nil]); first | done | rfl | (simp only [List.length_drop, List.length_take]; rfl)) ?_
          refine (all_below A c l q _ (Kd.C_below HV3.out.came (below_step HV3.out.bel hHeld.2)) HV3.out.hc HALL.out).mono ?_
          rintro e wr1 ⟨rfl, hb⟩
          refine ⟨_, rfl, ?_⟩
          refine hK.out _ _ (PX.below hHeld hb) (fun hHeld => ?_)
          clear hK K hb
          refine norm_ (a' := ?_) ?_ ?_
          rotate_left
          · show Act.put _ (some 36) _ = _
            simp only [Act.put, List.setIfInBounds_toArray, List.set_cons_zero, List.set_cons_succ, i64_w, i32_w]
            rfl
          refine two_ (i := 3) (j := 8) (Ni := some 37) (Nj := some 13) #[true, true, true, true, true, true, false, false, false, false] #[true, true, true, false, true, true, false, false, true, false] rfl rfl rfl rfl (two_of HT_.out (by kernel_rfl)) (by decide) (by decide) (fun K hK => ?_) (fun K hK => ?_)
          · skip
            refine goes_ Try.func54 (by kernel_rfl) rfl #[.slice A l.length c, .int .i64 q] (by rfl) rfl rfl (by (try simp only [List.map_toArray, List.map_cons, List.map_nil]); first | done | rfl | (simp only [List.length_drop, List.length_take]; rfl)) ?_
            refine (of_below k A c l q x _ (Kd.C_below HV3.out.came (below_step HV3.out.bel hHeld.2)) HV3.out.hc HX1.out).mono ?_
            rintro e wr2 ⟨rfl, hb⟩
            refine ⟨_, rfl, ?_⟩
            refine hK.out _ _ (PX.below hHeld hb) (fun hHeld => ?_)
            clear hK K hb
            refine norm_ (a' := ?_) ?_ ?_
            rotate_left
            · show Act.put _ (some 37) _ = _
              simp only [Act.put, List.setIfInBounds_toArray, List.set_cons_zero, List.set_cons_succ, i64_w, i32_w]
              rfl
            refine two_ (i := 6) (j := 8) (Ni := some 40) (Nj := some 13) #[true, true, true, true, true, true, true, false, false, false] #[true, true, true, true, true, true, false, false, true, false] rfl rfl rfl rfl (two_of HT_.out (by kernel_rfl)) (by decide) (by decide) (fun K hK => ?_) (fun K hK => ?_)
            · skip
              refine goes_ Try.func54 (by kernel_rfl) rfl #[.slice A l.length c, .int .i64 m] (by rfl) rfl rfl (by (try simp only [List.map_toArray, List.map_cons, List.map_nil]); first | done | rfl | (simp only [List.length_drop, List.length_take]; rfl)) ?_
              refine (of_below k A c l m y _ (Kd.C_below HV3.out.came (below_step HV3.out.bel hHeld.2)) HV3.out.hc HY1.out).mono ?_
              rintro e wr3 ⟨rfl, hb⟩
              refine ⟨_, rfl, ?_⟩
              refine hK.out _ _ (PX.below hHeld hb) (fun hHeld => ?_)
              clear hK K hb
              refine norm_ (a' := ?_) ?_ ?_
              rotate_left
              · show Act.put _ (some 40) _ = _
                simp only [Act.put, List.setIfInBounds_toArray, List.set_cons_zero, List.set_cons_succ, i64_w, i32_w]
                rfl
              refine two_ (i := 7) (j := 8) (Ni := some 41) (Nj := some 13) #[true, true, true, true, true, true, true, true, false, false] #[true, true, true, true, true, true, true, false, true, false] rfl rfl rfl rfl (two_of HT_.out (by kernel_rfl)) (by decide) (by decide) (fun K hK => ?_) (fun K hK => ?_)
              · skip
                refine goes_ Try.func52 (by kernel_rfl) rfl #[.int .i64 x, .int .i64 y] (by rfl) rfl rfl (by (try simp only [List.map_toArray, List.map_cons, List.map_nil]); first | done | rfl | (simp only [List.length_drop, List.length_take]; rfl)) ?_
                refine (packets_frac.calls k x y s1 s2 _ HS1.out).mono ?_
                rintro e wr4 ⟨rfl, hb⟩
                refine ⟨_, rfl, ?_⟩
                refine hK.out _ _ (PX.below hHeld hb) (fun hHeld => ?_)
                clear hK K hb
                refine norm_ (a' := ?_) ?_ ?_
                rotate_left
                · show Act.put _ (some 41) _ = _
                  simp only [Act.put, List.setIfInBounds_toArray, List.set_cons_zero, List.set_cons_succ, i64_w, i32_w]
                  rfl
                refine one_ (i := 8) (N := some 13) #[true, true, true, true, true, true, true, true, true, false] rfl rfl (one_of HT_.out (by kernel_rfl)) (by decide) (fun K hK => ?_)
                refine box_step ?hg (N := 13) ?hd (cs := #[.int .i64 0, .int .i64 0]) (t := 25) ?hr ?_; (case hd => rfl); (case hg => rfl); (case hr => first | (go_simp; done) | (go_simp; rfl))
                intro gy hg wr5 hbox hb
                have HX : Aside0 (Box W3 gy #[.int .i64 0, .int .i64 0] 25 _) := ⟨⟨by rw [hg]; exact hHeld.2.size, hbox⟩⟩
                clear hg hbox
                refine hK.out _ _ (PX.below hHeld hb) (fun hHeld => ?_)
                clear hK K hb
                refine norm_ (a' := ?_) ?_ ?_
                rotate_left
                · show Act.put _ (some 13) _ = _
                  simp only [Act.put, List.setIfInBounds_toArray, List.set_cons_zero, List.set_cons_succ, i64_w, i32_w]
                  rfl
                exact norm_ (by simp only [putAll, Act.put, List.setIfInBounds_toArray, List.set_cons_zero, List.set_cons_succ]) (hCont gy _ ⟨hHeld, HX.out⟩)
              · skip
                refine box_step ?hg (N := 13) ?hd (cs := #[.int .i64 0, .int .i64 0]) (t := 25) ?hr ?_; (case hd => rfl); (case hg => rfl); (case hr => first | (go_simp; done) | (go_simp; rfl))
                intro gy hg wr6 hbox hb
                have HX : Aside0 (Box W3 gy #[.int .i64 0, .int .i64 0] 25 _) := ⟨⟨by rw [hg]; exact hHeld.2.size, hbox⟩⟩
                clear hg hbox
                refine hK.out _ _ (PX.below hHeld hb) (fun hHeld => ?_)
                clear hK K hb
                refine norm_ (a' := ?_) ?_ ?_
                rotate_left
                · show Act.put _ (some 13) _ = _
                  simp only [Act.put, List.setIfInBounds_toArray, List.set_cons_zero, List.set_cons_succ, i64_w, i32_w]
                  rfl
                refine one_ (i := 7) (N := some 41) #[true, true, true, true, true, true, true, true, true, false] rfl rfl (one_of HT_.out (by kernel_rfl)) (by decide) (fun K hK => ?_)
                refine goes_ Try.func52 (by kernel_rfl) rfl #[.int .i64 x, .int .i64 y] (by rfl) rfl rfl (by (try simp only [List.map_toArray, List.map_cons, List.map_nil]); first | done | rfl | (simp only [List.length_drop, List.length_take]; rfl)) ?_
                refine (packets_frac.calls k x y s1 s2 _ HS1.out).mono ?_
                rintro e wr7 ⟨rfl, hb⟩
                refine ⟨_, rfl, ?_⟩
                replace HX := Aside0.mk (HX.out.below hb)
                refine hK.out _ _ (PX.below hHeld hb) (fun hHeld => ?_)
                clear hK K hb
                refine norm_ (a' := ?_) ?_ ?_
                rotate_left
                · show Act.put _ (some 41) _ = _
                  simp only [Act.put, List.setIfInBounds_toArray, List.set_cons_zero, List.set_cons_succ, i64_w, i32_w]
                  rfl
                exact norm_ (by simp only [putAll, Act.put, List.setIfInBounds_toArray, List.set_cons_zero, List.set_cons_succ]) (hCont gy _ ⟨hHeld, HX.out⟩)
            · skip
              refine box_step ?hg (N := 13) ?hd (cs := #[.int .i64 0, .int .i64 0]) (t := 25) ?hr ?_; (case hd => rfl); (case hg => rfl); (case hr => first | (go_simp; done) | (go_simp; rfl))
              intro gy hg wr8 hbox hb
              have HX : Aside0 (Box W3 gy #[.int .i64 0, .int .i64 0] 25 _) := ⟨⟨by rw [hg]; exact hHeld.2.size, hbox⟩⟩
              clear hg hbox
              refine hK.out _ _ (PX.below hHeld hb) (fun hHeld => ?_)
              clear hK K hb
              refine norm_ (a' := ?_) ?_ ?_
              rotate_left
              · show Act.put _ (some 13) _ = _
                simp only [Act.put, List.setIfInBounds_toArray, List.set_cons_zero, List.set_cons_succ, i64_w, i32_w]
                rfl
              refine one_ (i := 6) (N := some 40) #[true, true, true, true, true, true, true, false, true, false] rfl rfl (one_of HT_.out (by kernel_rfl)) (by decide) (fun K hK => ?_)
              refine goes_ Try.func54 (by kernel_rfl) rfl #[.slice A l.length c, .int .i64 m] (by rfl) rfl rfl (by (try simp only [List.map_toArray, List.map_cons, List.map_nil]); first | done | rfl | (simp only [List.length_drop, List.length_take]; rfl)) ?_
              refine (of_below k A c l m y _ (Kd.C_below HV3.out.came (below_step HV3.out.bel hHeld.2)) HV3.out.hc HY1.out).mono ?_
              rintro e wr9 ⟨rfl, hb⟩
              refine ⟨_, rfl, ?_⟩
              replace HX := Aside0.mk (HX.out.below hb)
              refine hK.out _ _ (PX.below hHeld hb) (fun hHeld => ?_)
              clear hK K hb
              refine norm_ (a' := ?_) ?_ ?_
              rotate_left
              · show Act.put _ (some 40) _ = _
                simp only [Act.put, List.setIfInBounds_toArray, List.set_cons_zero, List.set_cons_succ, i64_w, i32_w]
                rfl
              refine one_ (i := 7) (N := some 41) #[true, true, true, true, true, true, true, true, true, false] rfl rfl (one_of HT_.out (by kernel_rfl)) (by decide) (fun K hK => ?_)
              refine goes_ Try.func52 (by kernel_rfl) rfl #[.int .i64 x, .int .i64 y] (by rfl) rfl rfl (by (try simp only [List.map_toArray, List.map_cons, List.map_nil]); first | done | rfl | (simp only [List.length_drop, List.length_take]; rfl)) ?_
              refine (packets_frac.calls k x y s1 s2 _ HS1.out).mono ?_
              rintro e wr10 ⟨rfl, hb⟩
              refine ⟨_, rfl, ?_⟩
              replace HX := Aside0.mk (HX.out.below hb)
              refine hK.out _ _ (PX.below hHeld hb) (fun hHeld => ?_)
              clear hK K hb
              refine norm_ (a' := ?_) ?_ ?_
              rotate_left
              · show Act.put _ (some 41) _ = _
                simp only [Act.put, List.setIfInBounds_toArray, List.set_cons_zero, List.set_cons_succ, i64_w, i32_w]
                rfl
              exact norm_ (by simp only [putAll, Act.put, List.setIfInBounds_toArray, List.set_cons_zero, List.set_cons_succ]) (hCont gy _ ⟨hHeld, HX.out⟩)
          · skip
            refine box_step ?hg (N := 13) ?hd (cs := #[.int .i64 0, .int .i64 0]) (t := 25) ?hr ?_; (case hd => rfl); (case hg => rfl); (case hr => first | (go_simp; done) | (go_simp; rfl))
            intro gy hg wr11 hbox hb
            have HX : Aside0 (Box W3 gy #[.int .i64 0, .int .i64 0] 25 _) := ⟨⟨by rw [hg]; exact hHeld.2.size, hbox⟩⟩
            clear hg hbox
            refine hK.out _ _ (PX.below hHeld hb) (fun hHeld => ?_)
            clear hK K hb
            refine norm_ (a' := ?_) ?_ ?_
            rotate_left
            · show Act.put _ (some 13) _ = _
              simp only [Act.put, List.setIfInBounds_toArray, List.set_cons_zero, List.set_cons_succ, i64_w, i32_w]
              rfl
            refine one_ (i := 3) (N := some 37) #[true, true, true, true, true, true, false, false, true, false] rfl rfl (one_of HT_.out (by kernel_rfl)) (by decide) (fun K hK => ?_)
            refine goes_ Try.func54 (by kernel_rfl) rfl #[.slice A l.length c, .int .i64 q] (by rfl) rfl rfl (by (try simp only [List.map_toArray, List.map_cons, List.map_nil]); first | done | rfl | (simp only [List.length_drop, List.length_take]; rfl)) ?_
            refine (of_below k A c l q x _ (Kd.C_below HV3.out.came (below_step HV3.out.bel hHeld.2)) HV3.out.hc HX1.out).mono ?_
            rintro e wr12 ⟨rfl, hb⟩
            refine ⟨_, rfl, ?_⟩
            replace HX := Aside0.mk (HX.out.below hb)
            refine hK.out _ _ (PX.below hHeld hb) (fun hHeld => ?_)
            clear hK K hb
            refine norm_ (a' := ?_) ?_ ?_
            rotate_left
            · show Act.put _ (some 37) _ = _
              simp only [Act.put, List.setIfInBounds_toArray, List.set_cons_zero, List.set_cons_succ, i64_w, i32_w]
              rfl
            refine one_ (i := 6) (N := some 40) #[true, true, true, true, true, true, true, false, true, false] rfl rfl (one_of HT_.out (by kernel_rfl)) (by decide) (fun K hK => ?_)
            refine goes_ Try.func54 (by kernel_rfl) rfl #[.slice A l.length c, .int .i64 m] (by rfl) rfl rfl (by (try simp only [List.map_toArray, List.map_cons, List.map_nil]); first | done | rfl | (simp only [List.length_drop, List.length_take]; rfl)) ?_
            refine (of_below k A c l m y _ (Kd.C_below HV3.out.came (below_step HV3.out.bel hHeld.2)) HV3.out.hc HY1.out).mono ?_
            rintro e wr13 ⟨rfl, hb⟩
            refine ⟨_, rfl, ?_⟩
            replace HX := Aside0.mk (HX.out.below hb)
            refine hK.out _ _ (PX.below hHeld hb) (fun hHeld => ?_)
            clear hK K hb
            refine norm_ (a' := ?_) ?_ ?_
            rotate_left
            · show Act.put _ (some 40) _ = _
              simp only [Act.put, List.setIfInBounds_toArray, List.set_cons_zero, List.set_cons_succ, i64_w, i32_w]
              rfl
            refine one_ (i := 7) (N := some 41) #[true, true, true, true, true, true, true, true, true, false] rfl rfl (one_of HT_.out (by kernel_rfl)) (by decide) (fun K hK => ?_)
            refine goes_ Try.func52 (by kernel_rfl) rfl #[.int .i64 x, .int .i64 y] (by rfl) rfl rfl (by (try simp only [List.map_toArray, List.map_cons, List.map_nil]); first | done | rfl | (simp only [List.length_drop, List.length_take]; rfl)) ?_
            refine (packets_frac.calls k x y s1 s2 _ HS1.out).mono ?_
            rintro e wr14 ⟨rfl, hb⟩
            refine ⟨_, rfl, ?_⟩
            replace HX := Aside0.mk (HX.out.below hb)
            refine hK.out _ _ (PX.below hHeld hb) (fun hHeld => ?_)
            clear hK K hb
            refine norm_ (a' := ?_) ?_ ?_
            rotate_left
            · show Act.put _ (some 41) _ = _
              simp only [Act.put, List.setIfInBounds_toArray, List.set_cons_zero, List.set_cons_succ, i64_w, i32_w]
              rfl
            exact norm_ (by simp only [putAll, Act.put, List.setIfInBounds_toArray, List.set_cons_zero, List.set_cons_succ]) (hCont gy _ ⟨hHeld, HX.out⟩)
        · skip
          refine box_step ?hg (N := 13) ?hd (cs := #[.int .i64 0, .int .i64 0]) (t := 25) ?hr ?_; (case hd => rfl); (case hg => rfl); (case hr => first | (go_simp; done) | (go_simp; rfl))
          intro gy hg wr15 hbox hb
          have HX : Aside0 (Box W3 gy #[.int .i64 0, .int .i64 0] 25 _) := ⟨⟨by rw [hg]; exact hHeld.2.size, hbox⟩⟩
          clear hg hbox
          refine hK.out _ _ (PX.below hHeld hb) (fun hHeld => ?_)
          clear hK K hb
          refine norm_ (a' := ?_) ?_ ?_
          rotate_left
          · show Act.put _ (some 13) _ = _
            simp only [Act.put, List.setIfInBounds_toArray, List.set_cons_zero, List.set_cons_succ, i64_w, i32_w]
            rfl
          refine one_ (i := 2) (N := some 36) #[true, true, true, false, true, true, false, false, true, false] rfl rfl (one_of HT_.out (by kernel_rfl)) (by decide) (fun K hK => ?_)
          refine goes_ Try.func55 (by kernel_rfl) rfl #[.slice A l.length c] (by rfl) rfl rfl (by (try simp only [List.map_toArray, List.map_cons, List.map_nil]); first | done | rfl | (simp only [List.length_drop, List.length_take]; rfl)) ?_
          refine (all_below A c l q _ (Kd.C_below HV3.out.came (below_step HV3.out.bel hHeld.2)) HV3.out.hc HALL.out).mono ?_
          rintro e wr16 ⟨rfl, hb⟩
          refine ⟨_, rfl, ?_⟩
          replace HX := Aside0.mk (HX.out.below hb)
          refine hK.out _ _ (PX.below hHeld hb) (fun hHeld => ?_)
          clear hK K hb
          refine norm_ (a' := ?_) ?_ ?_
          rotate_left
          · show Act.put _ (some 36) _ = _
            simp only [Act.put, List.setIfInBounds_toArray, List.set_cons_zero, List.set_cons_succ, i64_w, i32_w]
            rfl
          refine one_ (i := 3) (N := some 37) #[true, true, true, true, true, true, false, false, true, false] rfl rfl (one_of HT_.out (by kernel_rfl)) (by decide) (fun K hK => ?_)
          refine goes_ Try.func54 (by kernel_rfl) rfl #[.slice A l.length c, .int .i64 q] (by rfl) rfl rfl (by (try simp only [List.map_toArray, List.map_cons, List.map_nil]); first | done | rfl | (simp only [List.length_drop, List.length_take]; rfl)) ?_
          refine (of_below k A c l q x _ (Kd.C_below HV3.out.came (below_step HV3.out.bel hHeld.2)) HV3.out.hc HX1.out).mono ?_
          rintro e wr17 ⟨rfl, hb⟩
          refine ⟨_, rfl, ?_⟩
          replace HX := Aside0.mk (HX.out.below hb)
          refine hK.out _ _ (PX.below hHeld hb) (fun hHeld => ?_)
          clear hK K hb
          refine norm_ (a' := ?_) ?_ ?_
          rotate_left
          · show Act.put _ (some 37) _ = _
            simp only [Act.put, List.setIfInBounds_toArray, List.set_cons_zero, List.set_cons_succ, i64_w, i32_w]
            rfl
          refine one_ (i := 6) (N := some 40) #[true, true, true, true, true, true, true, false, true, false] rfl rfl (one_of HT_.out (by kernel_rfl)) (by decide) (fun K hK => ?_)
          refine goes_ Try.func54 (by kernel_rfl) rfl #[.slice A l.length c, .int .i64 m] (by rfl) rfl rfl (by (try simp only [List.map_toArray, List.map_cons, List.map_nil]); first | done | rfl | (simp only [List.length_drop, List.length_take]; rfl)) ?_
          refine (of_below k A c l m y _ (Kd.C_below HV3.out.came (below_step HV3.out.bel hHeld.2)) HV3.out.hc HY1.out).mono ?_
          rintro e wr18 ⟨rfl, hb⟩
          refine ⟨_, rfl, ?_⟩
          replace HX := Aside0.mk (HX.out.below hb)
          refine hK.out _ _ (PX.below hHeld hb) (fun hHeld => ?_)
          clear hK K hb
          refine norm_ (a' := ?_) ?_ ?_
          rotate_left
          · show Act.put _ (some 40) _ = _
            simp only [Act.put, List.setIfInBounds_toArray, List.set_cons_zero, List.set_cons_succ, i64_w, i32_w]
            rfl
          refine one_ (i := 7) (N := some 41) #[true, true, true, true, true, true, true, true, true, false] rfl rfl (one_of HT_.out (by kernel_rfl)) (by decide) (fun K hK => ?_)
          refine goes_ Try.func52 (by kernel_rfl) rfl #[.int .i64 x, .int .i64 y] (by rfl) rfl rfl (by (try simp only [List.map_toArray, List.map_cons, List.map_nil]); first | done | rfl | (simp only [List.length_drop, List.length_take]; rfl)) ?_
          refine (packets_frac.calls k x y s1 s2 _ HS1.out).mono ?_
          rintro e wr19 ⟨rfl, hb⟩
          refine ⟨_, rfl, ?_⟩
          replace HX := Aside0.mk (HX.out.below hb)
          refine hK.out _ _ (PX.below hHeld hb) (fun hHeld => ?_)
          clear hK K hb
          refine norm_ (a' := ?_) ?_ ?_
          rotate_left
          · show Act.put _ (some 41) _ = _
            simp only [Act.put, List.setIfInBounds_toArray, List.set_cons_zero, List.set_cons_succ, i64_w, i32_w]
            rfl
          exact norm_ (by simp only [putAll, Act.put, List.setIfInBounds_toArray, List.set_cons_zero, List.set_cons_succ]) (hCont gy _ ⟨hHeld, HX.out⟩)
      rintro g13 wt ⟨hHeld, hbx⟩
      have HX := Aside0.mk hbx
      clear hbx
      refine norm_ (a' := ?_) ?_ ?_
      rotate_left
      · simp only [putAll, Act.put, List.setIfInBounds_toArray, List.set_cons_zero, List.set_cons_succ]
        rfl
      refine one_ (i := 9) (N := none) #[true, true, true, true, true, true, true, true, true, true] rfl rfl (one_of HT_.out (by kernel_rfl)) (by decide) (fun K hK => ?_)
      have hs0_ := HX.out.cell 0 rfl
      have hs1_ := HX.out.cell 1 rfl
      have fs0_ := HX.out.frozen 0
      have fs1_ := HX.out.frozen 1
      refine skip_ (w1 := ?_) (by rfl) rfl ?_ ?_
      rotate_left
      · go_simp
        rfl
      have HL := Aside0.mk (below_set' (below_set' hHeld.2 (p := ⟨g13, 0, none⟩) HX.out.1 (.int .i64 s1)) (p := ⟨g13, 1, none⟩) HX.out.1 (.int .i64 s2))
      refine hK.out _ _ ⟨(blk_cell (HV3.out.below HL.out).bx 0).trans rfl, HL.out⟩ (fun hHeld => ?_)
      clear hK K hHeld
      have B13 : Aside0 (Box W3 g13 #[.int .i64 s1, .int .i64 s2] 25 _) := ⟨(HX.out.put 0 (.int .i64 s1)).put 1 (.int .i64 s2)⟩
      clear hs0_ hs1_ fs0_ fs1_ HX
      refine done_ (done_of HT_.out (by kernel_rfl)) ?_
      clear HT_ HW_
      generalize ((wt.setCell _ _).setCell _ _) = W4 at B13 HL ⊢
      have HG13 := Aside0.mk (HV3.out.new B13.out.1)
      have HG13e : Aside0 (W.heap.size + 1 < g13 ∧ W.heap.size ≤ g13) := ⟨by have h3 := B13.out.1; have h4 := blk_lt B10.out; omega⟩
      have HV4 := Aside0.mk (HV3.out.below HL.out)
      have HE4 := Aside0.mk (HE3.out.below HL.out)
      replace B8 := Aside0.mk (blk_below B8.out HL.out)
      replace B10 := Aside0.mk (blk_below B10.out HL.out)
      have B13b := Aside0.mk B13.out.2
      clear HV3 HE3 HL B13
      have cw_ := blk_cell HV4.out.bw 0
      have fw_ := blk_frozen HV4.out.bw 0
      go_wp2_with fail
      go_loopw [44] (fun v44 W1 => ∃ (kq i N1 : Nat) (D1 : DataW Unit) (t1 t2 : Int), v44 = .int .i64 (i : Int) ∧ i ≤ l.length ∧ Aside0 (kq ≤ k) ∧ Aside0 (packets_Pairs1.l0 kq l O B (i : Int) t1 t2 = some (n, d)) ∧ Aside0 (N1 ≤ N + i * 4 ^ (pc3 o + pc3 a - 1)) ∧ Aside0 (PSt w0 gk gx gw gf mb N1 D1 A c l W1) ∧ Aside0 (Memo l D1) ∧ Aside0 (Elder mb W W1) ∧ Aside0 (W1.heap[W.heap.size]? = some (.cells #[.int .i64 0, .int .i64 0] 25 (0, 0))) ∧ Aside0 (W1.heap[W.heap.size + 1]? = some (.cells #[.int .i64 O, .int .i64 B] 66 (0, 0))) ∧ Aside0 (W1.heap[g13]? = some (.cells #[.int .i64 t1, .int .i64 t2] 25 (0, 0)))) (fun v44 _ => l.length - (intOf v44).toNat)
      case atStart => exact ⟨k, 0, N, D, s1, s2, rfl, by omega, ⟨Nat.le_refl _⟩, HL0, ⟨by omega⟩, HV4, HM, HE4, B8, B10, B13b⟩
      case round =>
        clear cw_ fw_ HV4 HE4 B8 B10 B13b HM HL0 HV HS1 HX1 HY1
        obtain ⟨kq, i, N1, D1, t1, t2, rfl, hi, HK, HL1, HN1, HV, HM, HE, B8, B10, B13⟩ := hrel
        cases kq with
        | zero => exact absurd HL1.out (by simp [packets_Pairs1.l0])
        | succ kq =>
        by_cases hil : i < l.length
        · have hib : decide ((i : Int) < (l.length : Int)) = true := decide_eq_true (by omega)
          have hip : ((i : Int) < (l.length : Int)) = True := eq_true (by omega)
          have p0_ : (0 ≤ (i : Int)) = True := eq_true (by omega)
          have q2_ : (i < l.length) = True := eq_true hil
          have HWR : Aside0 (wrap64 ((i : Int) + 1) = ((i + 1 : Nat) : Int)) := ⟨by unfold wrap64; omega⟩
          have h1 := HL1.out
          rw [packets_Pairs1.l0, if_pos (of_decide_eq_true hib), hm] at h1
          obtain ⟨r1, hr1⟩ : ∃ r1 : Int, shr .i64 m (i : Int) = r1 := ⟨_, rfl⟩
          rw [hr1] at h1
          have hr1a : (m / 2 ^ min ((i : Int)).toNat 64) = r1 := hr1
          have hr1b : (m / 2 ^ min i 64) = r1 := hr1
          have hr1c : (m / 2 ^ i) = r1 := shr_small hr1 (by show (i : Int) ≤ 64; omega)
          by_cases hb1 : Go.bits .and .i64 r1 1 = 0
          · have hb1b : (Go.bits .and .i64 r1 1 == 0) = true := beq_iff_eq.mpr hb1
            rw [if_pos hb1] at h1
            have HL2 := Aside0.mk h1
            have HIL := Aside0.mk hil
            clear h1 hb1 hr1
            go_wp2_with fail
            refine ⟨⟨kq, i + 1, N1, D1, t1, t2, by first | rfl | (rw [HWR.out]), by have := HIL.out; omega, ⟨by have := HK.out; omega⟩, HL2, ⟨Nat.le_trans HN1.out (Nat.add_le_add_left (Nat.mul_le_mul_right _ (Nat.le_succ i)) N)⟩, HV, HM, HE, B8, B10, B13⟩, ?_⟩
            simp only [intOf]; have := HIL.out; omega
          · have hb1b : (Go.bits .and .i64 r1 1 == 0) = false := beq_eq_false_iff_ne.mpr hb1
            rw [if_neg hb1] at h1
            obtain ⟨o2, a2, eo, ea, ho2, ha2, hpc⟩ := facts_at HOA.out.1 HOA.out.2 (i := i) (by omega) (by rw [← HO.out.1, ← HO.out.2, hm, hr1]; exact hb1)
            rw [← HO.out.1] at eo ea
            rw [← HO.out.2] at ea
            rw [eo, ea] at h1
            obtain ⟨p, hp⟩ : ∃ p : Int, shl .i64 1 (i : Int) = p := ⟨_, rfl⟩
            obtain ⟨r2, hr2⟩ : ∃ r2 : Int, shr .i64 O (i : Int) = r2 := ⟨_, rfl⟩
            obtain ⟨O2, hO2⟩ : ∃ O2 : Int, O2 = (o2 : Int) := ⟨_, rfl⟩
            obtain ⟨B2, hB2⟩ : ∃ B2 : Int, B2 = (a2 : Int) := ⟨_, rfl⟩
            rw [← hO2, ← hB2] at h1
            have HO2 := Aside0.mk (And.intro hO2 hB2)
            have HOA2 := Aside0.mk (And.intro ho2 ha2)
            have HPC := Aside0.mk hpc
            have hl1 : Go.bits .andNot .i64 O p = O2 := by rw [← hp, hO2, ← eo]; rfl
            have hr2c : (O / 2 ^ i) = r2 := shr_small hr2 (by show (i : Int) ≤ 64; omega)
            have hpa : (IntKind.i64.wrap (1 * 2 ^ i)) = p := shl_small hp (by show (i : Int) ≤ 64; omega)
            have hpb : (wrap64 (2 ^ i)) = p := by rw [← hpa, i64_w, Int.one_mul]
            have HMO : Aside0 (moreP O B (i : Int) = B2) := ⟨by rw [hB2, ← ea]⟩
            have HL2 := Aside0.mk h1
            have HIL := Aside0.mk hil
            clear h1 hb1 hr1 eo ea ho2 ha2 hpc hpa hO2 hB2
            have cw_ := blk_cell HV.out.bw 0
            by_cases hb2 : Go.bits .and .i64 r2 1 = 0
            · have hb2b : (Go.bits .and .i64 r2 1 == 0) = true := beq_iff_eq.mpr hb2
              have hl2 : Go.bits .andNot .i64 B p = B2 := by have h := HMO.out; unfold moreP at h; rw [hr2, if_pos hb2, hp] at h; exact h
              clear hb2 hr2 hp
              go_wp2_with fail
              obtain ⟨x2, hx2, h1⟩ := Option.bind_eq_some_iff.mp HL2.out
              obtain ⟨⟨y1, y2⟩, hy2, h1⟩ := Option.bind_eq_some_iff.mp h1
              obtain ⟨⟨z1, z2⟩, hz2, h1⟩ := Option.bind_eq_some_iff.mp h1
              obtain ⟨⟨u1, u2⟩, hu2, h1⟩ := Option.bind_eq_some_iff.mp h1
              obtain ⟨⟨v1, v2⟩, hw2, h1⟩ := Option.bind_eq_some_iff.mp h1
              obtain ⟨wi, hwi⟩ : ∃ wi : Int, rd l (i : Int) = wi := ⟨_, rfl⟩
              rw [hwi] at hy2
              obtain ⟨ad, rfl, -⟩ := Kd.at_int (Kd.C_below HV.out.came HV.out.bel) (i : Int) (by omega) (by omega)
              have HWI := Aside0.mk hwi
              have HX2 := Aside0.mk hx2
              have HY2 := Aside0.mk hy2
              have HZ2 := Aside0.mk hz2
              have HU2 := Aside0.mk hu2
              have HW2 := Aside0.mk hw2
              have HL3 := Aside0.mk h1
              have HNE : Aside0 (W.heap.size ≠ mb ∧ W.heap.size + 1 ≠ mb ∧ g13 ≠ mb) := ⟨(by have := (HNB.out W.heap.size (Nat.le_refl _)).m; have := HG13.out.m; omega)⟩
              have HNN : Aside0 (N1 + 4 ^ (pc3 o2 + pc3 a2) ≤ 100000) := ⟨by
                obtain ⟨q1, q2⟩ := pow_step HPC.out
                have h3 := HN1.out
                rw [← q1] at h3
                have h4 := HN.out
                rw [q2] at h4
                have h5 : i * 4 ^ (pc3 o2 + pc3 a2) ≤ 2 * 4 ^ (pc3 o2 + pc3 a2) := Nat.mul_le_mul_right _ (by have := HIL.out; omega)
                omega⟩
              clear hx2 hy2 hz2 hu2 hw2 h1 hwi HL2
              replace HV := Aside0.mk (HV.out.below (below_drew (Below.refl _ _)))
              replace HE := Aside0.mk (HE.out.below (below_drew (Below.refl _ _)))
              replace B8 := Aside0.mk (blk_below B8.out (below_drew (Below.refl _ _)))
              replace B10 := Aside0.mk (blk_below B10.out (below_drew (Below.refl _ _)))
              replace B13 := Aside0.mk (blk_below B13.out (below_drew (Below.refl _ _)))
              clear cw_
              refine start_ (n := 16) (S := PS6 g13 t1 t2 gw (.slice (some ad) l.length c) (ad.add i) wi gx gf (.func (.func 72) #[] #[.pointer (some ⟨gk, 0, none⟩), .pointer (some ⟨gx, 0, none⟩), .pointer (some ⟨gw, 0, none⟩), .pointer (some ⟨gf, 0, none⟩)])) (ds := [15]) #[false, false, false, false, false, false, false, false, false, false, false, false, false, false, false, false] (by kernel_rfl) rfl rfl ⟨blk_cell B13.out 0, blk_cell B13.out 1, blk_cell HV.out.bw 0, (HV.out.el i HIL.out).trans (by rw [HWI.out]), blk_cell HV.out.bx 0, blk_cell HV.out.bf 0⟩ (fun hHeld => ?_)
              refine with_tabW parT.tab16 parT.bits16 (fun HT_ HW_ => ?_)
              generalize (World.drew _) = Wd at HV HE B8 B10 B13 hHeld ⊢
              refine take_ (i := 0) (N := some 66) (v := ?_) (a' := ?_) #[true, false, false, false, false, false, false, false, false, false, false, false, false, false, false, false] rfl rfl (take_ofW HT_.out HW_.out (by kernel_rfl)) (fun _ _ _ h => h) (Or.inl ⟨by rfl, ?_⟩) hHeld ?_ ?_
              rotate_left
              · rintro w' ⟨s0, s1, s2, s3, s4, s5⟩
                go_simp
                with_reducible rfl
              rotate_left
              · simp only [Act.put, List.setIfInBounds_toArray, List.set_cons_zero, List.set_cons_succ, i64_w, i32_w]
                rfl
              refine take_ (i := 1) (N := some 67) (v := ?_) (a' := ?_) #[true, true, false, false, false, false, false, false, false, false, false, false, false, false, false, false] rfl rfl (take_ofW HT_.out HW_.out (by kernel_rfl)) (fun _ _ _ h => h) (Or.inl ⟨by rfl, ?_⟩) hHeld ?_ ?_
              rotate_left
              · rintro w' ⟨s0, s1, s2, s3, s4, s5⟩
                go_simp
                with_reducible rfl
              rotate_left
              · simp only [Act.put, List.setIfInBounds_toArray, List.set_cons_zero, List.set_cons_succ, i64_w, i32_w]
                rfl
              refine pure_ (i := 2) (N := some 68) (v := ?_) (a' := ?_) #[true, true, true, false, false, false, false, false, false, false, false, false, false, false, false, false] rfl rfl (any_of HT_.out (by kernel_rfl)) (fun _ _ _ h => h) (Or.inl ⟨by rfl, ?_⟩) ?_ ?_
              rotate_left
              · intro w'
                go_simp
                with_reducible rfl
              rotate_left
              · simp only [Act.put, List.setIfInBounds_toArray, List.set_cons_zero, List.set_cons_succ, i64_w, i32_w]
                rfl
              refine pure_ (i := 3) (N := some 69) (v := ?_) (a' := ?_) #[true, true, true, true, false, false, false, false, false, false, false, false, false, false, false, false] rfl rfl (any_of HT_.out (by kernel_rfl)) (fun _ _ _ h => h) (Or.inl ⟨by rfl, ?_⟩) ?_ ?_
              rotate_left
              · intro w'
                go_simp
                with_reducible rfl
              rotate_left
              · simp only [Act.put, List.setIfInBounds_toArray, List.set_cons_zero, List.set_cons_succ, i64_w, i32_w]
                rfl
              refine take_ (i := 4) (N := some 70) (v := ?_) (a' := ?_) #[true, true, true, true, true, false, false, false, false, false, false, false, false, false, false, false] rfl rfl (take_ofW HT_.out HW_.out (by kernel_rfl)) (fun _ _ _ h => h) (Or.inl ⟨by rfl, ?_⟩) hHeld ?_ ?_
              rotate_left
              · rintro w' ⟨s0, s1, s2, s3, s4, s5⟩
                go_simp
                with_reducible rfl
              rotate_left
              · simp only [Act.put, List.setIfInBounds_toArray, List.set_cons_zero, List.set_cons_succ, i64_w, i32_w]
                rfl
              refine take_ (i := 5) (N := some 71) (v := ?_) (a' := ?_) #[true, true, true, true, true, true, false, false, false, false, false, false, false, false, false, false] rfl rfl (take_ofW HT_.out HW_.out (by kernel_rfl)) (fun _ _ _ h => h) (Or.inl ⟨by rfl, ?_⟩) hHeld ?_ ?_
              rotate_left
              · rintro w' ⟨s0, s1, s2, s3, s4, s5⟩
                go_simp
                with_reducible rfl
              rotate_left
              · simp only [Act.put, List.setIfInBounds_toArray, List.set_cons_zero, List.set_cons_succ, i64_w, i32_w]
                rfl
              refine pure_ (i := 6) (N := some 72) (v := ?_) (a' := ?_) #[true, true, true, true, true, true, true, false, false, false, false, false, false, false, false, false] rfl rfl (any_of HT_.out (by kernel_rfl)) (fun _ _ _ h => h) (Or.inl ⟨by rfl, ?_⟩) ?_ ?_
              rotate_left
              · intro w'
                go_simp
                with_reducible rfl
              rotate_left
              · simp only [Act.put, List.setIfInBounds_toArray, List.set_cons_zero, List.set_cons_succ, i64_w, i32_w]
                rfl
              refine take_ (i := 9) (N := some 75) (v := ?_) (a' := ?_) #[true, true, true, true, true, true, true, false, false, true, false, false, false, false, false, false] rfl rfl (take_ofW HT_.out HW_.out (by kernel_rfl)) (fun _ _ _ h => h) (Or.inl ⟨by rfl, ?_⟩) hHeld ?_ ?_
              rotate_left
              · rintro w' ⟨s0, s1, s2, s3, s4, s5⟩
                go_simp
                with_reducible rfl
              rotate_left
              · simp only [Act.put, List.setIfInBounds_toArray, List.set_cons_zero, List.set_cons_succ, i64_w, i32_w]
                rfl
              refine pure_ (i := 10) (N := some 76) (v := ?_) (a' := ?_) #[true, true, true, true, true, true, true, false, false, true, true, false, false, false, false, false] rfl rfl (any_of HT_.out (by kernel_rfl)) (fun _ _ _ h => h) (Or.inl ⟨by rfl, ?_⟩) ?_ ?_
              rotate_left
              · intro w'
                go_simp
                with_reducible rfl
              rotate_left
              · simp only [Act.put, List.setIfInBounds_toArray, List.set_cons_zero, List.set_cons_succ, i64_w, i32_w]
                rfl
              refine pure_ (i := 11) (N := some 77) (v := ?_) (a' := ?_) #[true, true, true, true, true, true, true, false, false, true, true, true, false, false, false, false] rfl rfl (any_of HT_.out (by kernel_rfl)) (fun _ _ _ h => h) (Or.inl ⟨by rfl, ?_⟩) ?_ ?_
              rotate_left
              · intro w'
                go_simp
                with_reducible rfl
              rotate_left
              · simp only [Act.put, List.setIfInBounds_toArray, List.set_cons_zero, List.set_cons_succ, i64_w, i32_w]
                rfl
              refine one_ (i := 7) (N := some 73) #[true, true, true, true, true, true, true, true, false, true, true, true, false, false, false, false] rfl rfl (one_of HT_.out (by kernel_rfl)) (by decide) (fun K hK => ?_)
              refine goes_ Try.func54 (by kernel_rfl) rfl #[.slice (some ad) l.length c, .int .i64 m] (by rfl) rfl rfl (by (try simp only [List.map_toArray, List.map_cons, List.map_nil]); first | done | rfl | (simp only [List.length_drop, List.length_take]; rfl)) ?_
              refine (of_below kq (some ad) c l m x2 _ (Kd.C_below HV.out.came HV.out.bel) HV.out.hc HX2.out).mono ?_
              rintro e wr1 ⟨rfl, hb⟩
              refine ⟨_, rfl, ?_⟩
              replace HV := Aside0.mk (HV.out.below hb)
              replace HE := Aside0.mk (HE.out.below hb)
              replace B8 := Aside0.mk (blk_below B8.out hb)
              replace B10 := Aside0.mk (blk_below B10.out hb)
              replace B13 := Aside0.mk (blk_below B13.out hb)
              refine hK.out _ _ (PS6.below hHeld hb) (fun hHeld => ?_)
              clear hK K hb
              refine norm_ (a' := ?_) ?_ ?_
              rotate_left
              · show Act.put _ (some 73) _ = _
                simp only [Act.put, List.setIfInBounds_toArray, List.set_cons_zero, List.set_cons_succ, i64_w, i32_w]
                rfl
              refine one_ (i := 8) (N := some 74) #[true, true, true, true, true, true, true, true, true, true, true, true, false, false, false, false] rfl rfl (one_of HT_.out (by kernel_rfl)) (by decide) (fun K hK => ?_)
              refine goes_ Try.func52 (by kernel_rfl) rfl #[.int .i64 wi, .int .i64 x2] (by rfl) rfl rfl (by (try simp only [List.map_toArray, List.map_cons, List.map_nil]); first | done | rfl | (simp only [List.length_drop, List.length_take]; rfl)) ?_
              refine (packets_frac.calls kq wi x2 y1 y2 _ HY2.out).mono ?_
              rintro e wr2 ⟨rfl, hb⟩
              refine ⟨_, rfl, ?_⟩
              replace HV := Aside0.mk (HV.out.below hb)
              replace HE := Aside0.mk (HE.out.below hb)
              replace B8 := Aside0.mk (blk_below B8.out hb)
              replace B10 := Aside0.mk (blk_below B10.out hb)
              replace B13 := Aside0.mk (blk_below B13.out hb)
              refine hK.out _ _ (PS6.below hHeld hb) (fun hHeld => ?_)
              clear hK K hb
              refine norm_ (a' := ?_) ?_ ?_
              rotate_left
              · show Act.put _ (some 74) _ = _
                simp only [Act.put, List.setIfInBounds_toArray, List.set_cons_zero, List.set_cons_succ, i64_w, i32_w]
                rfl
              refine one_ (i := 12) (N := some 78) #[true, true, true, true, true, true, true, true, true, true, true, true, true, false, false, false] rfl rfl (one_of HT_.out (by kernel_rfl)) (by decide) (fun K hK => ?_)
              refine call_ 72 #[.int .i64 O2, .int .i64 B2, .pointer (some ⟨gk, 0, none⟩), .pointer (some ⟨gx, 0, none⟩), .pointer (some ⟨gw, 0, none⟩), .pointer (some ⟨gf, 0, none⟩)] (by rfl) rfl ?_ ?_
              · exact parRun rfl rfl rfl rfl
              refine (ih kq (by have := HK.out; omega) o2 a2 N1 O2 B2 D1 _ z1 z2 HO2.out.1 HO2.out.2 HOA2.out.1 HOA2.out.2 HNN.out HZ2.out HV.out HM.out).mono ?_
              rintro e wz ⟨rfl, N2, D2, hN2, hV2, hM2, hE2⟩
              refine ⟨_, rfl, ?_⟩
              replace HV := Aside0.mk hV2
              replace HE := Aside0.mk (HE.out.trans hE2)
              replace HM := Aside0.mk hM2
              replace B8 := Aside0.mk (hE2.2 _ _ HNE.out.1 B8.out)
              replace B10 := Aside0.mk (hE2.2 _ _ HNE.out.2.1 B10.out)
              replace B13 := Aside0.mk (hE2.2 _ _ HNE.out.2.2 B13.out)
              have HN2 := Aside0.mk hN2
              clear hV2 hM2 hE2 hN2
              refine hK.out _ _ ⟨blk_cell B13.out 0, blk_cell B13.out 1, blk_cell HV.out.bw 0, (HV.out.el i HIL.out).trans (by rw [HWI.out]), blk_cell HV.out.bx 0, blk_cell HV.out.bf 0⟩ (fun hHeld => ?_)
              clear hK K
              refine norm_ (a' := ?_) ?_ ?_
              rotate_left
              · show Act.put _ (some 78) _ = _
                simp only [Act.put, List.setIfInBounds_toArray, List.set_cons_zero, List.set_cons_succ, i64_w, i32_w]
                rfl
              refine one_ (i := 13) (N := some 79) #[true, true, true, true, true, true, true, true, true, true, true, true, true, true, false, false] rfl rfl (one_of HT_.out (by kernel_rfl)) (by decide) (fun K hK => ?_)
              refine goes_ Try.func70 (by kernel_rfl) rfl #[.agg #[.int .i64 y1, .int .i64 y2], .agg #[.int .i64 z1, .int .i64 z2]] (by rfl) rfl rfl (by (try simp only [List.map_toArray, List.map_cons, List.map_nil]); first | done | rfl | (simp only [List.length_drop, List.length_take]; rfl)) ?_
              refine (packets_times.calls kq y1 y2 z1 z2 u1 u2 _ HU2.out).mono ?_
              rintro e wr3 ⟨rfl, hb⟩
              refine ⟨_, rfl, ?_⟩
              replace HV := Aside0.mk (HV.out.below hb)
              replace HE := Aside0.mk (HE.out.below hb)
              replace B8 := Aside0.mk (blk_below B8.out hb)
              replace B10 := Aside0.mk (blk_below B10.out hb)
              replace B13 := Aside0.mk (blk_below B13.out hb)
              refine hK.out _ _ (PS6.below hHeld hb) (fun hHeld => ?_)
              clear hK K hb
              refine norm_ (a' := ?_) ?_ ?_
              rotate_left
              · show Act.put _ (some 79) _ = _
                simp only [Act.put, List.setIfInBounds_toArray, List.set_cons_zero, List.set_cons_succ, i64_w, i32_w]
                rfl
              refine one_ (i := 14) (N := some 80) #[true, true, true, true, true, true, true, true, true, true, true, true, true, true, true, false] rfl rfl (one_of HT_.out (by kernel_rfl)) (by decide) (fun K hK => ?_)
              refine goes_ Try.func51 (by kernel_rfl) rfl #[.agg #[.int .i64 t1, .int .i64 t2], .agg #[.int .i64 u1, .int .i64 u2]] (by rfl) rfl rfl (by (try simp only [List.map_toArray, List.map_cons, List.map_nil]); first | done | rfl | (simp only [List.length_drop, List.length_take]; rfl)) ?_
              refine (packets_plus.calls kq t1 t2 u1 u2 v1 v2 _ HW2.out).mono ?_
              rintro e wr4 ⟨rfl, hb⟩
              refine ⟨_, rfl, ?_⟩
              replace HV := Aside0.mk (HV.out.below hb)
              replace HE := Aside0.mk (HE.out.below hb)
              replace B8 := Aside0.mk (blk_below B8.out hb)
              replace B10 := Aside0.mk (blk_below B10.out hb)
              replace B13 := Aside0.mk (blk_below B13.out hb)
              refine hK.out _ _ (PS6.below hHeld hb) (fun hHeld => ?_)
              clear hK K hb
              refine norm_ (a' := ?_) ?_ ?_
              rotate_left
              · show Act.put _ (some 80) _ = _
                simp only [Act.put, List.setIfInBounds_toArray, List.set_cons_zero, List.set_cons_succ, i64_w, i32_w]
                rfl
              refine last_ (i := 15) (N := none) #[true, true, true, true, true, true, true, true, true, true, true, true, true, true, true, true] rfl rfl (one_of HT_.out (by kernel_rfl)) (by decide) (fun K hK => ?_)
              have hs0_ := blk_cell B13.out 0
              have hs1_ := blk_cell B13.out 1
              have fs0_ := blk_frozen B13.out 0
              have fs1_ := blk_frozen B13.out 1
              refine skip_ (w1 := ?_) (by rfl) rfl ?_ ?_
              rotate_left
              · go_simp
                rfl
              refine hK.out _ _ ?_
              clear hK K
              refine done_ (done_of HT_.out (by kernel_rfl)) ?_
              clear hs0_ hs1_ fs0_ fs1_
              replace HV := Aside0.mk ((HV.out.set (i := 0) HG13.out (.int .i64 v1)).set (i := 1) HG13.out (.int .i64 v2))
              replace HE := Aside0.mk ((HE.out.set (i := 0) HG13e.out.2 (.int .i64 v1)).set (i := 1) HG13e.out.2 (.int .i64 v2))
              replace B8 := Aside0.mk (blk_far (blk_far B8.out (p := ⟨g13, 0, none⟩) (by have := HG13e.out.1; show W.heap.size ≠ g13; omega) (.int .i64 v1)) (p := ⟨g13, 1, none⟩) (by have := HG13e.out.1; show W.heap.size ≠ g13; omega) (.int .i64 v2))
              replace B10 := Aside0.mk (blk_far (blk_far B10.out (p := ⟨g13, 0, none⟩) (by have := HG13e.out.1; show W.heap.size + 1 ≠ g13; omega) (.int .i64 v1)) (p := ⟨g13, 1, none⟩) (by have := HG13e.out.1; show W.heap.size + 1 ≠ g13; omega) (.int .i64 v2))
              replace B13 := Aside0.mk (blk_put (blk_put B13.out 0 (.int .i64 v1) rfl) 1 (.int .i64 v2) rfl)
              generalize ((World.setCell _ _ _).setCell _ _) = We at HV HE B8 B10 B13 ⊢
              go_wp2_with fail
              refine ⟨⟨kq, i + 1, N2, D2, v1, v2, by first | rfl | (rw [HWR.out]), by have := HIL.out; omega, ⟨by have := HK.out; omega⟩, HL3, ⟨?_⟩, HV, HM, HE, B8, B10, B13⟩, ?_⟩
              · obtain ⟨q1, q2⟩ := pow_step HPC.out
                have h3 := HN1.out
                have h4 := HN2.out
                rw [q1] at h4
                rw [Nat.add_mul, Nat.one_mul]
                omega
              · simp only [intOf]; have := HIL.out; omega
            · have hb2b : (Go.bits .and .i64 r2 1 == 0) = false := beq_eq_false_iff_ne.mpr hb2
              obtain rfl : B = B2 := by have h := HMO.out; unfold moreP at h; rw [hr2, if_neg hb2] at h; exact h
              clear hb2 hr2 hp
              go_wp2_with fail
              obtain ⟨x2, hx2, h1⟩ := Option.bind_eq_some_iff.mp HL2.out
              obtain ⟨⟨y1, y2⟩, hy2, h1⟩ := Option.bind_eq_some_iff.mp h1
              obtain ⟨⟨z1, z2⟩, hz2, h1⟩ := Option.bind_eq_some_iff.mp h1
              obtain ⟨⟨u1, u2⟩, hu2, h1⟩ := Option.bind_eq_some_iff.mp h1
              obtain ⟨⟨v1, v2⟩, hw2, h1⟩ := Option.bind_eq_some_iff.mp h1
              obtain ⟨wi, hwi⟩ : ∃ wi : Int, rd l (i : Int) = wi := ⟨_, rfl⟩
              rw [hwi] at hy2
              obtain ⟨ad, rfl, -⟩ := Kd.at_int (Kd.C_below HV.out.came HV.out.bel) (i : Int) (by omega) (by omega)
              have HWI := Aside0.mk hwi
              have HX2 := Aside0.mk hx2
              have HY2 := Aside0.mk hy2
              have HZ2 := Aside0.mk hz2
              have HU2 := Aside0.mk hu2
              have HW2 := Aside0.mk hw2
              have HL3 := Aside0.mk h1
              have HNE : Aside0 (W.heap.size ≠ mb ∧ W.heap.size + 1 ≠ mb ∧ g13 ≠ mb) := ⟨(by have := (HNB.out W.heap.size (Nat.le_refl _)).m; have := HG13.out.m; omega)⟩
              have HNN : Aside0 (N1 + 4 ^ (pc3 o2 + pc3 a2) ≤ 100000) := ⟨by
                obtain ⟨q1, q2⟩ := pow_step HPC.out
                have h3 := HN1.out
                rw [← q1] at h3
                have h4 := HN.out
                rw [q2] at h4
                have h5 : i * 4 ^ (pc3 o2 + pc3 a2) ≤ 2 * 4 ^ (pc3 o2 + pc3 a2) := Nat.mul_le_mul_right _ (by have := HIL.out; omega)
                omega⟩
              clear hx2 hy2 hz2 hu2 hw2 h1 hwi HL2
              replace HV := Aside0.mk (HV.out.below (below_drew (Below.refl _ _)))
              replace HE := Aside0.mk (HE.out.below (below_drew (Below.refl _ _)))
              replace B8 := Aside0.mk (blk_below B8.out (below_drew (Below.refl _ _)))
              replace B10 := Aside0.mk (blk_below B10.out (below_drew (Below.refl _ _)))
              replace B13 := Aside0.mk (blk_below B13.out (below_drew (Below.refl _ _)))
              clear cw_
              refine start_ (n := 16) (S := PS6 g13 t1 t2 gw (.slice (some ad) l.length c) (ad.add i) wi gx gf (.func (.func 72) #[] #[.pointer (some ⟨gk, 0, none⟩), .pointer (some ⟨gx, 0, none⟩), .pointer (some ⟨gw, 0, none⟩), .pointer (some ⟨gf, 0, none⟩)])) (ds := [15]) #[false, false, false, false, false, false, false, false, false, false, false, false, false, false, false, false] (by kernel_rfl) rfl rfl ⟨blk_cell B13.out 0, blk_cell B13.out 1, blk_cell HV.out.bw 0, (HV.out.el i HIL.out).trans (by rw [HWI.out]), blk_cell HV.out.bx 0, blk_cell HV.out.bf 0⟩ (fun hHeld => ?_)
              refine with_tabW parT.tab16 parT.bits16 (fun HT_ HW_ => ?_)
              generalize (World.drew _) = Wd at HV HE B8 B10 B13 hHeld ⊢
              refine take_ (i := 0) (N := some 66) (v := ?_) (a' := ?_) #[true, false, false, false, false, false, false, false, false, false, false, false, false, false, false, false] rfl rfl (take_ofW HT_.out HW_.out (by kernel_rfl)) (fun _ _ _ h => h) (Or.inl ⟨by rfl, ?_⟩) hHeld ?_ ?_
              rotate_left
              · rintro w' ⟨s0, s1, s2, s3, s4, s5⟩
                go_simp
                with_reducible rfl
              rotate_left
              · simp only [Act.put, List.setIfInBounds_toArray, List.set_cons_zero, List.set_cons_succ, i64_w, i32_w]
                rfl
              refine take_ (i := 1) (N := some 67) (v := ?_) (a' := ?_) #[true, true, false, false, false, false, false, false, false, false, false, false, false, false, false, false] rfl rfl (take_ofW HT_.out HW_.out (by kernel_rfl)) (fun _ _ _ h => h) (Or.inl ⟨by rfl, ?_⟩) hHeld ?_ ?_
              rotate_left
              · rintro w' ⟨s0, s1, s2, s3, s4, s5⟩
                go_simp
                with_reducible rfl
              rotate_left
              · simp only [Act.put, List.setIfInBounds_toArray, List.set_cons_zero, List.set_cons_succ, i64_w, i32_w]
                rfl
              refine pure_ (i := 2) (N := some 68) (v := ?_) (a' := ?_) #[true, true, true, false, false, false, false, false, false, false, false, false, false, false, false, false] rfl rfl (any_of HT_.out (by kernel_rfl)) (fun _ _ _ h => h) (Or.inl ⟨by rfl, ?_⟩) ?_ ?_
              rotate_left
              · intro w'
                go_simp
                with_reducible rfl
              rotate_left
              · simp only [Act.put, List.setIfInBounds_toArray, List.set_cons_zero, List.set_cons_succ, i64_w, i32_w]
                rfl
              refine pure_ (i := 3) (N := some 69) (v := ?_) (a' := ?_) #[true, true, true, true, false, false, false, false, false, false, false, false, false, false, false, false] rfl rfl (any_of HT_.out (by kernel_rfl)) (fun _ _ _ h => h) (Or.inl ⟨by rfl, ?_⟩) ?_ ?_
              rotate_left
              · intro w'
                go_simp
                with_reducible rfl
              rotate_left
              · simp only [Act.put, List.setIfInBounds_toArray, List.set_cons_zero, List.set_cons_succ, i64_w, i32_w]
                rfl
              refine take_ (i := 4) (N := some 70) (v := ?_) (a' := ?_) #[true, true, true, true, true, false, false, false, false, false, false, false, false, false, false, false] rfl rfl (take_ofW HT_.out HW_.out (by kernel_rfl)) (fun _ _ _ h => h) (Or.inl ⟨by rfl, ?_⟩) hHeld ?_ ?_
              rotate_left
              · rintro w' ⟨s0, s1, s2, s3, s4, s5⟩
                go_simp
                with_reducible rfl
              rotate_left
              · simp only [Act.put, List.setIfInBounds_toArray, List.set_cons_zero, List.set_cons_succ, i64_w, i32_w]
                rfl
              refine take_ (i := 5) (N := some 71) (v := ?_) (a' := ?_) #[true, true, true, true, true, true, false, false, false, false, false, false, false, false, false, false] rfl rfl (take_ofW HT_.out HW_.out (by kernel_rfl)) (fun _ _ _ h => h) (Or.inl ⟨by rfl, ?_⟩) hHeld ?_ ?_
              rotate_left
              · rintro w' ⟨s0, s1, s2, s3, s4, s5⟩
                go_simp
                with_reducible rfl
              rotate_left
              · simp only [Act.put, List.setIfInBounds_toArray, List.set_cons_zero, List.set_cons_succ, i64_w, i32_w]
                rfl
              refine pure_ (i := 6) (N := some 72) (v := ?_) (a' := ?_) #[true, true, true, true, true, true, true, false, false, false, false, false, false, false, false, false] rfl rfl (any_of HT_.out (by kernel_rfl)) (fun _ _ _ h => h) (Or.inl ⟨by rfl, ?_⟩) ?_ ?_
              rotate_left
              · intro w'
                go_simp
                with_reducible rfl
              rotate_left
              · simp only [Act.put, List.setIfInBounds_toArray, List.set_cons_zero, List.set_cons_succ, i64_w, i32_w]
                rfl
              refine take_ (i := 9) (N := some 75) (v := ?_) (a' := ?_) #[true, true, true, true, true, true, true, false, false, true, false, false, false, false, false, false] rfl rfl (take_ofW HT_.out HW_.out (by kernel_rfl)) (fun _ _ _ h => h) (Or.inl ⟨by rfl, ?_⟩) hHeld ?_ ?_
              rotate_left
              · rintro w' ⟨s0, s1, s2, s3, s4, s5⟩
                go_simp
                with_reducible rfl
              rotate_left
              · simp only [Act.put, List.setIfInBounds_toArray, List.set_cons_zero, List.set_cons_succ, i64_w, i32_w]
                rfl
              refine pure_ (i := 10) (N := some 76) (v := ?_) (a' := ?_) #[true, true, true, true, true, true, true, false, false, true, true, false, false, false, false, false] rfl rfl (any_of HT_.out (by kernel_rfl)) (fun _ _ _ h => h) (Or.inl ⟨by rfl, ?_⟩) ?_ ?_
              rotate_left
              · intro w'
                go_simp
                with_reducible rfl
              rotate_left
              · simp only [Act.put, List.setIfInBounds_toArray, List.set_cons_zero, List.set_cons_succ, i64_w, i32_w]
                rfl
              refine pure_ (i := 11) (N := some 77) (v := ?_) (a' := ?_) #[true, true, true, true, true, true, true, false, false, true, true, true, false, false, false, false] rfl rfl (any_of HT_.out (by kernel_rfl)) (fun _ _ _ h => h) (Or.inl ⟨by rfl, ?_⟩) ?_ ?_
              rotate_left
              · intro w'
                go_simp
                with_reducible rfl
              rotate_left
              · simp only [Act.put, List.setIfInBounds_toArray, List.set_cons_zero, List.set_cons_succ, i64_w, i32_w]
                rfl
              refine one_ (i := 7) (N := some 73) #[true, true, true, true, true, true, true, true, false, true, true, true, false, false, false, false] rfl rfl (one_of HT_.out (by kernel_rfl)) (by decide) (fun K hK => ?_)
              refine goes_ Try.func54 (by kernel_rfl) rfl #[.slice (some ad) l.length c, .int .i64 m] (by rfl) rfl rfl (by (try simp only [List.map_toArray, List.map_cons, List.map_nil]); first | done | rfl | (simp only [List.length_drop, List.length_take]; rfl)) ?_
              refine (of_below kq (some ad) c l m x2 _ (Kd.C_below HV.out.came HV.out.bel) HV.out.hc HX2.out).mono ?_
              rintro e wr1 ⟨rfl, hb⟩
              refine ⟨_, rfl, ?_⟩
              replace HV := Aside0.mk (HV.out.below hb)
              replace HE := Aside0.mk (HE.out.below hb)
              replace B8 := Aside0.mk (blk_below B8.out hb)
              replace B10 := Aside0.mk (blk_below B10.out hb)
              replace B13 := Aside0.mk (blk_below B13.out hb)
              refine hK.out _ _ (PS6.below hHeld hb) (fun hHeld => ?_)
              clear hK K hb
              refine norm_ (a' := ?_) ?_ ?_
              rotate_left
              · show Act.put _ (some 73) _ = _
                simp only [Act.put, List.setIfInBounds_toArray, List.set_cons_zero, List.set_cons_succ, i64_w, i32_w]
                rfl
              refine one_ (i := 8) (N := some 74) #[true, true, true, true, true, true, true, true, true, true, true, true, false, false, false, false] rfl rfl (one_of HT_.out (by kernel_rfl)) (by decide) (fun K hK => ?_)
              refine goes_ Try.func52 (by kernel_rfl) rfl #[.int .i64 wi, .int .i64 x2] (by rfl) rfl rfl (by (try simp only [List.map_toArray, List.map_cons, List.map_nil]); first | done | rfl | (simp only [List.length_drop, List.length_take]; rfl)) ?_
              refine (packets_frac.calls kq wi x2 y1 y2 _ HY2.out).mono ?_
              rintro e wr2 ⟨rfl, hb⟩
              refine ⟨_, rfl, ?_⟩
              replace HV := Aside0.mk (HV.out.below hb)
              replace HE := Aside0.mk (HE.out.below hb)
              replace B8 := Aside0.mk (blk_below B8.out hb)
              replace B10 := Aside0.mk (blk_below B10.out hb)
              replace B13 := Aside0.mk (blk_below B13.out hb)
              refine hK.out _ _ (PS6.below hHeld hb) (fun hHeld => ?_)
              clear hK K hb
              refine norm_ (a' := ?_) ?_ ?_
              rotate_left
              · show Act.put _ (some 74) _ = _
                simp only [Act.put, List.setIfInBounds_toArray, List.set_cons_zero, List.set_cons_succ, i64_w, i32_w]
                rfl
              refine one_ (i := 12) (N := some 78) #[true, true, true, true, true, true, true, true, true, true, true, true, true, false, false, false] rfl rfl (one_of HT_.out (by kernel_rfl)) (by decide) (fun K hK => ?_)
              refine call_ 72 #[.int .i64 O2, .int .i64 B, .pointer (some ⟨gk, 0, none⟩), .pointer (some ⟨gx, 0, none⟩), .pointer (some ⟨gw, 0, none⟩), .pointer (some ⟨gf, 0, none⟩)] (by rfl) rfl ?_ ?_
              · exact parRun rfl rfl rfl rfl
              refine (ih kq (by have := HK.out; omega) o2 a2 N1 O2 B D1 _ z1 z2 HO2.out.1 HO2.out.2 HOA2.out.1 HOA2.out.2 HNN.out HZ2.out HV.out HM.out).mono ?_
              rintro e wz ⟨rfl, N2, D2, hN2, hV2, hM2, hE2⟩
              refine ⟨_, rfl, ?_⟩
              replace HV := Aside0.mk hV2
              replace HE := Aside0.mk (HE.out.trans hE2)
              replace HM := Aside0.mk hM2
              replace B8 := Aside0.mk (hE2.2 _ _ HNE.out.1 B8.out)
              replace B10 := Aside0.mk (hE2.2 _ _ HNE.out.2.1 B10.out)
              replace B13 := Aside0.mk (hE2.2 _ _ HNE.out.2.2 B13.out)
              have HN2 := Aside0.mk hN2
              clear hV2 hM2 hE2 hN2
              refine hK.out _ _ ⟨blk_cell B13.out 0, blk_cell B13.out 1, blk_cell HV.out.bw 0, (HV.out.el i HIL.out).trans (by rw [HWI.out]), blk_cell HV.out.bx 0, blk_cell HV.out.bf 0⟩ (fun hHeld => ?_)
              clear hK K
              refine norm_ (a' := ?_) ?_ ?_
              rotate_left
              · show Act.put _ (some 78) _ = _
                simp only [Act.put, List.setIfInBounds_toArray, List.set_cons_zero, List.set_cons_succ, i64_w, i32_w]
                rfl
              refine one_ (i := 13) (N := some 79) #[true, true, true, true, true, true, true, true, true, true, true, true, true, true, false, false] rfl rfl (one_of HT_.out (by kernel_rfl)) (by decide) (fun K hK => ?_)
              refine goes_ Try.func70 (by kernel_rfl) rfl #[.agg #[.int .i64 y1, .int .i64 y2], .agg #[.int .i64 z1, .int .i64 z2]] (by rfl) rfl rfl (by (try simp only [List.map_toArray, List.map_cons, List.map_nil]); first | done | rfl | (simp only [List.length_drop, List.length_take]; rfl)) ?_
              refine (packets_times.calls kq y1 y2 z1 z2 u1 u2 _ HU2.out).mono ?_
              rintro e wr3 ⟨rfl, hb⟩
              refine ⟨_, rfl, ?_⟩
              replace HV := Aside0.mk (HV.out.below hb)
              replace HE := Aside0.mk (HE.out.below hb)
              replace B8 := Aside0.mk (blk_below B8.out hb)
              replace B10 := Aside0.mk (blk_below B10.out hb)
              replace B13 := Aside0.mk (blk_below B13.out hb)
              refine hK.out _ _ (PS6.below hHeld hb) (fun hHeld => ?_)
              clear hK K hb
              refine norm_ (a' := ?_) ?_ ?_
              rotate_left
              · show Act.put _ (some 79) _ = _
                simp only [Act.put, List.setIfInBounds_toArray, List.set_cons_zero, List.set_cons_succ, i64_w, i32_w]
                rfl
              refine one_ (i := 14) (N := some 80) #[true, true, true, true, true, true, true, true, true, true, true, true, true, true, true, false] rfl rfl (one_of HT_.out (by kernel_rfl)) (by decide) (fun K hK => ?_)
              refine goes_ Try.func51 (by kernel_rfl) rfl #[.agg #[.int .i64 t1, .int .i64 t2], .agg #[.int .i64 u1, .int .i64 u2]] (by rfl) rfl rfl (by (try simp only [List.map_toArray, List.map_cons, List.map_nil]); first | done | rfl | (simp only [List.length_drop, List.length_take]; rfl)) ?_
              refine (packets_plus.calls kq t1 t2 u1 u2 v1 v2 _ HW2.out).mono ?_
              rintro e wr4 ⟨rfl, hb⟩
              refine ⟨_, rfl, ?_⟩
              replace HV := Aside0.mk (HV.out.below hb)
              replace HE := Aside0.mk (HE.out.below hb)
              replace B8 := Aside0.mk (blk_below B8.out hb)
              replace B10 := Aside0.mk (blk_below B10.out hb)
              replace B13 := Aside0.mk (blk_below B13.out hb)
              refine hK.out _ _ (PS6.below hHeld hb) (fun hHeld => ?_)
              clear hK K hb
              refine norm_ (a' := ?_) ?_ ?_
              rotate_left
              · show Act.put _ (some 80) _ = _
                simp only [Act.put, List.setIfInBounds_toArray, List.set_cons_zero, List.set_cons_succ, i64_w, i32_w]
                rfl
              refine last_ (i := 15) (N := none) #[true, true, true, true, true, true, true, true, true, true, true, true, true, true, true, true] rfl rfl (one_of HT_.out (by kernel_rfl)) (by decide) (fun K hK => ?_)
              have hs0_ := blk_cell B13.out 0
              have hs1_ := blk_cell B13.out 1
              have fs0_ := blk_frozen B13.out 0
              have fs1_ := blk_frozen B13.out 1
              refine skip_ (w1 := ?_) (by rfl) rfl ?_ ?_
              rotate_left
              · go_simp
                rfl
              refine hK.out _ _ ?_
              clear hK K
              refine done_ (done_of HT_.out (by kernel_rfl)) ?_
              clear hs0_ hs1_ fs0_ fs1_
              replace HV := Aside0.mk ((HV.out.set (i := 0) HG13.out (.int .i64 v1)).set (i := 1) HG13.out (.int .i64 v2))
              replace HE := Aside0.mk ((HE.out.set (i := 0) HG13e.out.2 (.int .i64 v1)).set (i := 1) HG13e.out.2 (.int .i64 v2))
              replace B8 := Aside0.mk (blk_far (blk_far B8.out (p := ⟨g13, 0, none⟩) (by have := HG13e.out.1; show W.heap.size ≠ g13; omega) (.int .i64 v1)) (p := ⟨g13, 1, none⟩) (by have := HG13e.out.1; show W.heap.size ≠ g13; omega) (.int .i64 v2))
              replace B10 := Aside0.mk (blk_far (blk_far B10.out (p := ⟨g13, 0, none⟩) (by have := HG13e.out.1; show W.heap.size + 1 ≠ g13; omega) (.int .i64 v1)) (p := ⟨g13, 1, none⟩) (by have := HG13e.out.1; show W.heap.size + 1 ≠ g13; omega) (.int .i64 v2))
              replace B13 := Aside0.mk (blk_put (blk_put B13.out 0 (.int .i64 v1) rfl) 1 (.int .i64 v2) rfl)
              generalize ((World.setCell _ _ _).setCell _ _) = We at HV HE B8 B10 B13 ⊢
              go_wp2_with fail
              refine ⟨⟨kq, i + 1, N2, D2, v1, v2, by first | rfl | (rw [HWR.out]), by have := HIL.out; omega, ⟨by have := HK.out; omega⟩, HL3, ⟨?_⟩, HV, HM, HE, B8, B10, B13⟩, ?_⟩
              · obtain ⟨q1, q2⟩ := pow_step HPC.out
                have h3 := HN1.out
                have h4 := HN2.out
                rw [q1] at h4
                rw [Nat.add_mul, Nat.one_mul]
                omega
              · simp only [intOf]; have := HIL.out; omega
        · have hib : decide ((i : Int) < (l.length : Int)) = false := decide_eq_false (by omega)
          have hip : ((i : Int) < (l.length : Int)) = False := eq_false (by omega)
          have q2_ : (i < l.length) = False := eq_false hil
          have h1 := HL1.out
          rw [packets_Pairs1.l0, if_neg (by omega)] at h1
          obtain ⟨e1, e2⟩ := Prod.mk.inj (Option.some.inj h1)
          subst e1 e2
          clear h1 HL1 hil
          have ck_ := blk_cell HV.out.bk 0
          have c100_ := blk_cell B10.out 0
          have c101_ := blk_cell B10.out 1
          have c130_ := blk_cell B13.out 0
          have c131_ := blk_cell B13.out 1
          have HNM : Aside0 (N1 < maxLen) := ⟨by
            obtain ⟨q1, q2⟩ := pow_step (p' := pc3 o + pc3 a - 1) (p := pc3 o + pc3 a) (by have := HPP.out; omega)
            have h3 := HN1.out
            have h4 := HN.out
            have h5 : i * 4 ^ (pc3 o + pc3 a - 1) ≤ 3 * 4 ^ (pc3 o + pc3 a - 1) := Nat.mul_le_mul_right _ (by omega)
            simp [maxLen]
            omega⟩
          have HNQ : Aside0 (N1 + 1 ≤ N + 4 ^ (pc3 o + pc3 a)) := ⟨by
            obtain ⟨q1, q2⟩ := pow_step (p' := pc3 o + pc3 a - 1) (p := pc3 o + pc3 a) (by have := HPP.out; omega)
            have h3 := HN1.out
            have h5 : i * 4 ^ (pc3 o + pc3 a - 1) ≤ 3 * 4 ^ (pc3 o + pc3 a - 1) := Nat.mul_le_mul_right _ (by omega)
            have h6 : 0 < 4 ^ (pc3 o + pc3 a - 1) := Nat.pow_pos (by omega)
            omega⟩
          have HNE : Aside0 (W.heap.size ≠ mb ∧ g13 ≠ mb) := ⟨(by have := (HNB.out W.heap.size (Nat.le_refl _)).m; have := HG13.out.m; omega)⟩
          go_wp2_with (first | (at_mapUpdate; refine wpList_mapUpdate_own _ rfl _ _ _ 65 rfl 66 25 lawP Try.underlying65 fracElem mb N1 D1 rfl HV.out.mp HNM.out (.agg #[.int .i64 O, .int .i64 B]) (.agg #[.int .i64 t1, .int .i64 t2]) (keyP o a) rfl rfl HKY.out (frD t1 t2) [] (fracElem_mk t1 t2) ?_; intro w7 hown hgw; replace HV := Aside0.mk (HV.out.putm hown hgw); replace HE := Aside0.mk (HE.out.grown hgw); have B8b := Aside0.mk (blk_grown B8.out hgw (fun e => HNE.out.1 (Option.some.inj e))); have B13b := Aside0.mk (blk_grown B13.out hgw (fun e => HNE.out.2 (Option.some.inj e))); clear ck_ c100_ c101_ c130_ c131_ hown hgw; have c80_ := blk_cell B8b.out 0; have c81_ := blk_cell B8b.out 1; have f80_ := blk_frozen B8b.out 0; have f81_ := blk_frozen B8b.out 1; have c130_ := blk_cell B13b.out 0; have c131_ := blk_cell B13b.out 1))
          (try simp only [Exit.inBlock, Exit.then])
          refine bodyPost_ret (by simp [results, res72, go_sem, c80_, c81_]; try rfl) rfl ?_
          refine ⟨rfl, N1 + 1, _, HNQ.out, ((HV.out.set (i := 0) (HNB.out _ (Nat.le_refl _)) (.int .i64 t1)).set (i := 1) (HNB.out _ (Nat.le_refl _)) (.int .i64 t2)), HM.out.put HOA.out.1 HOA.out.2 HFF.out, ((HE.out.set (i := 0) (Nat.le_refl _) (.int .i64 t1)).set (i := 1) (Nat.le_refl _) (.int .i64 t2))⟩
end Go.Proofs.Ytigmhomfadimnaa.X
