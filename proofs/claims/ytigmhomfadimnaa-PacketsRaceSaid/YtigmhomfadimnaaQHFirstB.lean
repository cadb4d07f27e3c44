/- The contract of the closure packets.First$1: what it answers, what it leaves in the map of what is known. -/
import Derived.Test.YtigmhomfadimnaaQHFirstA
import Derived.Laws.EntriesVeiled
set_option linter.unusedVariables false
set_option linter.unusedSimpArgs false
namespace Go.Proofs.Ytigmhomfadimnaa.X
open Go.RowKit Go.Proofs.YtigmhomfadimnaaW.PrintWords Go.Proofs.YtigmhomfadimnaaW.PrintLast Go.Proofs.YtigmhomfadimnaaW.PrintMore
open Go.Maps
attribute [local go_sem] Oper.semAt_some
/-- What is known of the memory amid the calls of First. -/
structure FSt (w0 : World) (gb ga gk gw gx gf mb N : Nat) (D : DataW Unit) (A : Option Addr) (c : Nat) (l : List Int) (a b : Int) (W : World) : Prop where
  bb : W.heap[gb]? = some (.cells #[.int .i64 b] 3 (0, 0))
  ba : W.heap[ga]? = some (.cells #[.int .i64 a] 3 (0, 0))
  bk : W.heap[gk]? = some (.cells #[.map (some mb)] 64 (0, 0))
  bw : W.heap[gw]? = some (.cells #[.slice A l.length c] 23 (0, 0))
  bx : W.heap[gx]? = some (.cells #[.slice A l.length c] 52 (0, 0))
  bf : W.heap[gf]? = some (.cells #[.func (.func 69) #[] #[.pointer (some ⟨gb, 0, none⟩), .pointer (some ⟨ga, 0, none⟩), .pointer (some ⟨gk, 0, none⟩), .pointer (some ⟨gw, 0, none⟩), .pointer (some ⟨gx, 0, none⟩), .pointer (some ⟨gf, 0, none⟩)]] 54 (0, 0))
  mp : W.ownsMap Try.prog 3 fracElem mb N D
  came : Kd.C (Kd.int .i64) w0 A l.length l
  hc : l.length ≤ c
  bel : Below w0.heap.size w0 W
  hm : w0.heap.size ≤ mb
  m1 : mb ≠ gb
  m2 : mb ≠ ga
  m3 : mb ≠ gk
  m4 : mb ≠ gw
  m5 : mb ≠ gx
  m6 : mb ≠ gf
section
variable {w0 : World} {gb ga gk gw gx gf mb N N' : Nat} {D D' : DataW Unit} {A : Option Addr} {c : Nat} {l : List Int} {a b : Int} {W W' : World}
theorem FSt.below (h : FSt w0 gb ga gk gw gx gf mb N D A c l a b W) (hb : Below W.heap.size W W') : FSt w0 gb ga gk gw gx gf mb N D A c l a b W' := by
  refine ⟨blk_below h.bb hb, blk_below h.ba hb, blk_below h.bk hb, blk_below h.bw hb, blk_below h.bx hb, blk_below h.bf hb, ?_, h.came, h.hc, below_step h.bel hb, h.hm, h.m1, h.m2, h.m3, h.m4, h.m5, h.m6⟩
  obtain ⟨es, clock, hbk, F, hs, hD⟩ := h.mp
  exact ⟨es, clock, blk_below hbk hb, F, hs, hD⟩
theorem FSt.alloc (h : FSt w0 gb ga gk gw gx gf mb N D A c l a b W) (o : Obj) : FSt w0 gb ga gk gw gx gf mb N D A c l a b (W.alloc o) := h.below (below_alloc (Below.refl _ _) o)
theorem FSt.putm (h : FSt w0 gb ga gk gw gx gf mb N D A c l a b W) (hm : W'.ownsMap Try.prog 3 fracElem mb N' D') (hg : W.grownBy W' (some mb)) : FSt w0 gb ga gk gw gx gf mb N' D' A c l a b W' :=
  ⟨blk_grown h.bb hg (fun e => h.m1 (Option.some.inj e).symm), blk_grown h.ba hg (fun e => h.m2 (Option.some.inj e).symm), blk_grown h.bk hg (fun e => h.m3 (Option.some.inj e).symm), blk_grown h.bw hg (fun e => h.m4 (Option.some.inj e).symm), blk_grown h.bx hg (fun e => h.m5 (Option.some.inj e).symm), blk_grown h.bf hg (fun e => h.m6 (Option.some.inj e).symm), hm, h.came, h.hc, h.bel.grown hg h.bel.size (fun k e => by cases e; exact h.hm), h.hm, h.m1, h.m2, h.m3, h.m4, h.m5, h.m6⟩
structure NewF (w0 : World) (gb ga gk gw gx gf mb n : Nat) : Prop where
  b : gb < n
  a : ga < n
  k : gk < n
  w : gw < n
  x : gx < n
  f : gf < n
  m : mb < n
  z : w0.heap.size ≤ n
theorem FSt.new (h : FSt w0 gb ga gk gw gx gf mb N D A c l a b W) {n : Nat} (hb : W.heap.size ≤ n) : NewF w0 gb ga gk gw gx gf mb n :=
  ⟨Nat.lt_of_lt_of_le (blk_lt h.bb) hb, Nat.lt_of_lt_of_le (blk_lt h.ba) hb, Nat.lt_of_lt_of_le (blk_lt h.bk) hb, Nat.lt_of_lt_of_le (blk_lt h.bw) hb, Nat.lt_of_lt_of_le (blk_lt h.bx) hb, Nat.lt_of_lt_of_le (blk_lt h.bf) hb, Nat.lt_of_lt_of_le h.mp.lt hb, Nat.le_trans h.bel.size hb⟩
theorem FSt.set (h : FSt w0 gb ga gk gw gx gf mb N D A c l a b W) {n i : Nat} (q : NewF w0 gb ga gk gw gx gf mb n) (v : Value) : FSt w0 gb ga gk gw gx gf mb N D A c l a b (W.setCell ⟨n, i, none⟩ v) :=
  ⟨blk_far h.bb (Nat.ne_of_lt q.b) _, blk_far h.ba (Nat.ne_of_lt q.a) _, blk_far h.bk (Nat.ne_of_lt q.k) _, blk_far h.bw (Nat.ne_of_lt q.w) _, blk_far h.bx (Nat.ne_of_lt q.x) _, blk_far h.bf (Nat.ne_of_lt q.f) _, h.mp.setCell (Nat.ne_of_lt q.m) _, h.came, h.hc, h.bel.setCell q.z _, h.hm, h.m1, h.m2, h.m3, h.m4, h.m5, h.m6⟩
theorem FSt.el {ad : Addr} (h : FSt w0 gb ga gk gw gx gf mb N D (some ad) c l a b W) (i : Nat) (hi : i < l.length) : W.cell? (ad.add i) = some (.int .i64 (rd l (i : Int))) := by
  obtain ⟨ad', he, e0⟩ := Kd.at_int (Kd.C_below h.came h.bel) (i : Int) (by omega) (by omega)
  cases he
  simpa using e0
end
theorem firRun {oi : Oper} {a : Act} {w : World} {b1 : Operand} {y : Int} {p1 p2 p3 p4 p5 p6 : Value} {tf : Tmp} {ts : Array TypeId} (hop : oi.op = .call { callee := .value (.tmp tf), args := #[b1], argTypes := ts }) (hf : a.eval (.tmp tf) = .func (.func 69) #[] #[p1, p2, p3, p4, p5, p6]) (hb1 : a.eval b1 = .int .i64 y) :
    (execOp a.eval oi).run Try.prog w = .ok (.enter 69 #[.int .i64 y, p1, p2, p3, p4, p5, p6]) w := by
  have he := enters_ (f := 69) Try.func69 (by kernel_rfl) rfl #[.int .i64 y, p1, p2, p3, p4, p5, p6] w
  unfold execOp
  simp [hop, resolve, Deferred.ofValue, invoke, hb1, hf, he]
theorem pow7 {p p' : Nat} (h : p' + 1 = p) : 7 ^ p' = 7 ^ (p - 1) ∧ 7 ^ p = 7 * 7 ^ p' := by
  subst h
  exact ⟨by simp, by rw [Nat.pow_succ]; omega⟩
theorem pz_pos_all : (List.range 64).all (fun (a : Nat) => (List.range 64).all fun (c : Nat) => (Go.bits .andNot .i64 (a : Int) (c : Int) == 0) || decide (1 ≤ pz c)) = true := by decide +kernel
theorem pz_pos {a c : Nat} (ha : a < 64) (hc : c < 64) (h : ¬ Go.bits .andNot .i64 (a : Int) (c : Int) = 0) : 1 ≤ pz c := by
  have h2 := List.all_eq_true.mp (List.all_eq_true.mp pz_pos_all a (by simpa using ha)) c (by simpa using hc)
  rw [beq_eq_false_iff_ne.mpr h, Bool.false_or, decide_eq_true_eq] at h2
  exact h2
theorem res69 : Try.f69.results = #[.cell 8 25] := rfl
def firT.T14 : Bool × List (List Nat × List Nat) := (true, [([], []), ([], []), ([], []), ([1, 2], [1, 2]), ([3], [3]), ([], []), ([], []), ([5, 6], [5, 6]), ([4, 7, 7], [4, 7]), ([], []), ([], []), ([], []), ([11], [11]), ([10, 12], [10, 12]), ([9, 13, 8], [9, 13]), ([8, 14, 14], [8, 14]), ([0, 15, 15], [0, 15]), ([16, 16, 0, 1, 2, 3, 4, 5, 6, 7, 8, 9, 10, 11, 12, 13, 14, 15, 16], [16])])
def firT.B14 : List Nat := [0, 0, 0, 6, 14, 0, 0, 96, 254, 0, 0, 0, 2048, 7168, 16382, 32766, 65535, 131071]
theorem firT.tab14 : rtab .any (opsOf Try.f69 14) = firT.T14 := by kernel_rfl
theorem firT.bits14 : waitsOk firT.T14.2 firT.B14 = true := by kernel_rfl
set_option maxRecDepth 100000 in
set_option maxHeartbeats 16000000 in
theorem first1.calls {w0 : World} {gb ga gk gw gx gf mb : Nat} {A : Option Addr} {c : Nat} {l : List Int} {a b : Int} (hl6 : l.length ≤ 6) (an bn : Nat) (haI : a = (an : Int)) (hbI : b = (bn : Int)) (ha64 : an < 64) (hb64 : bn < 64) : ∀ (k o N : Nat) (O : Int) (D : DataW Unit) (W : World) (n d : Int), O = (o : Int) → o < 64 → N + 7 ^ pz o ≤ 1000000 →
    packets_First1.f k l a b O = some (n, d) → FSt w0 gb ga gk gw gx gf mb N D A c l a b W → MemoF l a b D →
    Calls Try.prog 69 #[.int .i64 O, .pointer (some ⟨gb, 0, none⟩), .pointer (some ⟨ga, 0, none⟩), .pointer (some ⟨gk, 0, none⟩), .pointer (some ⟨gw, 0, none⟩), .pointer (some ⟨gx, 0, none⟩), .pointer (some ⟨gf, 0, none⟩)] W fun e W' => e = .returned (.agg #[.int .i64 n, .int .i64 d]) ∧ ∃ (N' : Nat) (D' : DataW Unit), N' ≤ N + 7 ^ pz o ∧ FSt w0 gb ga gk gw gx gf mb N' D' A c l a b W' ∧ MemoF l a b D' ∧ Elder mb W W' := by
  intro k
  induction k using Nat.strongRecOn with
  | ind k ih =>
  intro o N O D W n d hO ho hN hf hV hM
  cases k with
  | zero => rw [packets_First1.f] at hf; cases hf
  | succ k =>
  have HFF : Aside0 (packets_First1.f (k + 1) l a b (o : Int) = some (n, d)) := ⟨hO ▸ hf⟩
  rw [packets_First1.f] at hf
  have hu25 := Try.underlying25
  have HO := Aside0.mk hO
  have HOA := Aside0.mk ho
  have HN := Aside0.mk hN
  have HV := Aside0.mk hV
  have HM := Aside0.mk hM
  have HAB := Aside0.mk (And.intro (And.intro haI hbI) (And.intro ha64 hb64))
  obtain ⟨u1, hu1⟩ : ∃ u1 : Int, Go.bits .andNot .i64 b O = u1 := ⟨_, rfl⟩
  obtain ⟨u2, hu2⟩ : ∃ u2 : Int, Go.bits .andNot .i64 a O = u2 := ⟨_, rfl⟩
  rw [hu1, hu2] at hf
  have cb_ := blk_cell hV.bb 0
  have ca_ := blk_cell hV.ba 0
  have ck_ := blk_cell hV.bk 0
  have cw_ := blk_cell hV.bw 0
  have cx_ := blk_cell hV.bx 0
  have cf_ := blk_cell hV.bf 0
  have lb_ := blk_lt hV.bb
  have la_ := blk_lt hV.ba
  have lk_ := blk_lt hV.bk
  have lw_ := blk_lt hV.bw
  have lx_ := blk_lt hV.bx
  have lf_ := blk_lt hV.bf
  have HNB := Aside0.mk (fun n (hb : W.heap.size ≤ n) => hV.new hb)
  clear hO ho hN hV hM haI hbI ha64 hb64
  by_cases h0 : u1 = 0
  · rw [if_pos h0] at hf
    have h0b : (u1 == 0) = true := beq_iff_eq.mpr h0
    have HR := Aside0.mk (Option.some.inj hf)
    clear hf h0
    go_enter Try.func69, Try.ntmps69
    go_wp2_with fail
    refine (packets_whole.calls 0 0 1 _ rfl).mono ?_
    rintro e w1 ⟨rfl, hb⟩
    have B8 := Aside0.mk (blk_below (blk_new W (.cells #[.int .i64 0, .int .i64 0] 25)) hb)
    have HV1 := Aside0.mk ((HV.out.alloc _).below hb)
    have HE1 := Aside0.mk (((Elder.refl mb W).below (below_alloc (Below.refl _ _) _)).below hb)
    have c80_ := blk_cell B8.out 0
    have c81_ := blk_cell B8.out 1
    have f80_ := blk_frozen B8.out 0
    have f81_ := blk_frozen B8.out 1
    clear hb
    go_wp2_with fail
    (try simp only [Exit.inBlock, Exit.then])
    refine bodyPost_ret (by simp [results, res69, go_sem, c80_, c81_]; try rfl) rfl ?_
    obtain ⟨e1, e2⟩ := Prod.mk.inj HR.out
    subst e1 e2
    exact ⟨rfl, N, D, Nat.le_add_right _ _, (HV1.out.set (HNB.out _ (Nat.le_refl _)) _).set (HNB.out _ (Nat.le_refl _)) _, HM.out, (HE1.out.set (Nat.le_refl _) _).set (Nat.le_refl _) _⟩
  · rw [if_neg h0] at hf
    have h0b : (u1 == 0) = false := beq_eq_false_iff_ne.mpr h0
    have HPP : Aside0 (1 ≤ pz o) := ⟨pz_pos HAB.out.2.2 HOA.out (by rw [← HAB.out.1.2, ← HO.out, hu1]; exact h0)⟩
    clear h0
    by_cases h1 : u2 = 0
    · rw [if_pos h1] at hf
      have h1b : (u2 == 0) = true := beq_iff_eq.mpr h1
      have HR := Aside0.mk (Option.some.inj hf)
      clear hf h1
      go_enter Try.func69, Try.ntmps69
      go_wp2_with fail
      refine (packets_whole.calls 1 1 1 _ rfl).mono ?_
      rintro e w1 ⟨rfl, hb⟩
      have B8 := Aside0.mk (blk_below (blk_new W (.cells #[.int .i64 0, .int .i64 0] 25)) hb)
      have HV1 := Aside0.mk ((HV.out.alloc _).below hb)
      have HE1 := Aside0.mk (((Elder.refl mb W).below (below_alloc (Below.refl _ _) _)).below hb)
      have c80_ := blk_cell B8.out 0
      have c81_ := blk_cell B8.out 1
      have f80_ := blk_frozen B8.out 0
      have f81_ := blk_frozen B8.out 1
      clear hb
      go_wp2_with fail
      (try simp only [Exit.inBlock, Exit.then])
      refine bodyPost_ret (by simp [results, res69, go_sem, c80_, c81_]; try rfl) rfl ?_
      obtain ⟨e1, e2⟩ := Prod.mk.inj HR.out
      subst e1 e2
      exact ⟨rfl, N, D, Nat.le_add_right _ _, (HV1.out.set (HNB.out _ (Nat.le_refl _)) _).set (HNB.out _ (Nat.le_refl _)) _, HM.out, (HE1.out.set (Nat.le_refl _) _).set (Nat.le_refl _) _⟩
    · rw [if_neg h1] at hf
      have h1b : (u2 == 0) = false := beq_eq_false_iff_ne.mpr h1
      have HF := Aside0.mk hf
      have HKY : Aside0 (keyOf Try.prog 3 (.int .i64 O) = some (keyF o)) := ⟨by rw [HO.out]; exact keyOfF o HOA.out⟩
      obtain ⟨q, hq⟩ : ∃ q, has D (keyF o) = q := ⟨_, rfl⟩
      have HQ := Aside0.mk hq
      clear hf h1
      cases q with
      | true =>
        go_enter Try.func69, Try.ntmps69
        go_wp2_with (first | (at_lookup; refine wpList_lookup_frac rfl _ _ 64 rfl 3 lawF Try.underlying64 mb N D rfl (HV.out.alloc _).mp (.int .i64 O) (keyF o) rfl HKY.out ?_; intro cN cD hat; have HAT := Aside0.mk hat; clear hat; rw [hq]))
        (try simp only [Exit.inBlock, Exit.then])
        refine bodyPost_ret (by simp [results, res69, go_sem]; try rfl) rfl ?_
        obtain ⟨k2, n2, d2, hf2, hat2⟩ := HM.out.at_ o HOA.out HQ.out
        obtain ⟨e1, e2⟩ := frD_inj (HAT.out.symm.trans hat2)
        obtain ⟨e3, e4⟩ := Prod.mk.inj (First1_det HFF.out hf2)
        refine ⟨by rw [e1, e2, ← e3, ← e4], N, D, Nat.le_add_right _ _, ?_, HM.out, ?_⟩
        · exact (HV.out.alloc _).alloc _
        · exact ((Elder.refl mb W).below (below_alloc (Below.refl _ _) _)).below (below_alloc (Below.refl _ _) _)
      | false =>
        obtain ⟨ab, hab⟩ : ∃ ab : Int, Go.bits .or .i64 a b = ab := ⟨_, rfl⟩
        obtain ⟨m, hm⟩ : ∃ m : Int, Go.bits .andNot .i64 ab O = m := ⟨_, rfl⟩
        obtain ⟨abn, habn, hab64⟩ := orF HAB.out.2.1 HAB.out.2.2
        rw [← HAB.out.1.1, ← HAB.out.1.2, hab] at habn
        have HABN := Aside0.mk (And.intro habn hab64)
        clear habn hab64
        go_enter Try.func69, Try.ntmps69
        go_wp2_with (first | (at_lookup; refine wpList_lookup_frac rfl _ _ 64 rfl 3 lawF Try.underlying64 mb N D rfl (HV.out.alloc _).mp (.int .i64 O) (keyF o) rfl HKY.out ?_; intro cN cD hat; have HAT := Aside0.mk hat; clear hat; rw [hq]))
        refine (packets_whole.calls 0 0 1 _ rfl).mono ?_
        rintro e w4 ⟨rfl, hb⟩
        have HV4 := Aside0.mk (((HV.out.alloc (.cells #[.int .i64 0, .int .i64 0] 25)).alloc (.cells #[.int .i64 cN, .int .i64 cD] 25)).below hb)
        have HE4 := Aside0.mk ((((Elder.refl mb W).below (below_alloc (Below.refl _ _) (.cells #[.int .i64 0, .int .i64 0] 25))).below (below_alloc (Below.refl _ _) (.cells #[.int .i64 cN, .int .i64 cD] 25))).below hb)
        have B8 := Aside0.mk (blk_below (blk_alloc (blk_new W (.cells #[.int .i64 0, .int .i64 0] 25)) (.cells #[.int .i64 cN, .int .i64 cD] 25)) hb)
        clear cb_ ca_ ck_ cw_ cx_ cf_ lb_ la_ lk_ lw_ lx_ lf_ HAT hb
        have cw_ := blk_cell HV4.out.bw 0
        have lw_ := blk_lt HV4.out.bw
        have HG12 := Aside0.mk (HV4.out.new (Nat.le_refl _))
        have HG12e : Aside0 (W.heap.size < w4.heap.size) := ⟨blk_lt B8.out⟩
        go_wp2_with fail
        have HV5 := Aside0.mk (HV4.out.alloc (.cells #[.int .i64 0, .int .i64 1] 25))
        have HE5 := Aside0.mk (HE4.out.below (below_alloc (Below.refl _ _) (.cells #[.int .i64 0, .int .i64 1] 25)))
        have B8b := Aside0.mk (blk_alloc B8.out (.cells #[.int .i64 0, .int .i64 1] 25))
        have B12b := Aside0.mk (blk_new w4 (.cells #[.int .i64 0, .int .i64 1] 25))
        clear HV4 HE4 B8 lw_
        go_loopw [42] (fun v42 W1 => ∃ (kq i N1 : Nat) (D1 : DataW Unit) (t1 t2 : Int), v42 = .int .i64 (i : Int) ∧ i ≤ l.length ∧ Aside0 (kq ≤ k) ∧ Aside0 (packets_First1.l0 kq l a b O (i : Int) t1 t2 = some (n, d)) ∧ Aside0 (N1 ≤ N + i * 7 ^ (pz o - 1)) ∧ Aside0 (FSt w0 gb ga gk gw gx gf mb N1 D1 A c l a b W1) ∧ Aside0 (MemoF l a b D1) ∧ Aside0 (Elder mb W W1) ∧ Aside0 (W1.heap[W.heap.size]? = some (.cells #[.int .i64 0, .int .i64 0] 25 (0, 0))) ∧ Aside0 (W1.heap[w4.heap.size]? = some (.cells #[.int .i64 t1, .int .i64 t2] 25 (0, 0)))) (fun v42 _ => l.length - (intOf v42).toNat)
        case atStart => exact ⟨k, 0, N, D, 0, 1, rfl, by omega, ⟨Nat.le_refl _⟩, HF, ⟨by omega⟩, HV5, HM, HE5, B8b, B12b⟩
        case round =>
          clear cw_ HV5 HE5 B8b B12b HM HF HV
          obtain ⟨kq, i, N1, D1, t1, t2, rfl, hi, HK, HL1, HN1, HV, HM, HE, B8, B12⟩ := hrel
          cases kq with
          | zero => exact absurd HL1.out (by simp [packets_First1.l0])
          | succ kq =>
          by_cases hil : i < l.length
          · have hib : decide ((i : Int) < (l.length : Int)) = true := decide_eq_true (by omega)
            have hip : ((i : Int) < (l.length : Int)) = True := eq_true (by omega)
            have p0_ : (0 ≤ (i : Int)) = True := eq_true (by omega)
            have q2_ : (i < l.length) = True := eq_true hil
            have HWR : Aside0 (wrap64 ((i : Int) + 1) = ((i + 1 : Nat) : Int)) := ⟨by unfold wrap64; omega⟩
            have h1 := HL1.out
            rw [packets_First1.l0, if_pos (of_decide_eq_true hib), hab, hm] at h1
            obtain ⟨r1, hr1⟩ : ∃ r1 : Int, shr .i64 m (i : Int) = r1 := ⟨_, rfl⟩
            rw [hr1] at h1
            have hr1c : (m / 2 ^ i) = r1 := shr_small hr1 (by show (i : Int) ≤ 64; omega)
            by_cases hb1 : Go.bits .and .i64 r1 1 = 1
            · have hb1b : (Go.bits .and .i64 r1 1 == 1) = true := beq_iff_eq.mpr hb1
              rw [if_pos hb1] at h1
              obtain ⟨f1, f2, f3⟩ := factF_at HABN.out.2 HOA.out (i := i) (by omega) (by rw [← HABN.out.1, ← HO.out, hm, hr1]; exact hb1)
              rw [← HO.out] at f1
              obtain ⟨p, hp⟩ : ∃ p : Int, shl .i64 1 (i : Int) = p := ⟨_, rfl⟩
              obtain ⟨o2, ho2⟩ : ∃ o2 : Nat, o + 2 ^ i = o2 := ⟨_, rfl⟩
              rw [ho2] at f1 f2 f3
              obtain ⟨O2, hO2⟩ : ∃ O2 : Int, O2 = (o2 : Int) := ⟨_, rfl⟩
              rw [hp, ← hO2] at f1
              rw [hp, f1] at h1
              have HO2 := Aside0.mk (And.intro hO2 f2)
              have HPC := Aside0.mk f3
              have hpa : (IntKind.i64.wrap (1 * 2 ^ i)) = p := shl_small hp (by show (i : Int) ≤ 64; omega)
              have hpb : (wrap64 (2 ^ i)) = p := by rw [← hpa, i64_w, Int.one_mul]
              have HL2 := Aside0.mk h1
              have HIL := Aside0.mk hil
              clear h1 hb1 hr1 f2 f3 hO2 ho2 hpa hp
              have cw_ := blk_cell HV.out.bw 0
              go_wp2_with fail
              obtain ⟨x2, hx2, h1⟩ := Option.bind_eq_some_iff.mp HL2.out
              obtain ⟨⟨y1, y2⟩, hy2, h1⟩ := Option.bind_eq_some_iff.mp h1
              obtain ⟨⟨z1, z2⟩, hz2, h1⟩ := Option.bind_eq_some_iff.mp h1
              obtain ⟨⟨q1, q2⟩, hu2_, h1⟩ := Option.bind_eq_some_iff.mp h1
              obtain ⟨⟨v1, v2⟩, hw2, h1⟩ := Option.bind_eq_some_iff.mp h1
              obtain ⟨wi, hwi⟩ : ∃ wi : Int, rd l (i : Int) = wi := ⟨_, rfl⟩
              rw [hwi] at hy2
              obtain ⟨ad, rfl, -⟩ := Kd.at_int (Kd.C_below HV.out.came HV.out.bel) (i : Int) (by omega) (by omega)
              have HWI := Aside0.mk hwi
              have HX2 := Aside0.mk hx2
              have HY2 := Aside0.mk hy2
              have HZ2 := Aside0.mk hz2
              have HU2 := Aside0.mk hu2_
              have HW2 := Aside0.mk hw2
              have HL3 := Aside0.mk h1
              have HNE : Aside0 (W.heap.size ≠ mb ∧ w4.heap.size ≠ mb) := ⟨(by have := (HNB.out W.heap.size (Nat.le_refl _)).m; have := HG12.out.m; omega)⟩
              have HNN : Aside0 (N1 + 7 ^ pz o2 ≤ 1000000) := ⟨by
                obtain ⟨e1, e2⟩ := pow7 HPC.out
                have h3 := HN1.out
                rw [← e1] at h3
                have h4 := HN.out
                rw [e2] at h4
                have h5 : i * 7 ^ pz o2 ≤ 5 * 7 ^ pz o2 := Nat.mul_le_mul_right _ (by have := HIL.out; omega)
                omega⟩
              clear hx2 hy2 hz2 hu2_ hw2 h1 hwi HL2
              replace HV := Aside0.mk (HV.out.below (below_drew (Below.refl _ _)))
              replace HE := Aside0.mk (HE.out.below (below_drew (Below.refl _ _)))
              replace B8 := Aside0.mk (blk_below B8.out (below_drew (Below.refl _ _)))
              replace B12 := Aside0.mk (blk_below B12.out (below_drew (Below.refl _ _)))
              clear cw_
              refine start_ (n := 18) (S := PS6 w4.heap.size t1 t2 gw (.slice (some ad) l.length c) (ad.add i) wi gx gf (.func (.func 69) #[] #[.pointer (some ⟨gb, 0, none⟩), .pointer (some ⟨ga, 0, none⟩), .pointer (some ⟨gk, 0, none⟩), .pointer (some ⟨gw, 0, none⟩), .pointer (some ⟨gx, 0, none⟩), .pointer (some ⟨gf, 0, none⟩)])) (ds := [17]) #[false, false, false, false, false, false, false, false, false, false, false, false, false, false, false, false, false, false] (by kernel_rfl) rfl rfl ⟨blk_cell B12.out 0, blk_cell B12.out 1, blk_cell HV.out.bw 0, (HV.out.el i HIL.out).trans (by rw [HWI.out]), blk_cell HV.out.bx 0, blk_cell HV.out.bf 0⟩ (fun hHeld => ?_)
              refine with_tabW firT.tab14 firT.bits14 (fun HT_ HW_ => ?_)
              generalize (World.drew _) = Wd at HV HE B8 B12 hHeld ⊢
              refine take_ (i := 0) (N := some 50) (v := ?_) (a' := ?_) #[true, false, false, false, false, false, false, false, false, false, false, false, false, false, false, false, false, false] rfl rfl (take_ofW HT_.out HW_.out (by kernel_rfl)) (fun _ _ _ h => h) (Or.inl ⟨by rfl, ?_⟩) hHeld ?_ ?_
              rotate_left
              · rintro w' ⟨s0, s1, s2, s3, s4, s5⟩
                go_simp
                with_reducible rfl
              rotate_left
              · simp only [Act.put, List.setIfInBounds_toArray, List.set_cons_zero, List.set_cons_succ, i64_w, i32_w]
                rfl
              refine take_ (i := 1) (N := some 51) (v := ?_) (a' := ?_) #[true, true, false, false, false, false, false, false, false, false, false, false, false, false, false, false, false, false] rfl rfl (take_ofW HT_.out HW_.out (by kernel_rfl)) (fun _ _ _ h => h) (Or.inl ⟨by rfl, ?_⟩) hHeld ?_ ?_
              rotate_left
              · rintro w' ⟨s0, s1, s2, s3, s4, s5⟩
                go_simp
                with_reducible rfl
              rotate_left
              · simp only [Act.put, List.setIfInBounds_toArray, List.set_cons_zero, List.set_cons_succ, i64_w, i32_w]
                rfl
              refine pure_ (i := 2) (N := some 52) (v := ?_) (a' := ?_) #[true, true, true, false, false, false, false, false, false, false, false, false, false, false, false, false, false, false] rfl rfl (any_of HT_.out (by kernel_rfl)) (fun _ _ _ h => h) (Or.inl ⟨by rfl, ?_⟩) ?_ ?_
              rotate_left
              · intro w'
                go_simp
                with_reducible rfl
              rotate_left
              · simp only [Act.put, List.setIfInBounds_toArray, List.set_cons_zero, List.set_cons_succ, i64_w, i32_w]
                rfl
              refine pure_ (i := 3) (N := some 53) (v := ?_) (a' := ?_) #[true, true, true, true, false, false, false, false, false, false, false, false, false, false, false, false, false, false] rfl rfl (any_of HT_.out (by kernel_rfl)) (fun _ _ _ h => h) (Or.inl ⟨by rfl, ?_⟩) ?_ ?_
              rotate_left
              · intro w'
                go_simp
                with_reducible rfl
              rotate_left
              · simp only [Act.put, List.setIfInBounds_toArray, List.set_cons_zero, List.set_cons_succ, i64_w, i32_w]
                rfl
              refine take_ (i := 4) (N := some 54) (v := ?_) (a' := ?_) #[true, true, true, true, true, false, false, false, false, false, false, false, false, false, false, false, false, false] rfl rfl (take_ofW HT_.out HW_.out (by kernel_rfl)) (fun _ _ _ h => h) (Or.inl ⟨by rfl, ?_⟩) hHeld ?_ ?_
              rotate_left
              · rintro w' ⟨s0, s1, s2, s3, s4, s5⟩
                go_simp
                with_reducible rfl
              rotate_left
              · simp only [Act.put, List.setIfInBounds_toArray, List.set_cons_zero, List.set_cons_succ, i64_w, i32_w]
                rfl
              refine take_ (i := 5) (N := some 55) (v := ?_) (a' := ?_) #[true, true, true, true, true, true, false, false, false, false, false, false, false, false, false, false, false, false] rfl rfl (take_ofW HT_.out HW_.out (by kernel_rfl)) (fun _ _ _ h => h) (Or.inl ⟨by rfl, ?_⟩) hHeld ?_ ?_
              rotate_left
              · rintro w' ⟨s0, s1, s2, s3, s4, s5⟩
                go_simp
                with_reducible rfl
              rotate_left
              · simp only [Act.put, List.setIfInBounds_toArray, List.set_cons_zero, List.set_cons_succ, i64_w, i32_w]
                rfl
              refine pure_ (i := 6) (N := some 56) (v := ?_) (a' := ?_) #[true, true, true, true, true, true, true, false, false, false, false, false, false, false, false, false, false, false] rfl rfl (any_of HT_.out (by kernel_rfl)) (fun _ _ _ h => h) (Or.inl ⟨by rfl, ?_⟩) ?_ ?_
              rotate_left
              · intro w'
                go_simp
                with_reducible rfl
              rotate_left
              · simp only [Act.put, List.setIfInBounds_toArray, List.set_cons_zero, List.set_cons_succ, i64_w, i32_w]
                rfl
              refine take_ (i := 9) (N := some 59) (v := ?_) (a' := ?_) #[true, true, true, true, true, true, true, false, false, true, false, false, false, false, false, false, false, false] rfl rfl (take_ofW HT_.out HW_.out (by kernel_rfl)) (fun _ _ _ h => h) (Or.inl ⟨by rfl, ?_⟩) hHeld ?_ ?_
              rotate_left
              · rintro w' ⟨s0, s1, s2, s3, s4, s5⟩
                go_simp
                with_reducible rfl
              rotate_left
              · simp only [Act.put, List.setIfInBounds_toArray, List.set_cons_zero, List.set_cons_succ, i64_w, i32_w]
                rfl
              refine pure_ (i := 10) (N := some 60) (v := ?_) (a' := ?_) #[true, true, true, true, true, true, true, false, false, true, true, false, false, false, false, false, false, false] rfl rfl (any_of HT_.out (by kernel_rfl)) (fun _ _ _ h => h) (Or.inl ⟨by rfl, ?_⟩) ?_ ?_
              rotate_left
              · intro w'
                go_simp
                with_reducible rfl
              rotate_left
              · simp only [Act.put, List.setIfInBounds_toArray, List.set_cons_zero, List.set_cons_succ, i64_w, i32_w]
                rfl
              refine pure_ (i := 11) (N := some 61) (v := ?_) (a' := ?_) #[true, true, true, true, true, true, true, false, false, true, true, true, false, false, false, false, false, false] rfl rfl (any_of HT_.out (by kernel_rfl)) (fun _ _ _ h => h) (Or.inl ⟨by rfl, ?_⟩) ?_ ?_
              rotate_left
              · intro w'
                go_simp
                with_reducible rfl
              rotate_left
              · simp only [Act.put, List.setIfInBounds_toArray, List.set_cons_zero, List.set_cons_succ, i64_w, i32_w]
                rfl
              refine pure_ (i := 12) (N := some 62) (v := ?_) (a' := ?_) #[true, true, true, true, true, true, true, false, false, true, true, true, true, false, false, false, false, false] rfl rfl (any_of HT_.out (by kernel_rfl)) (fun _ _ _ h => h) (Or.inl ⟨by rfl, ?_⟩) ?_ ?_
              rotate_left
              · intro w'
                go_simp
                with_reducible rfl
              rotate_left
              · simp only [Act.put, List.setIfInBounds_toArray, List.set_cons_zero, List.set_cons_succ, i64_w, i32_w]
                rfl
              refine pure_ (i := 13) (N := some 63) (v := ?_) (a' := ?_) #[true, true, true, true, true, true, true, false, false, true, true, true, true, true, false, false, false, false] rfl rfl (any_of HT_.out (by kernel_rfl)) (fun _ _ _ h => h) (Or.inl ⟨by rfl, ?_⟩) ?_ ?_
              rotate_left
              · intro w'
                go_simp
                with_reducible rfl
              rotate_left
              · simp only [Act.put, List.setIfInBounds_toArray, List.set_cons_zero, List.set_cons_succ, i64_w, i32_w]
                rfl
              refine one_ (i := 7) (N := some 57) #[true, true, true, true, true, true, true, true, false, true, true, true, true, true, false, false, false, false] rfl rfl (one_of HT_.out (by kernel_rfl)) (by decide) (fun K hK => ?_)
              refine goes_ Try.func54 (by kernel_rfl) rfl #[.slice (some ad) l.length c, .int .i64 m] (by rfl) rfl rfl (by (try simp only [List.map_toArray, List.map_cons, List.map_nil]); first | done | rfl | (simp only [List.length_drop, List.length_take]; rfl)) ?_
              refine (of_below kq (some ad) c l m x2 _ (Kd.C_below HV.out.came HV.out.bel) HV.out.hc HX2.out).mono ?_
              rintro e wr1 ⟨rfl, hb⟩
              refine ⟨_, rfl, ?_⟩
              replace HV := Aside0.mk (HV.out.below hb)
              replace HE := Aside0.mk (HE.out.below hb)
              replace B8 := Aside0.mk (blk_below B8.out hb)
              replace B12 := Aside0.mk (blk_below B12.out hb)
              refine hK.out _ _ (PS6.below hHeld hb) (fun hHeld => ?_)
              clear hK K hb
              refine norm_ (a' := ?_) ?_ ?_
              rotate_left
              · show Act.put _ (some 57) _ = _
                simp only [Act.put, List.setIfInBounds_toArray, List.set_cons_zero, List.set_cons_succ, i64_w, i32_w]
                rfl
              refine one_ (i := 8) (N := some 58) #[true, true, true, true, true, true, true, true, true, true, true, true, true, true, false, false, false, false] rfl rfl (one_of HT_.out (by kernel_rfl)) (by decide) (fun K hK => ?_)
              refine goes_ Try.func52 (by kernel_rfl) rfl #[.int .i64 wi, .int .i64 x2] (by rfl) rfl rfl (by (try simp only [List.map_toArray, List.map_cons, List.map_nil]); first | done | rfl | (simp only [List.length_drop, List.length_take]; rfl)) ?_
              refine (packets_frac.calls kq wi x2 y1 y2 _ HY2.out).mono ?_
              rintro e wr2 ⟨rfl, hb⟩
              refine ⟨_, rfl, ?_⟩
              replace HV := Aside0.mk (HV.out.below hb)
              replace HE := Aside0.mk (HE.out.below hb)
              replace B8 := Aside0.mk (blk_below B8.out hb)
              replace B12 := Aside0.mk (blk_below B12.out hb)
              refine hK.out _ _ (PS6.below hHeld hb) (fun hHeld => ?_)
              clear hK K hb
              refine norm_ (a' := ?_) ?_ ?_
              rotate_left
              · show Act.put _ (some 58) _ = _
                simp only [Act.put, List.setIfInBounds_toArray, List.set_cons_zero, List.set_cons_succ, i64_w, i32_w]
                rfl
              refine one_ (i := 14) (N := some 64) #[true, true, true, true, true, true, true, true, true, true, true, true, true, true, true, false, false, false] rfl rfl (one_of HT_.out (by kernel_rfl)) (by decide) (fun K hK => ?_)
              refine call_ 69 #[.int .i64 O2, .pointer (some ⟨gb, 0, none⟩), .pointer (some ⟨ga, 0, none⟩), .pointer (some ⟨gk, 0, none⟩), .pointer (some ⟨gw, 0, none⟩), .pointer (some ⟨gx, 0, none⟩), .pointer (some ⟨gf, 0, none⟩)] (by rfl) rfl ?_ ?_
              · exact firRun rfl rfl rfl
              refine (ih kq (by have := HK.out; omega) o2 N1 O2 D1 _ z1 z2 HO2.out.1 HO2.out.2 HNN.out HZ2.out HV.out HM.out).mono ?_
              rintro e wz ⟨rfl, N2, D2, hN2, hV2, hM2, hE2⟩
              refine ⟨_, rfl, ?_⟩
              replace HV := Aside0.mk hV2
              replace HE := Aside0.mk (HE.out.trans hE2)
              replace HM := Aside0.mk hM2
              replace B8 := Aside0.mk (hE2.2 _ _ HNE.out.1 B8.out)
              replace B12 := Aside0.mk (hE2.2 _ _ HNE.out.2 B12.out)
              have HN2 := Aside0.mk hN2
              clear hV2 hM2 hE2 hN2
              refine hK.out _ _ ⟨blk_cell B12.out 0, blk_cell B12.out 1, blk_cell HV.out.bw 0, (HV.out.el i HIL.out).trans (by rw [HWI.out]), blk_cell HV.out.bx 0, blk_cell HV.out.bf 0⟩ (fun hHeld => ?_)
              clear hK K
              refine norm_ (a' := ?_) ?_ ?_
              rotate_left
              · show Act.put _ (some 64) _ = _
                simp only [Act.put, List.setIfInBounds_toArray, List.set_cons_zero, List.set_cons_succ, i64_w, i32_w]
                rfl
              refine one_ (i := 15) (N := some 65) #[true, true, true, true, true, true, true, true, true, true, true, true, true, true, true, true, false, false] rfl rfl (one_of HT_.out (by kernel_rfl)) (by decide) (fun K hK => ?_)
              refine goes_ Try.func70 (by kernel_rfl) rfl #[.agg #[.int .i64 y1, .int .i64 y2], .agg #[.int .i64 z1, .int .i64 z2]] (by rfl) rfl rfl (by (try simp only [List.map_toArray, List.map_cons, List.map_nil]); first | done | rfl | (simp only [List.length_drop, List.length_take]; rfl)) ?_
              refine (packets_times.calls kq y1 y2 z1 z2 q1 q2 _ HU2.out).mono ?_
              rintro e wr3 ⟨rfl, hb⟩
              refine ⟨_, rfl, ?_⟩
              replace HV := Aside0.mk (HV.out.below hb)
              replace HE := Aside0.mk (HE.out.below hb)
              replace B8 := Aside0.mk (blk_below B8.out hb)
              replace B12 := Aside0.mk (blk_below B12.out hb)
              refine hK.out _ _ (PS6.below hHeld hb) (fun hHeld => ?_)
              clear hK K hb
              refine norm_ (a' := ?_) ?_ ?_
              rotate_left
              · show Act.put _ (some 65) _ = _
                simp only [Act.put, List.setIfInBounds_toArray, List.set_cons_zero, List.set_cons_succ, i64_w, i32_w]
                rfl
              refine one_ (i := 16) (N := some 66) #[true, true, true, true, true, true, true, true, true, true, true, true, true, true, true, true, true, false] rfl rfl (one_of HT_.out (by kernel_rfl)) (by decide) (fun K hK => ?_)
              refine goes_ Try.func51 (by kernel_rfl) rfl #[.agg #[.int .i64 t1, .int .i64 t2], .agg #[.int .i64 q1, .int .i64 q2]] (by rfl) rfl rfl (by (try simp only [List.map_toArray, List.map_cons, List.map_nil]); first | done | rfl | (simp only [List.length_drop, List.length_take]; rfl)) ?_
              refine (packets_plus.calls kq t1 t2 q1 q2 v1 v2 _ HW2.out).mono ?_
              rintro e wr4 ⟨rfl, hb⟩
              refine ⟨_, rfl, ?_⟩
              replace HV := Aside0.mk (HV.out.below hb)
              replace HE := Aside0.mk (HE.out.below hb)
              replace B8 := Aside0.mk (blk_below B8.out hb)
              replace B12 := Aside0.mk (blk_below B12.out hb)
              refine hK.out _ _ (PS6.below hHeld hb) (fun hHeld => ?_)
              clear hK K hb
              refine norm_ (a' := ?_) ?_ ?_
              rotate_left
              · show Act.put _ (some 66) _ = _
                simp only [Act.put, List.setIfInBounds_toArray, List.set_cons_zero, List.set_cons_succ, i64_w, i32_w]
                rfl
              refine last_ (i := 17) (N := none) #[true, true, true, true, true, true, true, true, true, true, true, true, true, true, true, true, true, true] rfl rfl (one_of HT_.out (by kernel_rfl)) (by decide) (fun K hK => ?_)
              have hs0_ := blk_cell B12.out 0
              have hs1_ := blk_cell B12.out 1
              have fs0_ := blk_frozen B12.out 0
              have fs1_ := blk_frozen B12.out 1
              refine skip_ (w1 := ?_) (by rfl) rfl ?_ ?_
              rotate_left
              · go_simp
                rfl
              refine hK.out _ _ ?_
              clear hK K
              refine done_ (done_of HT_.out (by kernel_rfl)) ?_
              clear hs0_ hs1_ fs0_ fs1_
              replace HV := Aside0.mk ((HV.out.set (i := 0) HG12.out (.int .i64 v1)).set (i := 1) HG12.out (.int .i64 v2))
              replace HE := Aside0.mk ((HE.out.set (i := 0) (Nat.le_of_lt HG12e.out) (.int .i64 v1)).set (i := 1) (Nat.le_of_lt HG12e.out) (.int .i64 v2))
              replace B8 := Aside0.mk (blk_far (blk_far B8.out (p := ⟨w4.heap.size, 0, none⟩) (by have := HG12e.out; show W.heap.size ≠ w4.heap.size; omega) (.int .i64 v1)) (p := ⟨w4.heap.size, 1, none⟩) (by have := HG12e.out; show W.heap.size ≠ w4.heap.size; omega) (.int .i64 v2))
              replace B12 := Aside0.mk (blk_put (blk_put B12.out 0 (.int .i64 v1) rfl) 1 (.int .i64 v2) rfl)
              generalize ((World.setCell _ _ _).setCell _ _) = We at HV HE B8 B12 ⊢
              go_wp2_with fail
              refine ⟨⟨kq, i + 1, N2, D2, v1, v2, by first | rfl | (rw [HWR.out]), by have := HIL.out; omega, ⟨by have := HK.out; omega⟩, HL3, ⟨?_⟩, HV, HM, HE, B8, B12⟩, ?_⟩
              · obtain ⟨e1, e2⟩ := pow7 HPC.out
                have h3 := HN1.out
                have h4 := HN2.out
                rw [e1] at h4
                rw [Nat.add_mul, Nat.one_mul]
                omega
              · simp only [intOf]; have := HIL.out; omega
            · have hb1b : (Go.bits .and .i64 r1 1 == 1) = false := beq_eq_false_iff_ne.mpr hb1
              rw [if_neg hb1] at h1
              have HL2 := Aside0.mk h1
              have HIL := Aside0.mk hil
              clear h1 hb1 hr1
              go_wp2_with fail
              refine ⟨⟨kq, i + 1, N1, D1, t1, t2, by first | rfl | (rw [HWR.out]), by have := HIL.out; omega, ⟨by have := HK.out; omega⟩, HL2, ⟨Nat.le_trans HN1.out (Nat.add_le_add_left (Nat.mul_le_mul_right _ (Nat.le_succ i)) N)⟩, HV, HM, HE, B8, B12⟩, ?_⟩
              simp only [intOf]; have := HIL.out; omega
          · have hib : decide ((i : Int) < (l.length : Int)) = false := decide_eq_false (by omega)
            have hip : ((i : Int) < (l.length : Int)) = False := eq_false (by omega)
            have q2_ : (i < l.length) = False := eq_false hil
            have h1 := HL1.out
            rw [packets_First1.l0, if_neg (by omega)] at h1
            obtain ⟨e1, e2⟩ := Prod.mk.inj (Option.some.inj h1)
            subst e1 e2
            clear h1 HL1 hil
            have ck_ := blk_cell HV.out.bk 0
            have c120_ := blk_cell B12.out 0
            have c121_ := blk_cell B12.out 1
            have HNM : Aside0 (N1 < maxLen) := ⟨by
              obtain ⟨q1, q2⟩ := pow7 (p' := pz o - 1) (p := pz o) (by have := HPP.out; omega)
              have h3 := HN1.out
              have h4 := HN.out
              have h5 : i * 7 ^ (pz o - 1) ≤ 6 * 7 ^ (pz o - 1) := Nat.mul_le_mul_right _ (by omega)
              simp [maxLen]
              omega⟩
            have HNQ : Aside0 (N1 + 1 ≤ N + 7 ^ pz o) := ⟨by
              obtain ⟨q1, q2⟩ := pow7 (p' := pz o - 1) (p := pz o) (by have := HPP.out; omega)
              have h3 := HN1.out
              have h5 : i * 7 ^ (pz o - 1) ≤ 6 * 7 ^ (pz o - 1) := Nat.mul_le_mul_right _ (by omega)
              have h6 : 0 < 7 ^ (pz o - 1) := Nat.pow_pos (by omega)
              omega⟩
            have HNE : Aside0 (W.heap.size ≠ mb ∧ w4.heap.size ≠ mb) := ⟨(by have := (HNB.out W.heap.size (Nat.le_refl _)).m; have := HG12.out.m; omega)⟩
            go_wp2_with (first | (at_mapUpdate; refine wpList_mapUpdate_own _ rfl _ _ _ 64 rfl 3 25 lawF Try.underlying64 fracElem mb N1 D1 rfl HV.out.mp HNM.out (.int .i64 O) (.agg #[.int .i64 t1, .int .i64 t2]) (keyF o) rfl rfl HKY.out (frD t1 t2) [] (fracElem_mk t1 t2) ?_; intro w7 hown hgw; replace HV := Aside0.mk (HV.out.putm hown hgw); replace HE := Aside0.mk (HE.out.grown hgw); have B8b := Aside0.mk (blk_grown B8.out hgw (fun e => HNE.out.1 (Option.some.inj e))); have B12b := Aside0.mk (blk_grown B12.out hgw (fun e => HNE.out.2 (Option.some.inj e))); clear ck_ c120_ c121_ hown hgw; have c80_ := blk_cell B8b.out 0; have c81_ := blk_cell B8b.out 1; have f80_ := blk_frozen B8b.out 0; have f81_ := blk_frozen B8b.out 1; have c120_ := blk_cell B12b.out 0; have c121_ := blk_cell B12b.out 1))
            (try simp only [Exit.inBlock, Exit.then])
            refine bodyPost_ret (by simp [results, res69, go_sem, c80_, c81_]; try rfl) rfl ?_
            refine ⟨rfl, N1 + 1, _, HNQ.out, ((HV.out.set (i := 0) (HNB.out _ (Nat.le_refl _)) (.int .i64 t1)).set (i := 1) (HNB.out _ (Nat.le_refl _)) (.int .i64 t2)), HM.out.put HOA.out HFF.out, ((HE.out.set (i := 0) (Nat.le_refl _) (.int .i64 t1)).set (i := 1) (Nat.le_refl _) (.int .i64 t2))⟩
end Go.Proofs.Ytigmhomfadimnaa.X
