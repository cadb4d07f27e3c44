/- The contract of tags.Run, with the closure that it hands to tapes. -/
import Derived.Test.YtjmbjnobbeflfaaDoorQXC
import Derived.Test.YtjmbjnobbeflfaaDoorQHBoxes
import Derived.Laws.EntriesVeiled
set_option linter.unusedVariables false
set_option linter.unusedSimpArgs false
namespace Go.Proofs.YtjmbjnobbeflfaaDoor.X
open Go.RowKit Go.Proofs.YtjmbjnobbeflfaaDoorW.PrintWords Go.Proofs.YtjmbjnobbeflfaaDoorW.PrintLast Go.Proofs.YtjmbjnobbeflfaaDoorW.PrintMore
attribute [local go_sem] Oper.semAt_some
/-- What is known of the memory amid a run. -/
structure TSt (w0 : World) (gl gd gs : Nat) (n : Int) (t : ByteArray) (j : Int) (W : World) : Prop where
  bl : W.heap[gl]? = some (.cells #[.string t] 9 (0, 0))
  bd : W.heap[gd]? = some (.cells #[.int .i64 j] 3 (0, 0))
  bs : W.heap[gs]? = some (.cells #[.int .i64 n] 3 (0, 0))
  bel : Below w0.heap.size w0 W
  hl : w0.heap.size ≤ gl
  hd : w0.heap.size ≤ gd
  n1 : gl ≠ gd
  n2 : gl ≠ gs
  n3 : gd ≠ gs
theorem TSt.below {w0 : World} {gl gd gs : Nat} {n : Int} {t : ByteArray} {j : Int} {W W' : World} (h : TSt w0 gl gd gs n t j W) (hb : Below W.heap.size W W') : TSt w0 gl gd gs n t j W' :=
  ⟨blk_below h.bl hb, blk_below h.bd hb, blk_below h.bs hb, below_step h.bel hb, h.hl, h.hd, h.n1, h.n2, h.n3⟩
theorem TSt.alloc {w0 : World} {gl gd gs : Nat} {n : Int} {t : ByteArray} {j : Int} {W : World} (h : TSt w0 gl gd gs n t j W) (o : Obj) : TSt w0 gl gd gs n t j (W.alloc o) := h.below (below_alloc (Below.refl _ _) o)
theorem TSt.put {w0 : World} {gl gd gs : Nat} {n : Int} {t : ByteArray} {j : Int} {W : World} (h : TSt w0 gl gd gs n t j W) (t' : ByteArray) (k : Int) : TSt w0 gl gd gs n t' k ((W.setCell ⟨gl, 0, none⟩ (.string t')).setCell ⟨gd, 0, none⟩ (.int .i64 k)) :=
  ⟨blk_far (blk_put h.bl 0 _ rfl) h.n1 _, blk_put (blk_far h.bd h.n1.symm _) 0 _ rfl, blk_far (blk_far h.bs h.n2.symm _) h.n3.symm _, (h.bel.setCell h.hl _).setCell h.hd _, h.hl, h.hd, h.n1, h.n2, h.n3⟩
set_option maxRecDepth 100000 in
set_option maxHeartbeats 8000000 in
theorem run1.calls {w0 : World} {gl gd gs : Nat} {n : Int} {u : ByteArray} {j : Int} {W : World} (h : TSt w0 gl gd gs n u j W) (k : Int) (t : ByteArray) :
    Calls Tryd.prog 22 #[.int .i64 k, .string t, .pointer (some ⟨gl, 0, none⟩), .pointer (some ⟨gd, 0, none⟩), .pointer (some ⟨gs, 0, none⟩)] W fun e W' =>
      e = .returned (.bool (decide (k < n))) ∧ TSt w0 gl gd gs n t k W' ∧ (∀ b o, b ≠ gl → b ≠ gd → W.heap[b]? = some o → W'.heap[b]? = some o) := by
  have H := Aside0.mk h
  have n1_ := h.n1
  have n2_ := h.n2
  have n3_ := h.n3
  have cl_ : W.cell? ⟨gl, 0, none⟩ = some (.string u) := blk_cell h.bl 0
  have cd_ : W.cell? ⟨gd, 0, none⟩ = some (.int .i64 j) := blk_cell h.bd 0
  have cs_ : W.cell? ⟨gs, 0, none⟩ = some (.int .i64 n) := blk_cell h.bs 0
  have fl_ := blk_frozen h.bl 0
  have fd_ := blk_frozen h.bd 0
  clear h
  go_enter Tryd.func22, Tryd.ntmps22
  go_wp2_with fail
  go_ret
  exact ⟨rfl, H.out.put t k, fun b o h1 h2 ho => (Below.heap_setCell _ ⟨gd, 0, none⟩ _ b h2).trans ((Below.heap_setCell W ⟨gl, 0, none⟩ _ b h1).trans ho)⟩
/-- The tapes of a run, until the number of steps is reached or a step fails: the error, the last tape, its number. -/
def tapesR (c : Int) (s0 s1 s2 s3 : ByteArray) : Nat → Int → ByteArray → Option (Int × ByteArray × Int)
  | 0, k, t => some (0, t, k)
  | d + 1, k, t => (tags_cutter_step.f c s0 s1 s2 s3 t).bind fun q => if q.2 = 0 then tapesR c s0 s1 s2 s3 d (k + 1) q.1 else some (q.2, t, k)
theorem meas_n (n k x : Int) (hx : x = k + 1) (h : k < n) (h0 : 0 ≤ k) : (n - intOf (.int .i64 x)).toNat < (n - intOf (.int .i64 k)).toNat := by
  subst hx
  simp only [intOf]
  omega
set_option maxRecDepth 100000 in
set_option maxHeartbeats 8000000 in
theorem tapes.calls {w0 : World} {gl gd gs : Nat} {n : Int} {u : ByteArray} {j : Int} {W : World} (h : TSt w0 gl gd gs n u j W) (hn : 0 ≤ n ∧ n ≤ 1000) (c : Int) (s0 s1 s2 s3 t : ByteArray) (r1 : Int) (r2 : ByteArray) (r3 : Int) (hr : tapesR c s0 s1 s2 s3 n.toNat 0 t = some (r1, r2, r3)) :
    Calls Tryd.prog 17 #[.agg #[.int .i64 c, .string s0, .string s1, .string s2, .string s3], .string t, .func (.func 22) #[] #[.pointer (some ⟨gl, 0, none⟩), .pointer (some ⟨gd, 0, none⟩), .pointer (some ⟨gs, 0, none⟩)]] W fun e W' =>
      e = .returned (.int .i64 r1) ∧ TSt w0 gl gd gs n r2 r3 W' := by
  have hu37 := Tryd.underlying37
  have HN := Aside0.mk hn
  have HR := Aside0.mk hr
  have HG := Aside0.mk (show W.heap.size ≠ gl ∧ W.heap.size ≠ gd from ⟨by have := blk_lt h.bl; omega, by have := blk_lt h.bd; omega⟩)
  have HT := Aside0.mk (h.alloc (.cells #[.int .i64 c, .string s0, .string s1, .string s2, .string s3] 37))
  have HX := Aside0.mk (blk_new W (.cells #[.int .i64 c, .string s0, .string s1, .string s2, .string s3] 37))
  clear hn hr h
  go_enter Tryd.func17, Tryd.ntmps17
  go_wp2_with fail
  go_loopw [7, 1] (fun v7 v1 W1 => ∃ (d : Nat) (k : Int) (t' u' : ByteArray) (j' : Int), v7 = .int .i64 k ∧ v1 = .string t' ∧ k + d = n ∧ 0 ≤ k ∧ Aside0 (tapesR c s0 s1 s2 s3 d k t' = some (r1, r2, r3)) ∧ Aside0 (TSt w0 gl gd gs n u' j' W1) ∧ Aside0 (W1.heap[W.heap.size]? = some (.cells #[.int .i64 c, .string s0, .string s1, .string s2, .string s3] 37 (0, 0)))) (fun v7 _ _ => (n - intOf v7).toNat)
  case atStart => exact ⟨n.toNat, 0, t, u, j, rfl, rfl, by have := HN.out; omega, by omega, HR, HT, HX⟩
  case round =>
    obtain ⟨d, k, t', u', j', rfl, rfl, hkd, hk0, HR1, HT1, HX1⟩ := hrel
    cases d with
    | zero =>
      have hkn : decide (k < n) = false := decide_eq_false (by omega)
      have HE := Aside0.mk (Option.some.inj HR1.out)
      go_wp2_with fail
      refine (run1.calls HT1.out k t').mono ?_
      rintro e w1 ⟨rfl, hT2, hk2⟩
      have HT2 := Aside0.mk hT2
      clear hT2 hk2
      rw [hkn]
      go_wp2_with fail
      go_ret
      obtain ⟨e1, e2⟩ := Prod.mk.inj HE.out
      obtain ⟨e2, e3⟩ := Prod.mk.inj e2
      exact ⟨by rw [← e1]; rfl, by rw [← e2, ← e3]; exact HT2.out⟩
    | succ d =>
      have hkn : decide (k < n) = true := decide_eq_true (by omega)
      have hr1 := HR1.out
      rw [tapesR] at hr1
      obtain ⟨⟨q1, q2⟩, hq, hr2⟩ := Option.bind_eq_some_iff.mp hr1
      have HQ := Aside0.mk hq
      have HR2 := Aside0.mk hr2
      have HKD := Aside0.mk (show k < n ∧ 0 ≤ k ∧ k + 1 + (d : Int) = n from ⟨by omega, hk0, by omega⟩)
      clear hr1 hq hr2 HR1
      go_wp2_with fail
      refine (run1.calls HT1.out k t').mono ?_
      rintro e w1 ⟨rfl, hT2, hk2⟩
      have HT2 := Aside0.mk hT2
      have HX2 := Aside0.mk (hk2 _ _ HG.out.1 HG.out.2 HX1.out)
      clear hT2 hk2
      rw [hkn]
      have x0_ : w1.cell? ⟨W.heap.size, 0, none⟩ = some (.int .i64 c) := blk_cell HX2.out 0
      have x1_ : w1.cell? ⟨W.heap.size, 1, none⟩ = some (.string s0) := blk_cell HX2.out 1
      have x2_ : w1.cell? ⟨W.heap.size, 2, none⟩ = some (.string s1) := blk_cell HX2.out 2
      have x3_ : w1.cell? ⟨W.heap.size, 3, none⟩ = some (.string s2) := blk_cell HX2.out 3
      have x4_ : w1.cell? ⟨W.heap.size, 4, none⟩ = some (.string s3) := blk_cell HX2.out 4
      go_wp2_with fail
      refine (tags_cutter_step.calls c s0 s1 s2 s3 t' q1 q2 _ HQ.out).mono ?_
      rintro e w2 ⟨rfl, hb⟩
      have HT3 := Aside0.mk (HT2.out.below hb)
      have HX3 := Aside0.mk (blk_below HX2.out hb)
      clear hb x0_ x1_ x2_ x3_ x4_
      by_cases h0 : q2 = 0
      · have h0b : (q2 != 0) = false := bne_eq_false_iff_eq.mpr h0
        have HR3 : Aside0 (tapesR c s0 s1 s2 s3 d (k + 1) q1 = some (r1, r2, r3)) := ⟨by have := HR2.out; rw [if_pos h0] at this; exact this⟩
        have HWK : Aside0 (wrap64 (k + 1) = k + 1) := ⟨by have := HKD.out; have := HN.out; unfold wrap64; omega⟩
        clear h0
        go_wp2_with fail
        exact ⟨⟨d, k + 1, q1, t', k, by rw [HWK.out], rfl, HKD.out.2.2, by have := HKD.out; omega, HR3, HT3, HX3⟩, meas_n n k _ HWK.out HKD.out.1 HKD.out.2.1⟩
      · have h0b : (q2 != 0) = true := bne_iff_ne.mpr h0
        have HE : Aside0 ((q2, t', k) = (r1, r2, r3)) := ⟨by have := HR2.out; rw [if_neg h0] at this; exact Option.some.inj this⟩
        clear h0
        go_wp2_with fail
        go_ret
        obtain ⟨e1, e2⟩ := Prod.mk.inj HE.out
        obtain ⟨e2, e3⟩ := Prod.mk.inj e2
        exact ⟨by rw [← e1]; rfl, by rw [← e2, ← e3]; exact HT3.out⟩
def noT : ByteArray := ⟨#[]⟩
def tags_Run.f (a0 : Int) (s0 s1 s2 s3 t : ByteArray) (n : Int) : Option (ByteArray × Int × Int) := (tags_cutter_valid.f a0 s0 s1 s2 s3 t).bind fun v => if v = true then (if n < 0 then some (noT, 0, 2) else if n > 1000 then some (noT, 0, 2) else (tapesR a0 s0 s1 s2 s3 n.toNat 0 t).bind fun r => if r.1 = 6 then some (noT, 0, 6) else some (r.2.1, r.2.2, 0)) else some (noT, 0, 2)
end Go.Proofs.YtjmbjnobbeflfaaDoor.X
