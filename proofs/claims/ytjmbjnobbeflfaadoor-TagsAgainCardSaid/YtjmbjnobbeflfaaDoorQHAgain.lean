/- The contract of the closure that tags.Again hands to tapes (under way). -/
import Derived.Test.YtjmbjnobbeflfaaDoorQHRun
import Derived.Maps.OwnSet
import Derived.Maps.OwnOps
import Derived.Carry
import Derived.StringKeys
import Derived.Maps.Views
set_option linter.unusedVariables false
set_option linter.unusedSimpArgs false
namespace Go.Proofs.YtjmbjnobbeflfaaDoor.X
open Go.RowKit Go.Proofs.YtjmbjnobbeflfaaDoorW.PrintWords Go.Proofs.YtjmbjnobbeflfaaDoorW.PrintLast Go.Proofs.YtjmbjnobbeflfaaDoorW.PrintMore
attribute [local go_sem] Oper.semAt_some
open Go.Maps
theorem lawS : Keyed Tryd.prog 9 := string_keyed Tryd.underlying9
theorem zero3S (w : World) : (zeroValue 3).run Tryd.prog w = .ok (.int .i64 0) w := by kernel_rfl
/-- What is known of the memory amid a run that looks for a tape that comes again. -/
structure ASt (w0 : World) (gl gm gb gn mb : Nat) (N : Nat) (D : DataW Unit) (t : ByteArray) (b n : Int) (W : World) : Prop where
  bl : W.heap[gl]? = some (.cells #[.string t] 9 (0, 0))
  bm : W.heap[gm]? = some (.cells #[.map (some mb)] 39 (0, 0))
  bb : W.heap[gb]? = some (.cells #[.int .i64 b] 3 (0, 0))
  bn : W.heap[gn]? = some (.cells #[.int .i64 n] 3 (0, 0))
  mp : W.ownsMap Tryd.prog 9 (plainElem Tryd.prog 3) mb N D
  bel : Below w0.heap.size w0 W
  hl : w0.heap.size ≤ gl
  hb : w0.heap.size ≤ gb
  hn : w0.heap.size ≤ gn
  hm : w0.heap.size ≤ mb
  n1 : gl ≠ gm
  n2 : gl ≠ gb
  n3 : gl ≠ gn
  n4 : gm ≠ gb
  n5 : gm ≠ gn
  n6 : gb ≠ gn
  m1 : mb ≠ gl
  m2 : mb ≠ gm
  m3 : mb ≠ gb
  m4 : mb ≠ gn
theorem ASt.putl {w0 : World} {gl gm gb gn mb N : Nat} {D : DataW Unit} {t : ByteArray} {b n : Int} {W : World} (h : ASt w0 gl gm gb gn mb N D t b n W) (t' : ByteArray) : ASt w0 gl gm gb gn mb N D t' b n (W.setCell ⟨gl, 0, none⟩ (.string t')) :=
  ⟨blk_put h.bl 0 _ rfl, blk_far h.bm h.n1.symm _, blk_far h.bb h.n2.symm _, blk_far h.bn h.n3.symm _, h.mp.setCell h.m1 _, h.bel.setCell h.hl _, h.hl, h.hb, h.hn, h.hm, h.n1, h.n2, h.n3, h.n4, h.n5, h.n6, h.m1, h.m2, h.m3, h.m4⟩
theorem ASt.putbn {w0 : World} {gl gm gb gn mb N : Nat} {D : DataW Unit} {t : ByteArray} {b n : Int} {W : World} (h : ASt w0 gl gm gb gn mb N D t b n W) (b' n' : Int) : ASt w0 gl gm gb gn mb N D t b' n' ((W.setCell ⟨gb, 0, none⟩ (.int .i64 b')).setCell ⟨gn, 0, none⟩ (.int .i64 n')) :=
  ⟨blk_far (blk_far h.bl h.n2 _) h.n3 _, blk_far (blk_far h.bm h.n4 _) h.n5 _, blk_far (blk_put h.bb 0 _ rfl) h.n6 _, blk_put (blk_far h.bn h.n6.symm _) 0 _ rfl, (h.mp.setCell h.m3 _).setCell h.m4 _, (h.bel.setCell h.hb _).setCell h.hn _, h.hl, h.hb, h.hn, h.hm, h.n1, h.n2, h.n3, h.n4, h.n5, h.n6, h.m1, h.m2, h.m3, h.m4⟩
theorem ASt.putm {w0 : World} {gl gm gb gn mb N N' : Nat} {D D' : DataW Unit} {t : ByteArray} {b n : Int} {W W' : World} (h : ASt w0 gl gm gb gn mb N D t b n W) (hm : W'.ownsMap Tryd.prog 9 (plainElem Tryd.prog 3) mb N' D') (hg : W.grownBy W' (some mb)) : ASt w0 gl gm gb gn mb N' D' t b n W' :=
  ⟨blk_grown h.bl hg (fun e => h.m1 (Option.some.inj e).symm), blk_grown h.bm hg (fun e => h.m2 (Option.some.inj e).symm), blk_grown h.bb hg (fun e => h.m3 (Option.some.inj e).symm), blk_grown h.bn hg (fun e => h.m4 (Option.some.inj e).symm), hm, h.bel.grown hg h.bel.size (fun k e => by cases e; exact h.hm), h.hl, h.hb, h.hn, h.hm, h.n1, h.n2, h.n3, h.n4, h.n5, h.n6, h.m1, h.m2, h.m3, h.m4⟩
set_option maxRecDepth 100000 in
set_option maxHeartbeats 8000000 in
theorem again1.calls {w0 : World} {gl gm gb gn mb N : Nat} {D : DataW Unit} {u : ByteArray} {b n : Int} {W : World} (h : ASt w0 gl gm gb gn mb N D u b n W) (k : Int) (t : ByteArray) (hkey : keyOf Tryd.prog 9 (.string t) = some (.string t.data.toList)) (hN : N < maxLen) (hk : (Lit.int .i64 k).wf = true) :
    Calls Tryd.prog 18 #[.int .i64 k, .string t, .pointer (some ⟨gl, 0, none⟩), .pointer (some ⟨gm, 0, none⟩), .pointer (some ⟨gb, 0, none⟩), .pointer (some ⟨gn, 0, none⟩)] W fun e W' =>
      (has D (.string t.data.toList) = true → ∃ c : Int, D.atKey (.string t.data.toList) (.lit (.int .i64 0)) = .lit (.int .i64 c) ∧ e = .returned (.bool false) ∧ ASt w0 gl gm gb gn mb N D t c (wrap64 (k - c)) W') ∧
      (has D (.string t.data.toList) = false → e = .returned (.bool (decide (k < 1000))) ∧ ASt w0 gl gm gb gn mb (N + 1) (D.put (.string t.data.toList) (.lit (.int .i64 k))) t b n W') ∧ (∀ x o, x ≠ gl → x ≠ gb → x ≠ gn → x ≠ mb → W.heap[x]? = some o → W'.heap[x]? = some o) := by
  have H := Aside0.mk h
  have HK := Aside0.mk hkey
  have HN := Aside0.mk hN
  have HW := Aside0.mk hk
  have n1_ := h.n1
  have n2_ := h.n2
  have n3_ := h.n3
  have n4_ := h.n4
  have n5_ := h.n5
  have n6_ := h.n6
  have cl_ : W.cell? ⟨gl, 0, none⟩ = some (.string u) := blk_cell h.bl 0
  have cm_ : W.cell? ⟨gm, 0, none⟩ = some (.map (some mb)) := blk_cell h.bm 0
  have cb_ : W.cell? ⟨gb, 0, none⟩ = some (.int .i64 b) := blk_cell h.bb 0
  have cn_ : W.cell? ⟨gn, 0, none⟩ = some (.int .i64 n) := blk_cell h.bn 0
  have fl_ := blk_frozen h.bl 0
  have fb_ := blk_frozen h.bb 0
  have fn_ := blk_frozen h.bn 0
  have H1 := Aside0.mk (h.putl t)
  obtain ⟨q, hq⟩ : ∃ q, has D (.string t.data.toList) = q := ⟨_, rfl⟩
  have HQ := Aside0.mk hq
  clear h hkey hN hk
  cases q with
  | true =>
    go_enter Tryd.func18, Tryd.ntmps18
    go_wp2_with (first | (at_lookup; refine wpList_lookup_own_ok_int _ rfl _ _ 39 rfl 9 3 .i64 lawS Tryd.underlying39 Tryd.underlying3 (zero3S _) mb N D rfl H1.out.mp (.string t) (.string t.data.toList) rfl HK.out ?_; intro c hat _; have HAT := Aside0.mk hat; clear hat; rw [hq]))
    go_ret
    exact ⟨fun _ => ⟨c, HAT.out, rfl, H1.out.putbn c _⟩, fun e => (by rw [HQ.out] at e; cases e), fun x o h1 h2 h3 _ ho => (Below.heap_setCell _ ⟨gn, 0, none⟩ _ x h3).trans ((Below.heap_setCell _ ⟨gb, 0, none⟩ _ x h2).trans ((Below.heap_setCell W ⟨gl, 0, none⟩ _ x h1).trans ho))⟩
  | false =>
    go_enter Tryd.func18, Tryd.ntmps18
    go_wp2_with (first | (at_lookup; refine wpList_lookup_own_ok_int _ rfl _ _ 39 rfl 9 3 .i64 lawS Tryd.underlying39 Tryd.underlying3 (zero3S _) mb N D rfl H1.out.mp (.string t) (.string t.data.toList) rfl HK.out ?_; intro c hat _; have HAT := Aside0.mk hat; clear hat; rw [hq]) | (at_mapUpdate; refine wpList_mapUpdate_own _ rfl _ _ _ 39 rfl 9 3 lawS Tryd.underlying39 (plainElem Tryd.prog 3) mb N D rfl H1.out.mp HN.out (.string t) (.int .i64 k) (.string t.data.toList) rfl rfl HK.out (.lit (.int .i64 k)) [] (plainElem_int Tryd.underlying3 HW.out) ?_; intro w7 hown hgw; have H2 := Aside0.mk (H1.out.putm hown hgw); have HG := Aside0.mk hgw; clear hown hgw))
    go_ret
    exact ⟨fun e => (by rw [HQ.out] at e; cases e), fun _ => ⟨rfl, H2.out⟩, fun x o h1 _ _ h4 ho => blk_grown ((Below.heap_setCell W ⟨gl, 0, none⟩ _ x h1).trans ho) HG.out (fun e => h4 (Option.some.inj e))⟩
/-! ### The tapes that were seen -/
structure SeenIs (L : List (List UInt8)) (D : DataW Unit) : Prop where
  isMap : IsMap D
  has_ : ∀ t : List UInt8, has D (.string t) = decide (t ∈ L)
  at_ : ∀ t : List UInt8, t ∈ L → D.atKey (.string t) (.lit (.int .i64 0)) = .lit (.int .i64 (L.idxOf t : Int))
theorem SeenIs.start : SeenIs [] (.map []) := ⟨⟨[], rfl⟩, fun t => by simp; rfl, fun t h => by simp at h⟩
theorem key_ne {t u : List UInt8} (h : u ≠ t) : (Lit.string u) ≠ .string t := by
  intro e
  injection e with e
  exact h e
theorem SeenIs.put {L : List (List UInt8)} {D : DataW Unit} (h : SeenIs L D) (t : List UInt8) (ht : t ∉ L) : SeenIs (L ++ [t]) (D.put (.string t) (.lit (.int .i64 (L.length : Int)))) := by
  refine ⟨?_, fun u => ?_, fun u hu => ?_⟩
  · obtain ⟨es, rfl⟩ := h.isMap
    exact ⟨_, rfl⟩
  · by_cases e : u = t
    · subst e
      rw [has_put_same h.isMap (by trivial)]; simp
    · rw [has_put_other (key_ne e), h.has_ u]; simp [e]
  · by_cases e : u = t
    · subst e
      rw [atKey_put_same h.isMap (by trivial), List.idxOf_append, if_neg ht]; simp
    · have hu' : u ∈ L := by simpa [e] using hu
      rw [atKey_put_other (key_ne e), h.at_ u hu', List.idxOf_append, if_pos hu']
/-- The tapes of a run, until one comes again, 1000 steps are done or a step fails: the error, the last tape, and when it came first, and how much later again. -/
def tapesA (c : Int) (s0 s1 s2 s3 : ByteArray) : Nat → List (List UInt8) → ByteArray → Option (Int × ByteArray × Int × Int)
  | 0, L, t => if t.size ≤ maxLen then (if t.data.toList ∈ L then some (0, t, (L.idxOf t.data.toList : Int), (L.length : Int) - (L.idxOf t.data.toList : Int)) else some (0, t, 0, 0)) else none
  | d + 1, L, t => if t.size ≤ maxLen then (if t.data.toList ∈ L then some (0, t, (L.idxOf t.data.toList : Int), (L.length : Int) - (L.idxOf t.data.toList : Int)) else (tags_cutter_step.f c s0 s1 s2 s3 t).bind fun q => if q.2 = 0 then tapesA c s0 s1 s2 s3 d (L ++ [t.data.toList]) q.1 else some (q.2, t, 0, 0)) else none
theorem tapesA_size {c : Int} {s0 s1 s2 s3 : ByteArray} {d : Nat} {L : List (List UInt8)} {t : ByteArray} {r : Int × ByteArray × Int × Int} (h : tapesA c s0 s1 s2 s3 d L t = some r) : t.size ≤ maxLen := by
  by_cases e : t.size ≤ maxLen
  · exact e
  · cases d <;> rw [tapesA, if_neg e] at h <;> cases h
theorem tapesA_in {c : Int} {s0 s1 s2 s3 : ByteArray} {d : Nat} {L : List (List UInt8)} {t : ByteArray} (h : t.size ≤ maxLen) (hi : t.data.toList ∈ L) : tapesA c s0 s1 s2 s3 d L t = some (0, t, (L.idxOf t.data.toList : Int), (L.length : Int) - (L.idxOf t.data.toList : Int)) := by
  cases d <;> rw [tapesA, if_pos h, if_pos hi]
theorem ASt.below {w0 : World} {gl gm gb gn mb N : Nat} {D : DataW Unit} {t : ByteArray} {b n : Int} {W W' : World} (h : ASt w0 gl gm gb gn mb N D t b n W) (hw : Below W.heap.size W W') : ASt w0 gl gm gb gn mb N D t b n W' := by
  refine ⟨blk_below h.bl hw, blk_below h.bm hw, blk_below h.bb hw, blk_below h.bn hw, ?_, below_step h.bel hw, h.hl, h.hb, h.hn, h.hm, h.n1, h.n2, h.n3, h.n4, h.n5, h.n6, h.m1, h.m2, h.m3, h.m4⟩
  obtain ⟨es, clock, hb, F, hs, hD⟩ := h.mp
  exact ⟨es, clock, blk_below hb hw, F, hs, hD⟩
theorem ASt.alloc {w0 : World} {gl gm gb gn mb N : Nat} {D : DataW Unit} {t : ByteArray} {b n : Int} {W : World} (h : ASt w0 gl gm gb gn mb N D t b n W) (o : Obj) : ASt w0 gl gm gb gn mb N D t b n (W.alloc o) := h.below (below_alloc (Below.refl _ _) o)
theorem meas_a (k x : Int) (hx : x = k + 1) (h : k < 1000) (h0 : 0 ≤ k) : (1000 - intOf (.int .i64 x)).toNat < (1000 - intOf (.int .i64 k)).toNat := by
  subst hx
  simp only [intOf]
  omega
theorem idx_wrap (L : List (List UInt8)) (t : List UInt8) (h : t ∈ L) (hl : L.length ≤ 1000) : wrap64 ((L.length : Int) - (L.idxOf t : Int)) = (L.length : Int) - (L.idxOf t : Int) := by
  have := List.idxOf_lt_length_of_mem h
  unfold wrap64
  omega
set_option maxRecDepth 100000 in
set_option maxHeartbeats 8000000 in
theorem tapesA.calls {w0 : World} {gl gm gb gn mb : Nat} {u : ByteArray} {W : World} (h : ASt w0 gl gm gb gn mb 0 (.map []) u 0 0 W) (c : Int) (s0 s1 s2 s3 t : ByteArray) (r1 : Int) (r2 : ByteArray) (r3 r4 : Int) (hr : tapesA c s0 s1 s2 s3 1000 [] t = some (r1, r2, r3, r4)) :
    Calls Tryd.prog 17 #[.agg #[.int .i64 c, .string s0, .string s1, .string s2, .string s3], .string t, .func (.func 18) #[] #[.pointer (some ⟨gl, 0, none⟩), .pointer (some ⟨gm, 0, none⟩), .pointer (some ⟨gb, 0, none⟩), .pointer (some ⟨gn, 0, none⟩)]] W fun e W' =>
      e = .returned (.int .i64 r1) ∧ ∃ (N : Nat) (D : DataW Unit), ASt w0 gl gm gb gn mb N D r2 r3 r4 W' := by
  have hu37 := Tryd.underlying37
  have HR := Aside0.mk hr
  have HG := Aside0.mk (show W.heap.size ≠ gl ∧ W.heap.size ≠ gb ∧ W.heap.size ≠ gn ∧ W.heap.size ≠ mb from ⟨by have := blk_lt h.bl; omega, by have := blk_lt h.bb; omega, by have := blk_lt h.bn; omega, by have := h.mp.lt; omega⟩)
  have HT := Aside0.mk (h.alloc (.cells #[.int .i64 c, .string s0, .string s1, .string s2, .string s3] 37))
  have HX := Aside0.mk (blk_new W (.cells #[.int .i64 c, .string s0, .string s1, .string s2, .string s3] 37))
  clear hr h
  go_enter Tryd.func17, Tryd.ntmps17
  go_wp2_with fail
  go_loopw [7, 1] (fun v7 v1 W1 => ∃ (d : Nat) (k : Int) (L : List (List UInt8)) (D : DataW Unit) (t' u' : ByteArray), v7 = .int .i64 k ∧ v1 = .string t' ∧ k + d = 1000 ∧ 0 ≤ k ∧ Aside0 (k = (L.length : Int)) ∧ Aside0 (tapesA c s0 s1 s2 s3 d L t' = some (r1, r2, r3, r4)) ∧ Aside0 (SeenIs L D) ∧ Aside0 (ASt w0 gl gm gb gn mb L.length D u' 0 0 W1) ∧ Aside0 (W1.heap[W.heap.size]? = some (.cells #[.int .i64 c, .string s0, .string s1, .string s2, .string s3] 37 (0, 0)))) (fun v7 _ _ => (1000 - intOf v7).toNat)
  case atStart => exact ⟨1000, 0, [], .map [], t, u, rfl, rfl, by omega, by omega, ⟨rfl⟩, HR, ⟨SeenIs.start⟩, HT, HX⟩
  case round =>
    obtain ⟨d, k, L, D, t', u', rfl, rfl, hkd, hk0, HL, HR1, HS, HT1, HX1⟩ := hrel
    have HKD := Aside0.mk hkd
    have HK0 := Aside0.mk hk0
    have HKey := Aside0.mk (WideMaps.keyOf_string_mk Tryd.underlying9 (tapesA_size HR1.out))
    have HNl : Aside0 (L.length < maxLen) := ⟨by have h1 := HL.out; have h2 := HKD.out; simp [maxLen]; omega⟩
    have HWf : Aside0 ((Lit.int .i64 k).wf = true) := ⟨WalkArith.wf_i64 (by have h2 := HKD.out; have h3 := HK0.out; omega)⟩
    obtain ⟨q, hq⟩ : ∃ q, decide (t'.data.toList ∈ L) = q := ⟨_, rfl⟩
    have HQ := Aside0.mk hq
    have HH : Aside0 (has D (.string t'.data.toList) = q) := ⟨(HS.out.has_ t'.data.toList).trans hq⟩
    clear hq
    cases q with
    | true =>
      have HE : Aside0 (some (0, t', (L.idxOf t'.data.toList : Int), (L.length : Int) - (L.idxOf t'.data.toList : Int)) = some (r1, r2, r3, r4)) := ⟨(tapesA_in (tapesA_size HR1.out) (of_decide_eq_true HQ.out)).symm.trans HR1.out⟩
      go_wp2_with fail
      refine (again1.calls HT1.out k t' HKey.out HNl.out HWf.out).mono ?_
      rintro e w1 ⟨h1, -, -⟩
      obtain ⟨c', hat, rfl, hA⟩ := h1 HH.out
      rw [HS.out.at_ t'.data.toList (of_decide_eq_true HQ.out)] at hat
      injection hat with hat
      injection hat with _ hat
      subst hat
      have HA := Aside0.mk hA
      clear h1 hA
      go_wp2_with fail
      go_ret
      have hE := Option.some.inj HE.out
      obtain ⟨e1, e2⟩ := Prod.mk.inj hE
      obtain ⟨e2, e3⟩ := Prod.mk.inj e2
      obtain ⟨e3, e4⟩ := Prod.mk.inj e3
      refine ⟨by rw [← e1]; rfl, L.length, D, ?_⟩
      have hA := HA.out
      rw [HL.out, idx_wrap L t'.data.toList (of_decide_eq_true HQ.out) (by have h1 := HL.out; have h2 := HKD.out; omega)] at hA
      rw [← e2, ← e3, ← e4]
      exact hA
    | false =>
      have hni : t'.data.toList ∉ L := of_decide_eq_false HQ.out
      cases d with
      | zero =>
        have hkn : decide (k < 1000) = false := decide_eq_false (by have h2 := HKD.out; omega)
        have HE := HR1.out
        rw [tapesA, if_pos (tapesA_size HR1.out), if_neg hni] at HE
        replace HE := Aside0.mk HE
        clear hni
        go_wp2_with fail
        refine (again1.calls HT1.out k t' HKey.out HNl.out HWf.out).mono ?_
        rintro e w1 ⟨-, h1, -⟩
        obtain ⟨rfl, hA⟩ := h1 HH.out
        have HA := Aside0.mk hA
        clear h1 hA
        rw [hkn]
        go_wp2_with fail
        go_ret
        have hE := Option.some.inj HE.out
        obtain ⟨e1, e2⟩ := Prod.mk.inj hE
        obtain ⟨e2, e3⟩ := Prod.mk.inj e2
        obtain ⟨e3, e4⟩ := Prod.mk.inj e3
        exact ⟨by rw [← e1]; rfl, _, _, by rw [← e2, ← e3, ← e4]; exact HA.out⟩
      | succ d =>
        have hkn : decide (k < 1000) = true := decide_eq_true (by have h2 := HKD.out; omega)
        have hr1 := HR1.out
        rw [tapesA, if_pos (tapesA_size HR1.out), if_neg hni] at hr1
        obtain ⟨⟨q1, q2⟩, hq, hr2⟩ := Option.bind_eq_some_iff.mp hr1
        have HQ1 := Aside0.mk hq
        have HR2 := Aside0.mk hr2
        have HS1 := Aside0.mk (HS.out.put t'.data.toList hni)
        clear hr1 hq hr2 hni
        go_wp2_with fail
        refine (again1.calls HT1.out k t' HKey.out HNl.out HWf.out).mono ?_
        rintro e w1 ⟨-, h1, hk2⟩
        obtain ⟨rfl, hA⟩ := h1 HH.out
        have HA := Aside0.mk hA
        have HX2 := Aside0.mk (hk2 _ _ HG.out.1 HG.out.2.1 HG.out.2.2.1 HG.out.2.2.2 HX1.out)
        clear h1 hA hk2
        rw [hkn]
        have x0_ : w1.cell? ⟨W.heap.size, 0, none⟩ = some (.int .i64 c) := blk_cell HX2.out 0
        have x1_ : w1.cell? ⟨W.heap.size, 1, none⟩ = some (.string s0) := blk_cell HX2.out 1
        have x2_ : w1.cell? ⟨W.heap.size, 2, none⟩ = some (.string s1) := blk_cell HX2.out 2
        have x3_ : w1.cell? ⟨W.heap.size, 3, none⟩ = some (.string s2) := blk_cell HX2.out 3
        have x4_ : w1.cell? ⟨W.heap.size, 4, none⟩ = some (.string s3) := blk_cell HX2.out 4
        go_wp2_with fail
        refine (tags_cutter_step.calls c s0 s1 s2 s3 t' q1 q2 _ HQ1.out).mono ?_
        rintro e w2 ⟨rfl, hb⟩
        have HT3 := Aside0.mk (HA.out.below hb)
        have HX3 := Aside0.mk (blk_below HX2.out hb)
        clear hb x0_ x1_ x2_ x3_ x4_
        by_cases h0 : q2 = 0
        · have h0b : (q2 != 0) = false := bne_eq_false_iff_eq.mpr h0
          have HR3 : Aside0 (tapesA c s0 s1 s2 s3 d (L ++ [t'.data.toList]) q1 = some (r1, r2, r3, r4)) := ⟨by have := HR2.out; rw [if_pos h0] at this; exact this⟩
          have HWK : Aside0 (wrap64 (k + 1) = k + 1) := ⟨by have h1 := HKD.out; have h2 := HK0.out; unfold wrap64; omega⟩
          clear h0
          go_wp2_with fail
          refine ⟨⟨d, k + 1, L ++ [t'.data.toList], _, q1, t', by first | rfl | rw [HWK.out], rfl, by have h1 := HKD.out; omega, by have h1 := HK0.out; omega, ⟨by rw [List.length_append, List.length_singleton, HL.out]; omega⟩, HR3, HS1, ⟨?_⟩, HX3⟩, meas_a k _ (by first | rfl | exact HWK.out) (by have h1 := HKD.out; omega) HK0.out⟩
          rw [List.length_append, List.length_singleton, ← HL.out]
          exact HT3.out
        · have h0b : (q2 != 0) = true := bne_iff_ne.mpr h0
          have HE : Aside0 ((q2, t', 0, 0) = (r1, r2, r3, r4)) := ⟨by have := HR2.out; rw [if_neg h0] at this; exact Option.some.inj this⟩
          clear h0
          go_wp2_with fail
          go_ret
          obtain ⟨e1, e2⟩ := Prod.mk.inj HE.out
          obtain ⟨e2, e3⟩ := Prod.mk.inj e2
          obtain ⟨e3, e4⟩ := Prod.mk.inj e3
          exact ⟨by rw [← e1]; rfl, _, _, by rw [← e2, ← e3, ← e4]; exact HT3.out⟩
end Go.Proofs.YtjmbjnobbeflfaaDoor.X
