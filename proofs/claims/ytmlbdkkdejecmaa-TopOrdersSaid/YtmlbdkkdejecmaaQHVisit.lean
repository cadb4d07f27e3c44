/- The contract of the closure that marks what is reached (tags.Fewer$1). -/
import Derived.Test.YtmlbdkkdejecmaaQHMach
set_option linter.unusedVariables false
set_option linter.unusedSimpArgs false
namespace Go.Proofs.Ytmlbdkkdejecmaa.X
open Go.RowKit Go.Proofs.YtmlbdkkdejecmaaW.PrintWords Go.Proofs.YtmlbdkkdejecmaaW.PrintLast Go.Proofs.YtmlbdkkdejecmaaW.PrintMore
attribute [local go_sem] Oper.semAt_some
/-- What is reached from i, marked. -/
def dfs (l : List S45) : Nat → List Bool → Nat → List Bool
  | 0, B, _ => B
  | d + 1, B, i => if B.getD i true = true then B else
      (fun B2 => if (l.getD i z45).f0 = 2 then dfs l d B2 (l.getD i z45).f3.toNat else B2) (if (l.getD i z45).f0 = 0 then B.set i true else dfs l d (B.set i true) (l.getD i z45).f2.toNat)
theorem dfs_len (l : List S45) : ∀ (d : Nat) (B : List Bool) (i : Nat), (dfs l d B i).length = B.length := by
  intro d
  induction d with
  | zero => intro B i; rfl
  | succ d ih =>
    intro B i
    unfold dfs
    split
    · rfl
    · dsimp only
      split <;> split <;> simp [ih]
/-- How many are not marked. -/
def unr (B : List Bool) : Nat := B.count false
theorem unr_set {B : List Bool} {i : Nat} (hi : i < B.length) (h : B.getD i true = false) : unr (B.set i true) < unr B := by
  have hb : B[i] = false := by simpa [hi] using h
  unfold unr
  rw [List.count_set hi, hb]
  have : 0 < B.count false := List.count_pos_iff.mpr (by rw [← hb]; exact List.getElem_mem hi)
  simp
  omega
theorem dfs_unr (l : List S45) : ∀ (d : Nat) (B : List Bool) (i : Nat), unr (dfs l d B i) ≤ unr B := by
  intro d
  induction d with
  | zero => intro B i; exact Nat.le_refl _
  | succ d ih =>
    intro B i
    have hset : unr (B.set i true) ≤ unr B := by
      by_cases hi : i < B.length
      · by_cases hb : B.getD i true = false
        · exact Nat.le_of_lt (unr_set hi hb)
        · have : B[i] = true := by simpa [hi] using hb
          rw [show B.set i true = B from by rw [← this]; exact List.set_getElem_self hi]
          exact Nat.le_refl _
      · rw [List.set_eq_of_length_le (by omega)]
        exact Nat.le_refl _
    unfold dfs
    split
    · exact Nat.le_refl _
    · dsimp only
      split <;> split
      · exact Nat.le_trans (ih _ _) hset
      · exact Nat.le_trans (ih _ _) (Nat.le_trans (ih _ _) hset)
      · exact hset
      · exact Nat.le_trans (ih _ _) hset
/-- What is known of the memory amid a marking. -/
structure VSt (w0 : World) (base g g4 g1 g5 cap : Nat) (A : Option Addr) (c : Nat) (l : List S45) (B : List Bool) (W : World) : Prop where
  row : Kd.R Kd.bool 4 W base (fun k => k = g) (.slice (some ⟨g, 0, none⟩) B.length cap) B
  c4 : W.cell? ⟨g4, 0, none⟩ = some (.slice (some ⟨g, 0, none⟩) B.length cap)
  c1 : W.cell? ⟨g1, 0, none⟩ = some (.slice A l.length c)
  c5 : W.cell? ⟨g5, 0, none⟩ = some (.func (.func 41) #[] #[.pointer (some ⟨g4, 0, none⟩), .pointer (some ⟨g1, 0, none⟩), .pointer (some ⟨g5, 0, none⟩)])
  came : Kd.C k45 w0 A l.length l
  bel : Below w0.heap.size w0 W
  hb : w0.heap.size ≤ g
  n4 : g4 ≠ g
  n1 : g1 ≠ g
  n5 : g5 ≠ g
theorem cell_grown_of {w w' : World} {row : Option Nat} (hg : w.grownBy w' row) {b o : Nat} {u : Value} (h : w.cell? ⟨b, o, none⟩ = some u) (hn : some b ≠ row) : w'.cell? ⟨b, o, none⟩ = some u :=
  (World.cell?_of_block (a := ⟨b, o, none⟩) (hg.block b (World.block_lt_of_cell? w _ h) hn)).trans h
theorem VSt.drew {w0 : World} {base g g4 g1 g5 cap c : Nat} {A : Option Addr} {l : List S45} {B : List Bool} {W : World} (h : VSt w0 base g g4 g1 g5 cap A c l B W) : VSt w0 base g g4 g1 g5 cap A c l B W.drew :=
  ⟨Kd.R_drew h.row, h.c4, h.c1, h.c5, h.came, below_drew h.bel, h.hb, h.n4, h.n1, h.n5⟩
theorem VSt.put {w0 : World} {base g g4 g1 g5 cap c : Nat} {A : Option Addr} {l : List S45} {B : List Bool} {W : World} (h : VSt w0 base g g4 g1 g5 cap A c l B W) (i : Nat) : VSt w0 base g g4 g1 g5 cap A c l (B.set i true) (W.setCell ⟨g, i, none⟩ (.bool true)) := by
  obtain ⟨hr, hg⟩ := Kd.R_putg h.row (i : Int) true
  simp only [Int.toNat_natCast] at hr hg
  rw [show B.length = (B.set i true).length by simp] at hr
  have e : (B.set i true).length = B.length := by simp
  exact ⟨hr, by rw [e]; exact cell_grown_of hg h.c4 (fun e => h.n4 (Option.some.inj e)), cell_grown_of hg h.c1 (fun e => h.n1 (Option.some.inj e)), cell_grown_of hg h.c5 (fun e => h.n5 (Option.some.inj e)), h.came,
    h.bel.grown hg h.bel.size (fun k e => by cases e; exact h.hb), h.hb, h.n4, h.n1, h.n5⟩
/-- What a region that reads holds. -/
def VisS (n g4 g1 g5 : Nat) (sl : Value) (p : Addr) (y : Int) (W : World) : Prop := W.cell? ⟨g5, 0, none⟩ = some (.func (.func 41) #[] #[.pointer (some ⟨g4, 0, none⟩), .pointer (some ⟨g1, 0, none⟩), .pointer (some ⟨g5, 0, none⟩)]) ∧ W.cell? ⟨g1, 0, none⟩ = some sl ∧ W.cell? p = some (.int .i64 y)
theorem VisS.drew {n g4 g1 g5 : Nat} {sl : Value} {p : Addr} {y : Int} {W : World} (h : VisS n g4 g1 g5 sl p y W) : VisS n g4 g1 g5 sl p y W.drew := h
theorem visRun {oi : Oper} {a : Act} {w : World} {b : Operand} {y : Int} {p4 p1 p5 : Value} {tf : Tmp} {ts : Array TypeId} (hop : oi.op = .call { callee := .value (.tmp tf), args := #[b], argTypes := ts }) (hf : a.eval (.tmp tf) = .func (.func 41) #[] #[p4, p1, p5]) (hb : a.eval b = .int .i64 y) :
    (execOp a.eval oi).run Try.prog w = .ok (.enter 41 #[.int .i64 y, p4, p1, p5]) w := by
  have he := enters_ (f := 41) Try.func41 (by kernel_rfl) rfl #[.int .i64 y, p4, p1, p5] w
  unfold execOp
  simp [hop, resolve, Deferred.ofValue, invoke, hb, hf, he]
def visT.T3 : Bool × List (List Nat × List Nat) := (true, [([], []), ([], []), ([], []), ([1, 2], [1, 2]), ([3], [3]), ([4], [4]), ([0, 5], [0, 5])])
def visT.B3 : List Nat := [0, 0, 0, 6, 14, 30, 63]
theorem visT.tab3 : rtab .any (opsOf Try.f41 3) = visT.T3 := by kernel_rfl
theorem visT.bits3 : waitsOk visT.T3.2 visT.B3 = true := by kernel_rfl
def visT.T5 : Bool × List (List Nat × List Nat) := (true, [([], []), ([], []), ([], []), ([1, 2], [1, 2]), ([3], [3]), ([4], [4]), ([0, 5], [0, 5])])
def visT.B5 : List Nat := [0, 0, 0, 6, 14, 30, 63]
theorem visT.tab5 : rtab .any (opsOf Try.f41 5) = visT.T5 := by kernel_rfl
theorem visT.bits5 : waitsOk visT.T5.2 visT.B5 = true := by kernel_rfl
set_option maxRecDepth 100000 in
set_option maxHeartbeats 16000000 in
theorem visit.calls {w0 : World} {base g g4 g1 g5 cap c : Nat} {A : Option Addr} {l : List S45} (hok : ∀ j, j < l.length → 0 ≤ (l.getD j z45).f2 ∧ (l.getD j z45).f2 < l.length ∧ 0 ≤ (l.getD j z45).f3 ∧ (l.getD j z45).f3 < l.length) :
    ∀ (d : Nat) (B : List Bool) (i : Nat) (W : World), unr B < d → B.length = l.length → i < l.length → VSt w0 base g g4 g1 g5 cap A c l B W →
      Calls Try.prog 41 #[.int .i64 (i : Int), .pointer (some ⟨g4, 0, none⟩), .pointer (some ⟨g1, 0, none⟩), .pointer (some ⟨g5, 0, none⟩)] W fun e W' => (∃ v, e = .returned v) ∧ VSt w0 base g g4 g1 g5 cap A c l (dfs l d B i) W' := by
  intro d
  induction d with
  | zero => intro B i W h; omega
  | succ d ih =>
    intro B i W hd hlen hi hV
    have hu45 := Try.underlying45
    have hib : decide (0 ≤ (i : Int)) = true := decide_eq_true (by omega)
    have hic : decide ((i : Int) < (l.length : Int)) = true := decide_eq_true (by omega)
    have p0_ : (0 ≤ (i : Int)) = True := eq_true (by omega)
    have q0_ : ((i : Int) < (l.length : Int)) = True := eq_true (by omega)
    have q1_ : ((i : Int) < (B.length : Int)) = True := eq_true (by omega)
    have q2_ : (i < l.length) = True := eq_true hi
    have q3_ : (i < B.length) = True := eq_true (by omega)
    obtain ⟨hrc, hrf⟩ := Kd.R_celln false hV.row (i : Int) (by omega) (by omega)
    simp only [Int.toNat_natCast] at hrc hrf
    have HRD : Aside0 (rdOf false B (i : Int) = B.getD i false) := ⟨rfl⟩
    generalize hbv : rdOf false B (i : Int) = bv at hrc HRD
    have HBV := Aside0.mk hbv
    clear hbv
    have HOK := Aside0.mk (hok i hi)
    have HLEN := Aside0.mk hlen
    have HD := Aside0.mk hd
    have HV := Aside0.mk hV
    have c4_ := hV.c4
    have c1_ := hV.c1
    have c5_ := hV.c5
    obtain ⟨ad, rfl, e0, e1, e2, e3⟩ := at_T45 (Kd.C_below hV.came hV.bel) (i : Int) (by omega) (by omega)
    simp only [Int.toNat_natCast] at e0 e1 e2 e3
    have HX : Aside0 (rd_T45 l (i : Int) = l.getD i z45) := ⟨rfl⟩
    clear hd hlen hV
    cases bv with
    | true =>
      have hB : B.getD i true = true := by
        have := HRD.out
        have hl := HLEN.out
        simp [show i < B.length by omega] at this ⊢
        exact this
      have HDF : Aside0 (dfs l (d + 1) B i = B) := ⟨by rw [dfs, if_pos hB]⟩
      clear hB
      go_enter Try.func41, Try.ntmps41
      go_wp2_with fail
      first | go_end0 | ((try simp only [Exit.inBlock, Exit.then]); refine bodyPost_ret (results_none rfl _ _ _) rfl ?_)
      exact ⟨⟨_, rfl⟩, by rw [HDF.out]; exact HV.out⟩
    | false =>
      have hB : B.getD i true = false := by
        have := HRD.out
        have hl := HLEN.out
        simp [show i < B.length by omega] at this ⊢
        exact this
      have HU := Aside0.mk (unr_set (by have := HLEN.out; omega) hB)
      have HDF : Aside0 (dfs l (d + 1) B i = (fun B2 => if (l.getD i z45).f0 = 2 then dfs l d B2 (l.getD i z45).f3.toNat else B2) (if (l.getD i z45).f0 = 0 then B.set i true else dfs l d (B.set i true) (l.getD i z45).f2.toNat)) := ⟨by rw [dfs, if_neg (by rw [hB]; decide)]⟩
      clear hB
      rw [← HX.out] at HDF HOK
      clear HX e0 e1 e2 e3
      have HV1 := Aside0.mk (HV.out.put i)
      have d4_ := HV1.out.c4
      have d1_ := HV1.out.c1
      have d5_ := HV1.out.c5
      rw [List.length_set] at d4_
      obtain ⟨ad', hade, e0, e1, e2, e3⟩ := at_T45 (Kd.C_below HV1.out.came HV1.out.bel) (i : Int) (by omega) (by omega)
      obtain rfl : ad = ad' := by injection hade
      simp only [Int.toNat_natCast] at e0 e1 e2 e3
      obtain ⟨x, hx⟩ : ∃ x, rd_T45 l (i : Int) = x := ⟨_, rfl⟩
      have HX := Aside0.mk hx
      rw [hx] at HDF HOK e0 e1 e2 e3
      clear hx
      have HLE := Aside0.mk (show unr (B.set i true) < d by have := HU.out; have := HD.out; omega)
      have HLL := Aside0.mk (show (B.set i true).length = l.length by rw [List.length_set]; exact HLEN.out)
      by_cases h0 : x.f0 = 0
      · have h0b : (x.f0 != 0) = false := bne_eq_false_iff_eq.mpr h0
        have h0c : (x.f0 == 0) = true := beq_iff_eq.mpr h0
        have h2b : (x.f0 == 2) = false := beq_eq_false_iff_ne.mpr (by omega)
        have HDG : Aside0 (dfs l (d + 1) B i = B.set i true) := ⟨by rw [HDF.out, if_pos h0]; dsimp only; rw [if_neg (by omega)]⟩
        clear h0 HDF
        go_enter Try.func41, Try.ntmps41
        go_wp2_with fail
        first | go_end0 | ((try simp only [Exit.inBlock, Exit.then]); refine bodyPost_ret (results_none rfl _ _ _) rfl ?_)
        exact ⟨⟨_, rfl⟩, by rw [HDG.out]; exact HV1.out⟩
      · have h0b : (x.f0 != 0) = true := bne_iff_ne.mpr h0
        have h0c : (x.f0 == 0) = false := beq_eq_false_iff_ne.mpr h0
        have H0 := Aside0.mk h0
        clear h0
        go_enter Try.func41, Try.ntmps41
        go_wp2_with fail
        have hS : VisS W.heap.size g4 g1 g5 (.slice (some ad) l.length c) ⟨(ad.add (i * 4)).block, (ad.add (i * 4)).off + 2, none⟩ x.f2 (W.setCell ⟨g, i, none⟩ (.bool true)) := ⟨d5_, d1_, e2⟩
        clear c4_ c1_ c5_ d4_ d1_ d5_
        have HF2 : Aside0 (((x.f2.toNat : Nat) : Int) = x.f2) := ⟨by have := HOK.out; omega⟩
        refine start_ (n := 7) (S := VisS W.heap.size g4 g1 g5 (.slice (some ad) l.length c) ⟨(ad.add (i * 4)).block, (ad.add (i * 4)).off + 2, none⟩ x.f2) (ds := [6]) #[false, false, false, false, false, false, false] (by kernel_rfl) rfl rfl (hS.drew) (fun hHeld => ?_)
        refine with_tabW visT.tab3 visT.bits3 (fun HT_ HW_ => ?_)
        refine take_ (i := 0) (N := some 18) (v := ?_) (a' := ?_) #[true, false, false, false, false, false, false] rfl rfl (take_ofW HT_.out HW_.out (by kernel_rfl)) (fun _ _ _ h => h) (Or.inl ⟨by rfl, ?_⟩) hHeld ?_ ?_
        rotate_left
        · rintro w' ⟨s0, s1, s2⟩
          go_simp
          with_reducible rfl
        rotate_left
        · simp only [Act.put, List.setIfInBounds_toArray, List.set_cons_zero, List.set_cons_succ, i64_w, i32_w]
          rfl
        refine take_ (i := 1) (N := some 19) (v := ?_) (a' := ?_) #[true, true, false, false, false, false, false] rfl rfl (take_ofW HT_.out HW_.out (by kernel_rfl)) (fun _ _ _ h => h) (Or.inl ⟨by rfl, ?_⟩) hHeld ?_ ?_
        rotate_left
        · rintro w' ⟨s0, s1, s2⟩
          go_simp
          with_reducible rfl
        rotate_left
        · simp only [Act.put, List.setIfInBounds_toArray, List.set_cons_zero, List.set_cons_succ, i64_w, i32_w]
          rfl
        refine pure_ (i := 2) (N := some 20) (v := ?_) (a' := ?_) #[true, true, true, false, false, false, false] rfl rfl (any_of HT_.out (by kernel_rfl)) (fun _ _ _ h => h) (Or.inl ⟨by rfl, ?_⟩) ?_ ?_
        rotate_left
        · intro w'
          go_simp
          with_reducible rfl
        rotate_left
        · simp only [Act.put, List.setIfInBounds_toArray, List.set_cons_zero, List.set_cons_succ, i64_w, i32_w]
          rfl
        refine pure_ (i := 3) (N := some 21) (v := ?_) (a' := ?_) #[true, true, true, true, false, false, false] rfl rfl (any_of HT_.out (by kernel_rfl)) (fun _ _ _ h => h) (Or.inl ⟨by rfl, ?_⟩) ?_ ?_
        rotate_left
        · intro w'
          go_simp
          with_reducible rfl
        rotate_left
        · simp only [Act.put, List.setIfInBounds_toArray, List.set_cons_zero, List.set_cons_succ, i64_w, i32_w]
          rfl
        refine pure_ (i := 4) (N := some 22) (v := ?_) (a' := ?_) #[true, true, true, true, true, false, false] rfl rfl (any_of HT_.out (by kernel_rfl)) (fun _ _ _ h => h) (Or.inl ⟨by rfl, ?_⟩) ?_ ?_
        rotate_left
        · intro w'
          go_simp
          with_reducible rfl
        rotate_left
        · simp only [Act.put, List.setIfInBounds_toArray, List.set_cons_zero, List.set_cons_succ, i64_w, i32_w]
          rfl
        refine take_ (i := 5) (N := some 23) (v := ?_) (a' := ?_) #[true, true, true, true, true, true, false] rfl rfl (take_ofW HT_.out HW_.out (by kernel_rfl)) (fun _ _ _ h => h) (Or.inl ⟨by rfl, ?_⟩) hHeld ?_ ?_
        rotate_left
        · rintro w' ⟨s0, s1, s2⟩
          go_simp
          with_reducible rfl
        rotate_left
        · simp only [Act.put, List.setIfInBounds_toArray, List.set_cons_zero, List.set_cons_succ, i64_w, i32_w]
          rfl
        refine last_ (i := 6) (N := some 24) #[true, true, true, true, true, true, true] rfl rfl (one_of HT_.out (by kernel_rfl)) (by decide) (fun K hK => ?_)
        refine call_ 41 #[.int .i64 x.f2, .pointer (some ⟨g4, 0, none⟩), .pointer (some ⟨g1, 0, none⟩), .pointer (some ⟨g5, 0, none⟩)] (by rfl) rfl ?_ ?_
        · exact visRun rfl rfl rfl
        refine (HF2.out ▸ ih (B.set i true) x.f2.toNat _ HLE.out HLL.out (by have := HOK.out; omega) HV1.out.drew).mono ?_
        rintro e w2 ⟨⟨rv, rfl⟩, hV2⟩
        refine ⟨_, rfl, ?_⟩
        refine hK.out _ _ ?_
        clear hK K hHeld
        refine done_ (done_of HT_.out (by kernel_rfl)) ?_
        have c4_ := hV2.c4
        have c1_ := hV2.c1
        have c5_ := hV2.c5
        obtain ⟨ad', hade, e0, e1, e2, e3⟩ := at_T45 (Kd.C_below hV2.came hV2.bel) (i : Int) (by omega) (by omega)
        obtain rfl : ad = ad' := by injection hade
        simp only [Int.toNat_natCast] at e0 e1 e2 e3
        rw [HX.out] at e0 e1 e2 e3
        have HV2 := Aside0.mk hV2
        clear hV2
        by_cases h2 : x.f0 = 2
        · have h2b : (x.f0 == 2) = true := beq_iff_eq.mpr h2
          have HDG : Aside0 (dfs l (d + 1) B i = dfs l d (dfs l d (B.set i true) x.f2.toNat) x.f3.toNat) := ⟨by rw [HDF.out, if_neg H0.out, if_pos h2]⟩
          clear h2 HDF h0b h0c
          go_wp2_with fail
          have hS : VisS W.heap.size g4 g1 g5 (.slice (some ad) l.length c) ⟨(ad.add (i * 4)).block, (ad.add (i * 4)).off + 3, none⟩ x.f3 w2 := ⟨c5_, c1_, e3⟩
          have HF3 : Aside0 (((x.f3.toNat : Nat) : Int) = x.f3) := ⟨by have := HOK.out; omega⟩
          refine start_ (n := 7) (S := VisS W.heap.size g4 g1 g5 (.slice (some ad) l.length c) ⟨(ad.add (i * 4)).block, (ad.add (i * 4)).off + 3, none⟩ x.f3) (ds := [6]) #[false, false, false, false, false, false, false] (by kernel_rfl) rfl rfl (hS.drew) (fun hHeld => ?_)
          refine with_tabW visT.tab5 visT.bits5 (fun HT_ HW_ => ?_)
          refine take_ (i := 0) (N := some 31) (v := ?_) (a' := ?_) #[true, false, false, false, false, false, false] rfl rfl (take_ofW HT_.out HW_.out (by kernel_rfl)) (fun _ _ _ h => h) (Or.inl ⟨by rfl, ?_⟩) hHeld ?_ ?_
          rotate_left
          · rintro w' ⟨s0, s1, s2⟩
            go_simp
            with_reducible rfl
          rotate_left
          · simp only [Act.put, List.setIfInBounds_toArray, List.set_cons_zero, List.set_cons_succ, i64_w, i32_w]
            rfl
          refine take_ (i := 1) (N := some 32) (v := ?_) (a' := ?_) #[true, true, false, false, false, false, false] rfl rfl (take_ofW HT_.out HW_.out (by kernel_rfl)) (fun _ _ _ h => h) (Or.inl ⟨by rfl, ?_⟩) hHeld ?_ ?_
          rotate_left
          · rintro w' ⟨s0, s1, s2⟩
            go_simp
            with_reducible rfl
          rotate_left
          · simp only [Act.put, List.setIfInBounds_toArray, List.set_cons_zero, List.set_cons_succ, i64_w, i32_w]
            rfl
          refine pure_ (i := 2) (N := some 33) (v := ?_) (a' := ?_) #[true, true, true, false, false, false, false] rfl rfl (any_of HT_.out (by kernel_rfl)) (fun _ _ _ h => h) (Or.inl ⟨by rfl, ?_⟩) ?_ ?_
          rotate_left
          · intro w'
            go_simp
            with_reducible rfl
          rotate_left
          · simp only [Act.put, List.setIfInBounds_toArray, List.set_cons_zero, List.set_cons_succ, i64_w, i32_w]
            rfl
          refine pure_ (i := 3) (N := some 34) (v := ?_) (a' := ?_) #[true, true, true, true, false, false, false] rfl rfl (any_of HT_.out (by kernel_rfl)) (fun _ _ _ h => h) (Or.inl ⟨by rfl, ?_⟩) ?_ ?_
          rotate_left
          · intro w'
            go_simp
            with_reducible rfl
          rotate_left
          · simp only [Act.put, List.setIfInBounds_toArray, List.set_cons_zero, List.set_cons_succ, i64_w, i32_w]
            rfl
          refine pure_ (i := 4) (N := some 35) (v := ?_) (a' := ?_) #[true, true, true, true, true, false, false] rfl rfl (any_of HT_.out (by kernel_rfl)) (fun _ _ _ h => h) (Or.inl ⟨by rfl, ?_⟩) ?_ ?_
          rotate_left
          · intro w'
            go_simp
            with_reducible rfl
          rotate_left
          · simp only [Act.put, List.setIfInBounds_toArray, List.set_cons_zero, List.set_cons_succ, i64_w, i32_w]
            rfl
          refine take_ (i := 5) (N := some 36) (v := ?_) (a' := ?_) #[true, true, true, true, true, true, false] rfl rfl (take_ofW HT_.out HW_.out (by kernel_rfl)) (fun _ _ _ h => h) (Or.inl ⟨by rfl, ?_⟩) hHeld ?_ ?_
          rotate_left
          · rintro w' ⟨s0, s1, s2⟩
            go_simp
            with_reducible rfl
          rotate_left
          · simp only [Act.put, List.setIfInBounds_toArray, List.set_cons_zero, List.set_cons_succ, i64_w, i32_w]
            rfl
          refine last_ (i := 6) (N := some 37) #[true, true, true, true, true, true, true] rfl rfl (one_of HT_.out (by kernel_rfl)) (by decide) (fun K hK => ?_)
          refine call_ 41 #[.int .i64 x.f3, .pointer (some ⟨g4, 0, none⟩), .pointer (some ⟨g1, 0, none⟩), .pointer (some ⟨g5, 0, none⟩)] (by rfl) rfl ?_ ?_
          · exact visRun rfl rfl rfl
          refine (HF3.out ▸ ih (dfs l d (B.set i true) x.f2.toNat) x.f3.toNat _ (Nat.lt_of_le_of_lt (dfs_unr l d _ _) HLE.out) (by rw [dfs_len]; exact HLL.out) (by have := HOK.out; omega) HV2.out.drew).mono ?_
          rintro e w3 ⟨⟨rv3, rfl⟩, hV3⟩
          refine ⟨_, rfl, ?_⟩
          refine hK.out _ _ ?_
          clear hK K hHeld
          refine done_ (done_of HT_.out (by kernel_rfl)) ?_
          try go_wp2_with fail
          first | go_end0 | ((try simp only [Exit.inBlock, Exit.then]); refine bodyPost_ret (results_none rfl _ _ _) rfl ?_)
          exact ⟨⟨_, rfl⟩, by rw [HDG.out]; exact hV3⟩
        · have h2b : (x.f0 == 2) = false := beq_eq_false_iff_ne.mpr h2
          have HDG : Aside0 (dfs l (d + 1) B i = dfs l d (B.set i true) x.f2.toNat) := ⟨by rw [HDF.out, if_neg H0.out, if_neg h2]⟩
          clear h2 HDF h0b h0c
          go_wp2_with fail
          first | go_end0 | ((try simp only [Exit.inBlock, Exit.then]); refine bodyPost_ret (results_none rfl _ _ _) rfl ?_)
          exact ⟨⟨_, rfl⟩, by rw [HDG.out]; exact HV2.out⟩

end Go.Proofs.Ytmlbdkkdejecmaa.X
