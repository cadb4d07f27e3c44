/- The walk through trees. -/
import Derived.Test.YtmlbdkkdejecmaaDoorQHTreesA
set_option linter.unusedVariables false
set_option linter.unusedSimpArgs false
namespace Go.Proofs.YtmlbdkkdejecmaaDoor.X
open Go.RowKit Go.Proofs.YtmlbdkkdejecmaaDoorW.PrintWords Go.Proofs.YtmlbdkkdejecmaaDoorW.PrintLast Go.Proofs.YtmlbdkkdejecmaaDoorW.PrintMore
attribute [local go_sem] Oper.semAt_some
attribute [local go_sem] max2_int min2_int max_two min_two max_three min_three max_four min_four
open Go.Maps
def treT.T15 : Bool × List (List Nat × List Nat) := (true, [([], []), ([], []), ([], []), ([], []), ([2, 3], [2, 3]), ([], []), ([], []), ([6], [6]), ([], []), ([], []), ([5, 7, 8, 9], [5, 7, 8, 9]), ([4, 10], [4, 10]), ([], []), ([11, 12], [11, 12]), ([0, 1, 13, 10, 0, 1, 2, 3, 4, 5, 6, 7, 8, 9, 10, 11, 12, 13], [0, 1, 13])])
def treT.B15 : List Nat := [0, 0, 0, 0, 12, 0, 0, 64, 0, 0, 992, 2044, 0, 8188, 16383]
theorem treT.tab15 : rtab .any (opsOf Tryd.f17 15) = treT.T15 := by kernel_rfl
theorem treT.bits15 : waitsOk treT.T15.2 treT.B15 = true := by kernel_rfl
theorem meas_t (n j : Nat) (x : Int) (hx : x = ((j + 1 : Nat) : Int)) (h : j < n) : n - (intOf (.int .i64 x)).toNat < n - (intOf (.int .i64 (j : Int))).toNat := by
  subst hx
  simp only [intOf, Int.toNat_natCast]
  omega
/-- What a rule's step leans on. -/
def SX (w : World) (rb gf bm nm bn nn : Nat) (A : Option Addr) (c : Nat) (s : ByteArray) (D Dn : DataW Unit) (i j : Nat) (t : ByteArray) (W : World) : Prop :=
  W.cell? ⟨rb + 1, 0, none⟩ = some (.int .i64 65) ∧ W.cell? ⟨rb + 1, 1, none⟩ = some (.int .i64 (i : Int)) ∧ W.cell? ⟨rb + 1, 2, none⟩ = some (.int .i64 (j : Int)) ∧ W.cell? ⟨rb, 1, none⟩ = some (.string t) ∧
    W.ownsMap Tryd.prog 61 (plainElem (H := Unit) Tryd.prog 3) bn nn Dn ∧ FSt W gf bm nm A c s D ∧ Below w.heap.size w W
theorem SX.drawn {w : World} {rb gf bm nm bn nn : Nat} {A : Option Addr} {c : Nat} {s : ByteArray} {D Dn : DataW Unit} {i j : Nat} {t : ByteArray} {W W1 : World} (h : SX w rb gf bm nm bn nn A c s D Dn i j t W) (hd : Drawn0 W W1) : SX w rb gf bm nm bn nn A c s D Dn i j t W1 := by
  have hb := hd.below
  obtain ⟨n, rfl⟩ := hd.out
  obtain ⟨h0, h1, h2, h3, h4, h5, h6⟩ := h
  exact ⟨h0, h1, h2, h3, h4, h5.below hb, below_step h6 hb⟩
theorem SX.F {w : World} {rb gf bm nm bn nn : Nat} {A : Option Addr} {c : Nat} {s : ByteArray} {D Dn : DataW Unit} {i j : Nat} {t : ByteArray} {W : World} (h : SX w rb gf bm nm bn nn A c s D Dn i j t W) : FSt W gf bm nm A c s D := h.2.2.2.2.2.1
theorem SX.O {w : World} {rb gf bm nm bn nn : Nat} {A : Option Addr} {c : Nat} {s : ByteArray} {D Dn : DataW Unit} {i j : Nat} {t : ByteArray} {W : World} (h : SX w rb gf bm nm bn nn A c s D Dn i j t W) : W.ownsMap Tryd.prog 61 (plainElem (H := Unit) Tryd.prog 3) bn nn Dn := h.2.2.2.2.1
theorem SX.mk0 {w wr : World} {gf bm nm bn nn : Nat} {A : Option Addr} {c : Nat} {s : ByteArray} {D Dn : DataW Unit} (hW : Below w.heap.size w wr) (hO : wr.ownsMap Tryd.prog 61 (plainElem (H := Unit) Tryd.prog 3) bn nn Dn) (hF : FSt wr gf bm nm A c s D) (v : Value) (t : ByteArray) (i j : Nat) :
    SX w wr.heap.size gf bm nm bn nn A c s D Dn i j t ((wr.alloc (.cells #[v, .string t] 32)).alloc (.cells #[.int .i64 65, .int .i64 (i : Int), .int .i64 (j : Int)] 61)) := by
  have hb := below_alloc (below_alloc (Below.refl wr.heap.size wr) (.cells #[v, .string t] 32)) (.cells #[.int .i64 65, .int .i64 (i : Int), .int .i64 (j : Int)] 61)
  have k1 := heap_alloc_new (wr.alloc (.cells #[v, .string t] 32)) (.cells #[.int .i64 65, .int .i64 (i : Int), .int .i64 (j : Int)] 61)
  rw [World.size_alloc] at k1
  have k2 := ((below_alloc (Below.refl (wr.alloc (.cells #[v, .string t] 32)).heap.size (wr.alloc (.cells #[v, .string t] 32))) (.cells #[.int .i64 65, .int .i64 (i : Int), .int .i64 (j : Int)] 61)).block wr.heap.size (by rw [World.size_alloc]; omega)).trans (heap_alloc_new wr (.cells #[v, .string t] 32))
  exact ⟨(blk_cell k1 0).trans rfl, (blk_cell k1 1).trans rfl, (blk_cell k1 2).trans rfl, (blk_cell k2 1).trans rfl, owns_below hO hb, hF.below hb, below_step hW hb⟩
theorem SX.put {w : World} {rb gf bm nm bn nn : Nat} {A : Option Addr} {c : Nat} {s : ByteArray} {D Dn : DataW Unit} {i j : Nat} {t : ByteArray} {W W7 : World} (h : SX w rb gf bm nm bn nn A c s D Dn i j t W) (hg : W.grownBy W7 (some bn)) (h1 : gf ≠ bn) (h2 : bm ≠ bn) (h3 : w.heap.size ≤ bn) :
    FSt W7 gf bm nm A c s D ∧ Below w.heap.size w W7 :=
  ⟨⟨(hg.block gf (blk_lt h.F.box) (fun e => h1 (by injection e))).trans h.F.box, h.F.own.kept hg (fun e => h2 (by injection e))⟩, h.2.2.2.2.2.2.grown hg h.2.2.2.2.2.2.size (fun k e => by injection e; omega)⟩
set_option maxRecDepth 100000 in
set_option maxHeartbeats 16000000 in
theorem treesW.calls (A0 : Option Addr) (c0 : Nat) (s : ByteArray) (n m : Nat) (T : Nat → Nat → Nat → Int) (hT : Rounds s n m T) (w : World) (hr0 : Kd.C k32 w A0 2 rules2) :
    Calls Tryd.prog 17 #[.slice A0 2 c0, .string s, .int .i64 100] w fun e w' => e = .returned (.int .i64 (T m 0 n)) ∧ Below w.heap.size w w' := by
  have hu32 := Tryd.underlying32
  have hu60 := Tryd.underlying60
  have hu61 := Tryd.underlying61
  have hu5 := Tryd.underlying5
  have hu3 := Tryd.underlying3
  have hmm := @run_makeMap Tryd.prog
  have HR := Aside0.mk hr0
  have HT := Aside0.mk hT
  have hsz := hT.size
  have HM0 := Aside0.mk (World.ownsMap_made w Tryd.prog 61 (plainElem (H := Unit) Tryd.prog 3))
  clear hr0 hT
  go_enter Tryd.func17, Tryd.ntmps17
  go_wp2_with fail
  have HW1 := Aside0.mk (below_alloc (below_alloc (Below.refl w.heap.size w) (.map #[] 0)) (.cells #[.slice A0 2 c0, .string s, .int .i64 100, .map (some w.heap.size)] 60))
  have HF1 : Aside0 (FSt ((w.alloc (.map #[] 0)).alloc (.cells #[.slice A0 2 c0, .string s, .int .i64 100, .map (some w.heap.size)] 60)) (w.heap.size + 1) w.heap.size 0 A0 c0 s (.map [])) :=
    ⟨by have h_ := heap_alloc_new (w.alloc (.map #[] 0)) (.cells #[.slice A0 2 c0, .string s, .int .i64 100, .map (some w.heap.size)] 60); rw [World.size_alloc] at h_; exact h_, owns_below HM0.out (below_alloc (Below.refl _ _) _)⟩
  have HR1 : Aside0 (Rep (.map []) (fun _ _ => False) (T 0)) := ⟨Rep.start.congr (fun _ _ => Iff.rfl) (fun i j => (HT.out.zero i j).symm)⟩
  generalize ((w.alloc (.map #[] 0)).alloc (.cells #[.slice A0 2 c0, .string s, .int .i64 100, .map (some w.heap.size)] 60)) = w1 at HW1 HF1 ⊢
  clear HM0
  go_loopw [20] (fun v20 W => ∃ (r bm nm : Nat) (D : DataW Unit) (S : Nat → Nat → Prop), v20 = .int .i64 (r : Int) ∧ r ≤ m ∧ w.heap.size ≤ bm ∧ bm ≠ w.heap.size + 1 ∧ Aside0 (FSt W (w.heap.size + 1) bm nm A0 c0 s D) ∧ Aside0 (Rep D S (T r)) ∧ Aside0 (Below w.heap.size w W)) (fun v20 _ => m + 1 - (intOf v20).toNat)
  case atStart => exact ⟨0, w.heap.size, 0, _, _, rfl, Nat.zero_le _, Nat.le_refl _, by omega, HF1, HR1, HW1⟩
  case round =>
    clear HW1 HF1 HR1
    obtain ⟨r, bm, nm, D, S, rfl, hr, hbm, hbm2, HF, HP, HW⟩ := hrel
    have hm9 := HT.out.m9
    have hrb : decide ((r : Int) < 600) = true := decide_eq_true (by omega)
    have hrp : ((r : Int) < 600) = True := eq_true (by omega)
    have HM1 := Aside0.mk (World.ownsMap_made wr Tryd.prog 61 (plainElem (H := Unit) Tryd.prog 3))
    go_wp2_with fail
    have HW2 := Aside0.mk (below_alloc HW.out (.map #[] 0))
    have HF2 := Aside0.mk (HF.out.below (below_alloc (Below.refl _ _) (.map #[] 0)))
    have hbn : w.heap.size + 1 < wr.heap.size := blk_lt HF.out.box
    have HP2 : Aside0 (Rep (.map []) (SG n 0 0 0) (FG n (T (r + 1)) (v1 s (T r)) 0 0 0)) := ⟨Rep.start.congr (fun a b => ⟨fun h => h.elim, fun h => by unfold SG dn at h; omega⟩) (fun a b => (fg_0 n _ _ a b).symm)⟩
    have hbmlt : bm < wr.heap.size := owns_lt HF.out.own
    generalize hbnn : wr.heap.size = bn at HM1 hbn hbmlt ⊢
    generalize wr.alloc (.map #[] 0) = w2 at HM1 HW2 HF2 ⊢
    clear hbnn HW HF hrb hrp
    go_loopw [26] (fun v26 W => ∃ (i nn : Nat) (Dn : DataW Unit), v26 = .int .i64 (i : Int) ∧ i ≤ n + 1 ∧ nn ≤ 20 * i ∧ Aside0 (W.ownsMap Tryd.prog 61 (plainElem Tryd.prog 3) bn nn Dn) ∧ Aside0 (Rep Dn (SG n i i 0) (FG n (T (r + 1)) (v1 s (T r)) i i 0)) ∧ Aside0 (FSt W (w.heap.size + 1) bm nm A0 c0 s D) ∧ Aside0 (Below w.heap.size w W)) (fun v26 _ => n + 1 - (intOf v26).toNat)
    case atStart => exact ⟨0, 0, _, rfl, by omega, by omega, HM1, HP2, HF2, HW2⟩
    case round =>
      clear HM1 HP2 HF2 HW2
      obtain ⟨i, nn, Dn, rfl, hi, hnn, HO, HQ, HF, HW⟩ := hrel
      have hn8 := HT.out.n8
      have hse : (s.size : Int) = (n : Int) := by rw [HT.out.size]
      by_cases hil : i < n + 1
      · have hwn : wrap64 ((n : Int) + 1) = (n : Int) + 1 := by unfold wrap64; omega
        have hib : decide ((i : Int) < (n : Int) + 1) = true := decide_eq_true (by omega)
        have hip : ((i : Int) < (n : Int) + 1) = True := eq_true (by omega)
        have HWI : Aside0 (wrap64 ((i : Int) + 1) = ((i + 1 : Nat) : Int)) := ⟨by unfold wrap64; omega⟩
        go_wp2_with fail
        clear hib hip
        go_loopw [10] (fun v10 W => ∃ (j nn : Nat) (Dn : DataW Unit), v10 = .int .i64 (j : Int) ∧ i ≤ j ∧ j ≤ n + 1 ∧ nn ≤ 20 * i + 2 * (j - i) ∧ Aside0 (W.ownsMap Tryd.prog 61 (plainElem Tryd.prog 3) bn nn Dn) ∧ Aside0 (Rep Dn (SG n i j 0) (FG n (T (r + 1)) (v1 s (T r)) i j 0)) ∧ Aside0 (FSt W (w.heap.size + 1) bm nm A0 c0 s D) ∧ Aside0 (Below w.heap.size w W)) (fun v10 _ => n + 1 - (intOf v10).toNat)
        case atStart => exact ⟨i, nn, Dn, rfl, Nat.le_refl _, by omega, by omega, HO, HQ, HF, HW⟩
        case round =>
          clear HO HQ HF HW hnn nn Dn
          obtain ⟨j, nn, Dn, rfl, hij, hj, hnn, HO, HQ, HF, HW⟩ := hrel
          by_cases hjl : j ≤ n
          · have hjb : decide ((j : Int) ≤ (n : Int)) = true := decide_eq_true (by omega)
            have hjp : ((j : Int) ≤ (n : Int)) = True := eq_true (by omega)
            have HWJ : Aside0 (wrap64 ((j : Int) + 1) = ((j + 1 : Nat) : Int)) := ⟨by unfold wrap64; omega⟩
            go_wp2_with fail
            clear hjb hjp
            go_loopw [38] (fun v38 W => ∃ (x nn : Nat) (Dn : DataW Unit), v38 = .int .i64 (x : Int) ∧ x ≤ 2 ∧ nn ≤ 20 * i + 2 * (j - i) + x ∧ Aside0 (W.ownsMap Tryd.prog 61 (plainElem Tryd.prog 3) bn nn Dn) ∧ Aside0 (Rep Dn (SG n i j x) (FG n (T (r + 1)) (v1 s (T r)) i j x)) ∧ Aside0 (FSt W (w.heap.size + 1) bm nm A0 c0 s D) ∧ Aside0 (Below w.heap.size w W)) (fun v38 _ => 2 - (intOf v38).toNat)
            case atStart => exact ⟨0, nn, Dn, rfl, by omega, by omega, HO, HQ, HF, HW⟩
            case round =>
              clear HO HQ HF HW hnn nn Dn
              obtain ⟨x, nn, Dn, rfl, hx, hnn, HO, HQ, HF, HW⟩ := hrel
              by_cases hxl : x < 2
              · as_aux_lemma =>
                have hxb : decide ((x : Int) < 2) = true := decide_eq_true (by omega)
                have hxp : ((x : Int) < 2) = True := eq_true (by omega)
                have hx0 : (0 ≤ (x : Int)) = True := eq_true (by omega)
                have HWX : Aside0 (wrap64 ((x : Int) + 1) = ((x + 1 : Nat) : Int)) := ⟨by unfold wrap64; omega⟩
                obtain ⟨ad, e0, h0, h1⟩ := at_T32 HR.out (x : Int) (by omega) (by omega)
                cases e0
                rw [Int.toNat_natCast] at h0 h1
                replace h0 := (HW.out.cell (World.block_lt_of_cell? w _ h0)).trans h0
                replace h1 := (HW.out.cell (World.block_lt_of_cell? w _ h1)).trans h1
                have hxx : x = 0 ∨ x = 1 := by omega
                rcases hxx with rfl | rfl
                · replace h0 : wr.cell? ad = some (.int .u8 65) := h0
                  replace h1 : wr.cell? ⟨ad.block, ad.off + 1, none⟩ = some (.string ⟨#[97, 65, 98, 65]⟩) := h1
                  go_wp2_with fail
                  have hS := SX.mk0 HW.out HO.out HF.out (.int .u8 65) ⟨#[97, 65, 98, 65]⟩ i j
                  have HK := Aside0.mk (key_of sm65 (smN (show i ≤ 1000 by omega)) (smN (show j ≤ 1000 by omega)))
                  unfold kv at HK
                  have HL : Aside0 (Dn.atKey (kl 65 (i : Int) (j : Int)) (.lit (.int .i64 0)) = .lit (.int .i64 0)) := ⟨(HQ.out.look i j (by omega) (by omega)).trans (by unfold FG; rw [if_pos ⟨rfl, rfl⟩]; rfl)⟩
                  have hlt0 : w.heap.size + 1 < wr.heap.size := blk_lt HF.out.box
                  generalize ((wr.alloc (.cells #[.int .u8 65, .string ⟨#[97, 65, 98, 65]⟩] 32)).alloc (.cells #[.int .i64 65, .int .i64 (i : Int), .int .i64 (j : Int)] 61)) = w4 at hS ⊢
                  generalize hrb : wr.heap.size = rb at hS ⊢
                  clear h0 h1 hxb hxp hx0
                  refine start_ (n := 15) (S := SX w rb (w.heap.size + 1) bm nm bn nn (some ad) c0 s D Dn i j ⟨#[97, 65, 98, 65]⟩) (ds := [14]) #[false, false, false, false, false, false, false, false, false, false, false, false, false, false, false] (by kernel_rfl) rfl rfl (SX.drawn hS (by repeat (first | exact Drawn0.refl _ | apply Drawn0.step))) (fun hHeld => ?_)
                  refine with_tabW treT.tab15 treT.bits15 (fun HT_ HW_ => ?_)
                  refine pure_ (i := 0) (N := some 48) (v := ?_) (a' := ?_) #[true, false, false, false, false, false, false, false, false, false, false, false, false, false, false] rfl rfl (any_of HT_.out (by kernel_rfl)) (fun _ _ _ h => h) (Or.inl ⟨by rfl, ?_⟩) ?_ ?_
                  rotate_left
                  · intro w'
                    go_simp
                    with_reducible rfl
                  rotate_left
                  · simp only [Act.put, List.setIfInBounds_toArray, List.set_cons_zero, List.set_cons_succ, i64_w, i32_w]
                    rfl
                  refine take_ (i := 1) (N := some 49) (v := ?_) (a' := ?_) #[true, true, false, false, false, false, false, false, false, false, false, false, false, false, false] rfl rfl (take_ofW HT_.out HW_.out (by kernel_rfl)) (fun _ _ _ h => h) (Or.inl ⟨by rfl, ?_⟩) hHeld ?_ ?_
                  rotate_left
                  · rintro w' ⟨s0, s1, s2, s3, s4, s5, s6⟩
                    go_simp
                    with_reducible rfl
                  rotate_left
                  · simp only [Act.put, List.setIfInBounds_toArray, List.set_cons_zero, List.set_cons_succ, i64_w, i32_w]
                    rfl
                  refine pure_ (i := 2) (N := some 50) (v := ?_) (a' := ?_) #[true, true, true, false, false, false, false, false, false, false, false, false, false, false, false] rfl rfl (any_of HT_.out (by kernel_rfl)) (fun _ _ _ h => h) (Or.inl ⟨by rfl, ?_⟩) ?_ ?_
                  rotate_left
                  · intro w'
                    go_simp
                    with_reducible rfl
                  rotate_left
                  · simp only [Act.put, List.setIfInBounds_toArray, List.set_cons_zero, List.set_cons_succ, i64_w, i32_w]
                    rfl
                  refine take_ (i := 3) (N := some 51) (v := ?_) (a' := ?_) #[true, true, true, true, false, false, false, false, false, false, false, false, false, false, false] rfl rfl (take_ofW HT_.out HW_.out (by kernel_rfl)) (fun _ _ _ h => h) (Or.inl ⟨by rfl, ?_⟩) hHeld ?_ ?_
                  rotate_left
                  · rintro w' ⟨s0, s1, s2, s3, s4, s5, s6⟩
                    go_simp
                    with_reducible rfl
                  rotate_left
                  · simp only [Act.put, List.setIfInBounds_toArray, List.set_cons_zero, List.set_cons_succ, i64_w, i32_w]
                    rfl
                  refine take_ (i := 4) (N := some 52) (v := .int .i64 0) (a' := ?_) #[true, true, true, true, true, false, false, false, false, false, false, false, false, false, false] rfl rfl (take_ofW HT_.out HW_.out (by kernel_rfl)) (fun _ _ _ h => h) (Or.inl ⟨by rfl, ?_⟩) hHeld ?_ ?_
                  · rintro w' ⟨s0, s1, s2, s3, s4, s5, s6⟩
                    obtain ⟨c_, hrun, hat, _⟩ := s4.lookup_int lawK Tryd.underlying58 Tryd.underlying3 (zero3 _) HK.out
                    obtain rfl : 0 = c_ := by injection HL.out.symm.trans hat with e1; injection e1
                    go_simp
                    first | done | with_reducible rfl
                  rotate_left
                  · simp only [Act.put, List.setIfInBounds_toArray, List.set_cons_zero, List.set_cons_succ, i64_w, i32_w]
                    rfl
                  refine pure_ (i := 5) (N := some 53) (v := ?_) (a' := ?_) #[true, true, true, true, true, true, false, false, false, false, false, false, false, false, false] rfl rfl (any_of HT_.out (by kernel_rfl)) (fun _ _ _ h => h) (Or.inl ⟨by rfl, ?_⟩) ?_ ?_
                  rotate_left
                  · intro w'
                    go_simp
                    with_reducible rfl
                  rotate_left
                  · simp only [Act.put, List.setIfInBounds_toArray, List.set_cons_zero, List.set_cons_succ, i64_w, i32_w]
                    rfl
                  refine pure_ (i := 6) (N := some 54) (v := ?_) (a' := ?_) #[true, true, true, true, true, true, true, false, false, false, false, false, false, false, false] rfl rfl (any_of HT_.out (by kernel_rfl)) (fun _ _ _ h => h) (Or.inl ⟨by rfl, ?_⟩) ?_ ?_
                  rotate_left
                  · intro w'
                    go_simp
                    with_reducible rfl
                  rotate_left
                  · simp only [Act.put, List.setIfInBounds_toArray, List.set_cons_zero, List.set_cons_succ, i64_w, i32_w]
                    rfl
                  refine take_ (i := 7) (N := some 55) (v := ?_) (a' := ?_) #[true, true, true, true, true, true, true, true, false, false, false, false, false, false, false] rfl rfl (take_ofW HT_.out HW_.out (by kernel_rfl)) (fun _ _ _ h => h) (Or.inl ⟨by rfl, ?_⟩) hHeld ?_ ?_
                  rotate_left
                  · rintro w' ⟨s0, s1, s2, s3, s4, s5, s6⟩
                    go_simp
                    with_reducible rfl
                  rotate_left
                  · simp only [Act.put, List.setIfInBounds_toArray, List.set_cons_zero, List.set_cons_succ, i64_w, i32_w]
                    rfl
                  refine pure_ (i := 8) (N := some 56) (v := ?_) (a' := ?_) #[true, true, true, true, true, true, true, true, true, false, false, false, false, false, false] rfl rfl (any_of HT_.out (by kernel_rfl)) (fun _ _ _ h => h) (Or.inl ⟨by rfl, ?_⟩) ?_ ?_
                  rotate_left
                  · intro w'
                    go_simp
                    with_reducible rfl
                  rotate_left
                  · simp only [Act.put, List.setIfInBounds_toArray, List.set_cons_zero, List.set_cons_succ, i64_w, i32_w]
                    rfl
                  refine pure_ (i := 9) (N := some 57) (v := ?_) (a' := ?_) #[true, true, true, true, true, true, true, true, true, true, false, false, false, false, false] rfl rfl (any_of HT_.out (by kernel_rfl)) (fun _ _ _ h => h) (Or.inl ⟨by rfl, ?_⟩) ?_ ?_
                  rotate_left
                  · intro w'
                    go_simp
                    with_reducible rfl
                  rotate_left
                  · simp only [Act.put, List.setIfInBounds_toArray, List.set_cons_zero, List.set_cons_succ, i64_w, i32_w]
                    rfl
                  refine pure_ (i := 12) (N := some 60) (v := ?_) (a' := ?_) #[true, true, true, true, true, true, true, true, true, true, false, false, true, false, false] rfl rfl (any_of HT_.out (by kernel_rfl)) (fun _ _ _ h => h) (Or.inl ⟨by rfl, ?_⟩) ?_ ?_
                  rotate_left
                  · intro w'
                    go_simp
                    with_reducible rfl
                  rotate_left
                  · simp only [Act.put, List.setIfInBounds_toArray, List.set_cons_zero, List.set_cons_succ, i64_w, i32_w]
                    rfl
                  refine one_ (i := 10) (N := some 58) #[true, true, true, true, true, true, true, true, true, true, true, false, true, false, false] rfl rfl (one_of HT_.out (by kernel_rfl)) (by decide) (fun K hK => ?_)
                  refine goes_ Tryd.func25 (by kernel_rfl) rfl #[.pointer (some ⟨w.heap.size + 1, 0, none⟩), .string ⟨#[97, 65, 98, 65]⟩, .int .i64 (i : Int), .int .i64 (j : Int)] (by rfl) rfl rfl (by (try simp only [List.map_toArray, List.map_cons, List.map_nil]); first | done | rfl | (simp only [List.length_drop, List.length_take]; rfl)) ?_
                  refine (ways_aAbA HP.out i j (by omega) _ (SX.F hHeld) (by omega) (by omega)).mono ?_
                  rintro e wr1 ⟨rfl, hb⟩
                  refine ⟨_, rfl, ?_⟩
                  refine hK.out _ _ (SX.drawn hHeld hb) (fun hHeld => ?_)
                  clear hK K hb
                  refine norm_ (a' := ?_) ?_ ?_
                  rotate_left
                  · show Act.put _ (some 58) _ = _
                    simp only [Act.put, List.setIfInBounds_toArray, List.set_cons_zero, List.set_cons_succ, i64_w, i32_w]
                    rfl
                  refine pure_ (i := 11) (N := some 59) (v := ?_) (a' := ?_) #[true, true, true, true, true, true, true, true, true, true, true, true, true, false, false] rfl rfl (any_of HT_.out (by kernel_rfl)) (fun _ _ _ h => h) (Or.inl ⟨by rfl, ?_⟩) ?_ ?_
                  rotate_left
                  · intro w'
                    go_simp
                    with_reducible rfl
                  rotate_left
                  · simp only [Act.put, List.setIfInBounds_toArray, List.set_cons_zero, List.set_cons_succ, i64_w, i32_w]
                    rfl
                  refine pure_ (i := 13) (N := some 61) (v := ?_) (a' := ?_) #[true, true, true, true, true, true, true, true, true, true, true, true, true, true, false] rfl rfl (any_of HT_.out (by kernel_rfl)) (fun _ _ _ h => h) (Or.inl ⟨by rfl, ?_⟩) ?_ ?_
                  rotate_left
                  · intro w'
                    go_simp
                    with_reducible rfl
                  rotate_left
                  · simp only [Act.put, List.setIfInBounds_toArray, List.set_cons_zero, List.set_cons_succ, i64_w, i32_w]
                    rfl
                  refine last_ (i := 14) (N := none) #[true, true, true, true, true, true, true, true, true, true, true, true, true, true, true] rfl rfl (one_of HT_.out (by kernel_rfl)) (by decide) (fun K hK => ?_)
                  obtain ⟨w7, hrun7, own7, hg7⟩ := (SX.O hHeld).update lawK Tryd.underlying58 (show nn < maxLen by unfold maxLen; omega) HK.out (plainElem_int Tryd.underlying3 (wf_v1 s (T r) i j))
                  refine skip_ (w1 := w7) (by rfl) rfl ?_ ?_
                  · simp only [v1, g1, Int.zero_add, mn, gt_iff_lt] at hrun7
                    go_simp
                    first | done | rfl | (rw [hrun7]; rfl)
                  refine hK.out _ _ ?_
                  clear hK K
                  refine done_ (done_of HT_.out (by kernel_rfl)) ?_
                  have hend := SX.put hHeld hg7 (by omega) (by omega) (by omega)
                  go_wp2_with fail
                  exact ⟨⟨1, nn + 1, _, rfl, by omega, by omega, ⟨own7⟩, ⟨(HQ.out.put HO.out.isMap (by omega) (by omega) _).congr (fun a b => (sg_x n i j 0 a b).symm) (fun a b => fg_x0 n _ _ i j a b)⟩, ⟨hend.1⟩, ⟨hend.2⟩⟩, by decide⟩
                · replace h0 : wr.cell? ⟨ad.block, ad.off + 2, none⟩ = some (.int .u8 65) := h0
                  replace h1 : wr.cell? ⟨ad.block, ad.off + 2 + 1, none⟩ = some (.string ⟨#[]⟩) := h1
                  go_wp2_with fail
                  have hS := SX.mk0 HW.out HO.out HF.out (.int .u8 65) ⟨#[]⟩ i j
                  have HK := Aside0.mk (key_of sm65 (smN (show i ≤ 1000 by omega)) (smN (show j ≤ 1000 by omega)))
                  unfold kv at HK
                  have HL : Aside0 (Dn.atKey (kl 65 (i : Int) (j : Int)) (.lit (.int .i64 0)) = .lit (.int .i64 (v1 s (T r) i j))) := ⟨(HQ.out.look i j (by omega) (by omega)).trans (by unfold FG; rw [if_pos ⟨rfl, rfl⟩]; rfl)⟩
                  have hlt0 : w.heap.size + 1 < wr.heap.size := blk_lt HF.out.box
                  generalize ((wr.alloc (.cells #[.int .u8 65, .string ⟨#[]⟩] 32)).alloc (.cells #[.int .i64 65, .int .i64 (i : Int), .int .i64 (j : Int)] 61)) = w4 at hS ⊢
                  generalize hrb : wr.heap.size = rb at hS ⊢
                  clear h0 h1 hxb hxp hx0
                  refine start_ (n := 15) (S := SX w rb (w.heap.size + 1) bm nm bn nn (some ad) c0 s D Dn i j ⟨#[]⟩) (ds := [14]) #[false, false, false, false, false, false, false, false, false, false, false, false, false, false, false] (by kernel_rfl) rfl rfl (SX.drawn hS (by repeat (first | exact Drawn0.refl _ | apply Drawn0.step))) (fun hHeld => ?_)
                  refine with_tabW treT.tab15 treT.bits15 (fun HT_ HW_ => ?_)
                  refine pure_ (i := 0) (N := some 48) (v := ?_) (a' := ?_) #[true, false, false, false, false, false, false, false, false, false, false, false, false, false, false] rfl rfl (any_of HT_.out (by kernel_rfl)) (fun _ _ _ h => h) (Or.inl ⟨by rfl, ?_⟩) ?_ ?_
                  rotate_left
                  · intro w'
                    go_simp
                    with_reducible rfl
                  rotate_left
                  · simp only [Act.put, List.setIfInBounds_toArray, List.set_cons_zero, List.set_cons_succ, i64_w, i32_w]
                    rfl
                  refine take_ (i := 1) (N := some 49) (v := ?_) (a' := ?_) #[true, true, false, false, false, false, false, false, false, false, false, false, false, false, false] rfl rfl (take_ofW HT_.out HW_.out (by kernel_rfl)) (fun _ _ _ h => h) (Or.inl ⟨by rfl, ?_⟩) hHeld ?_ ?_
                  rotate_left
                  · rintro w' ⟨s0, s1, s2, s3, s4, s5, s6⟩
                    go_simp
                    with_reducible rfl
                  rotate_left
                  · simp only [Act.put, List.setIfInBounds_toArray, List.set_cons_zero, List.set_cons_succ, i64_w, i32_w]
                    rfl
                  refine pure_ (i := 2) (N := some 50) (v := ?_) (a' := ?_) #[true, true, true, false, false, false, false, false, false, false, false, false, false, false, false] rfl rfl (any_of HT_.out (by kernel_rfl)) (fun _ _ _ h => h) (Or.inl ⟨by rfl, ?_⟩) ?_ ?_
                  rotate_left
                  · intro w'
                    go_simp
                    with_reducible rfl
                  rotate_left
                  · simp only [Act.put, List.setIfInBounds_toArray, List.set_cons_zero, List.set_cons_succ, i64_w, i32_w]
                    rfl
                  refine take_ (i := 3) (N := some 51) (v := ?_) (a' := ?_) #[true, true, true, true, false, false, false, false, false, false, false, false, false, false, false] rfl rfl (take_ofW HT_.out HW_.out (by kernel_rfl)) (fun _ _ _ h => h) (Or.inl ⟨by rfl, ?_⟩) hHeld ?_ ?_
                  rotate_left
                  · rintro w' ⟨s0, s1, s2, s3, s4, s5, s6⟩
                    go_simp
                    with_reducible rfl
                  rotate_left
                  · simp only [Act.put, List.setIfInBounds_toArray, List.set_cons_zero, List.set_cons_succ, i64_w, i32_w]
                    rfl
                  refine take_ (i := 4) (N := some 52) (v := .int .i64 (v1 s (T r) i j)) (a' := ?_) #[true, true, true, true, true, false, false, false, false, false, false, false, false, false, false] rfl rfl (take_ofW HT_.out HW_.out (by kernel_rfl)) (fun _ _ _ h => h) (Or.inl ⟨by rfl, ?_⟩) hHeld ?_ ?_
                  · rintro w' ⟨s0, s1, s2, s3, s4, s5, s6⟩
                    obtain ⟨c_, hrun, hat, _⟩ := s4.lookup_int lawK Tryd.underlying58 Tryd.underlying3 (zero3 _) HK.out
                    obtain rfl : (v1 s (T r) i j) = c_ := by injection HL.out.symm.trans hat with e1; injection e1
                    go_simp
                    first | done | with_reducible rfl
                  rotate_left
                  · simp only [Act.put, List.setIfInBounds_toArray, List.set_cons_zero, List.set_cons_succ, i64_w, i32_w]
                    rfl
                  refine pure_ (i := 5) (N := some 53) (v := ?_) (a' := ?_) #[true, true, true, true, true, true, false, false, false, false, false, false, false, false, false] rfl rfl (any_of HT_.out (by kernel_rfl)) (fun _ _ _ h => h) (Or.inl ⟨by rfl, ?_⟩) ?_ ?_
                  rotate_left
                  · intro w'
                    go_simp
                    with_reducible rfl
                  rotate_left
                  · simp only [Act.put, List.setIfInBounds_toArray, List.set_cons_zero, List.set_cons_succ, i64_w, i32_w]
                    rfl
                  refine pure_ (i := 6) (N := some 54) (v := ?_) (a' := ?_) #[true, true, true, true, true, true, true, false, false, false, false, false, false, false, false] rfl rfl (any_of HT_.out (by kernel_rfl)) (fun _ _ _ h => h) (Or.inl ⟨by rfl, ?_⟩) ?_ ?_
                  rotate_left
                  · intro w'
                    go_simp
                    with_reducible rfl
                  rotate_left
                  · simp only [Act.put, List.setIfInBounds_toArray, List.set_cons_zero, List.set_cons_succ, i64_w, i32_w]
                    rfl
                  refine take_ (i := 7) (N := some 55) (v := ?_) (a' := ?_) #[true, true, true, true, true, true, true, true, false, false, false, false, false, false, false] rfl rfl (take_ofW HT_.out HW_.out (by kernel_rfl)) (fun _ _ _ h => h) (Or.inl ⟨by rfl, ?_⟩) hHeld ?_ ?_
                  rotate_left
                  · rintro w' ⟨s0, s1, s2, s3, s4, s5, s6⟩
                    go_simp
                    with_reducible rfl
                  rotate_left
                  · simp only [Act.put, List.setIfInBounds_toArray, List.set_cons_zero, List.set_cons_succ, i64_w, i32_w]
                    rfl
                  refine pure_ (i := 8) (N := some 56) (v := ?_) (a' := ?_) #[true, true, true, true, true, true, true, true, true, false, false, false, false, false, false] rfl rfl (any_of HT_.out (by kernel_rfl)) (fun _ _ _ h => h) (Or.inl ⟨by rfl, ?_⟩) ?_ ?_
                  rotate_left
                  · intro w'
                    go_simp
                    with_reducible rfl
                  rotate_left
                  · simp only [Act.put, List.setIfInBounds_toArray, List.set_cons_zero, List.set_cons_succ, i64_w, i32_w]
                    rfl
                  refine pure_ (i := 9) (N := some 57) (v := ?_) (a' := ?_) #[true, true, true, true, true, true, true, true, true, true, false, false, false, false, false] rfl rfl (any_of HT_.out (by kernel_rfl)) (fun _ _ _ h => h) (Or.inl ⟨by rfl, ?_⟩) ?_ ?_
                  rotate_left
                  · intro w'
                    go_simp
                    with_reducible rfl
                  rotate_left
                  · simp only [Act.put, List.setIfInBounds_toArray, List.set_cons_zero, List.set_cons_succ, i64_w, i32_w]
                    rfl
                  refine pure_ (i := 12) (N := some 60) (v := ?_) (a' := ?_) #[true, true, true, true, true, true, true, true, true, true, false, false, true, false, false] rfl rfl (any_of HT_.out (by kernel_rfl)) (fun _ _ _ h => h) (Or.inl ⟨by rfl, ?_⟩) ?_ ?_
                  rotate_left
                  · intro w'
                    go_simp
                    with_reducible rfl
                  rotate_left
                  · simp only [Act.put, List.setIfInBounds_toArray, List.set_cons_zero, List.set_cons_succ, i64_w, i32_w]
                    rfl
                  refine one_ (i := 10) (N := some 58) #[true, true, true, true, true, true, true, true, true, true, true, false, true, false, false] rfl rfl (one_of HT_.out (by kernel_rfl)) (by decide) (fun K hK => ?_)
                  refine goes_ Tryd.func25 (by kernel_rfl) rfl #[.pointer (some ⟨w.heap.size + 1, 0, none⟩), .string ⟨#[]⟩, .int .i64 (i : Int), .int .i64 (j : Int)] (by rfl) rfl rfl (by (try simp only [List.map_toArray, List.map_cons, List.map_nil]); first | done | rfl | (simp only [List.length_drop, List.length_take]; rfl)) ?_
                  refine (ways_nil i j _).mono ?_
                  rintro e wr1 ⟨rfl, hb⟩
                  refine ⟨_, rfl, ?_⟩
                  refine hK.out _ _ (SX.drawn hHeld hb) (fun hHeld => ?_)
                  clear hK K hb
                  refine norm_ (a' := ?_) ?_ ?_
                  rotate_left
                  · show Act.put _ (some 58) _ = _
                    simp only [Act.put, List.setIfInBounds_toArray, List.set_cons_zero, List.set_cons_succ, i64_w, i32_w]
                    rfl
                  refine pure_ (i := 11) (N := some 59) (v := ?_) (a' := ?_) #[true, true, true, true, true, true, true, true, true, true, true, true, true, false, false] rfl rfl (any_of HT_.out (by kernel_rfl)) (fun _ _ _ h => h) (Or.inl ⟨by rfl, ?_⟩) ?_ ?_
                  rotate_left
                  · intro w'
                    go_simp
                    with_reducible rfl
                  rotate_left
                  · simp only [Act.put, List.setIfInBounds_toArray, List.set_cons_zero, List.set_cons_succ, i64_w, i32_w]
                    rfl
                  refine pure_ (i := 13) (N := some 61) (v := ?_) (a' := ?_) #[true, true, true, true, true, true, true, true, true, true, true, true, true, true, false] rfl rfl (any_of HT_.out (by kernel_rfl)) (fun _ _ _ h => h) (Or.inl ⟨by rfl, ?_⟩) ?_ ?_
                  rotate_left
                  · intro w'
                    go_simp
                    with_reducible rfl
                  rotate_left
                  · simp only [Act.put, List.setIfInBounds_toArray, List.set_cons_zero, List.set_cons_succ, i64_w, i32_w]
                    rfl
                  refine last_ (i := 14) (N := none) #[true, true, true, true, true, true, true, true, true, true, true, true, true, true, true] rfl rfl (one_of HT_.out (by kernel_rfl)) (by decide) (fun K hK => ?_)
                  obtain ⟨w7, hrun7, own7, hg7⟩ := (SX.O hHeld).update lawK Tryd.underlying58 (show nn < maxLen by unfold maxLen; omega) HK.out (plainElem_int Tryd.underlying3 (wf_v2 s (T r) i j))
                  refine skip_ (w1 := w7) (by rfl) rfl ?_ ?_
                  · simp only [v2, mn, gt_iff_lt] at hrun7
                    go_simp
                    first | done | rfl | (rw [hrun7]; rfl)
                  refine hK.out _ _ ?_
                  clear hK K
                  refine done_ (done_of HT_.out (by kernel_rfl)) ?_
                  have hend := SX.put hHeld hg7 (by omega) (by omega) (by omega)
                  go_wp2_with fail
                  exact ⟨⟨2, nn + 1, _, rfl, by omega, by omega, ⟨own7⟩, ⟨(HQ.out.put HO.out.isMap (by omega) (by omega) _).congr (fun a b => (sg_x n i j 1 a b).symm) (fun a b => (congrArg (fun q => if a = i ∧ b = j then q else FG n (T (r + 1)) (v1 s (T r)) i j 1 a b) ((HT.out.step r i j).trans (if_pos ⟨hij, hjl⟩)).symm).trans (fg_x1 n _ _ i j a b))⟩, ⟨hend.1⟩, ⟨hend.2⟩⟩, by decide⟩
              · as_aux_lemma =>
                have hxb : decide ((x : Int) < 2) = false := decide_eq_false (by omega)
                have hxp : ((x : Int) < 2) = False := eq_false (by omega)
                obtain rfl : x = 2 := by omega
                have HQ2 := Aside0.mk (HQ.out.congr (fun a b => sg_j n i j a b hij hjl) (fun a b => fg_j n _ _ i j a b hij hjl))
                go_wp2_with fail
                exact ⟨⟨j + 1, nn, Dn, by first | rw [HWJ.out] | (congr 1 <;> omega), by omega, by omega, by omega, HO, HQ2, HF, HW⟩, meas_t (n + 1) j _ (by first | exact HWJ.out | omega) (by omega)⟩
          · as_aux_lemma =>
            have hjb : decide ((j : Int) ≤ (n : Int)) = false := decide_eq_false (by omega)
            have hjp : ((j : Int) ≤ (n : Int)) = False := eq_false (by omega)
            obtain rfl : j = n + 1 := by omega
            have HQ2 := Aside0.mk (HQ.out.congr (fun a b => sg_i n i a b) (fun a b => fg_i n _ _ i a b (by omega)))
            go_wp2_with fail
            exact ⟨⟨i + 1, nn, Dn, by first | rw [HWI.out] | (congr 1 <;> omega), by omega, by omega, HO, HQ2, HF, HW⟩, meas_t (n + 1) i _ (by first | exact HWI.out | omega) (by omega)⟩
      · have hwn : wrap64 ((n : Int) + 1) = (n : Int) + 1 := by unfold wrap64; omega
        have hib : decide ((i : Int) < (n : Int) + 1) = false := decide_eq_false (by omega)
        have hip : ((i : Int) < (n : Int) + 1) = False := eq_false (by omega)
        obtain rfl : i = n + 1 := by omega
        have HQ2 : Aside0 (Rep Dn (fun a b => a ≤ b ∧ b ≤ n) (T (r + 1))) := ⟨HQ.out.congr (fun a b => by unfold SG dn; omega) (fun a b => by
          unfold FG
          have h3 := HT.out.step r a b
          by_cases h : a = n + 1 ∧ b = n + 1
          · rw [if_pos h, if_pos rfl, h3, if_neg (by omega)]
          · rw [if_neg h]
            by_cases h2 : dn n (n + 1) (n + 1) a b
            · rw [if_pos h2]
            · rw [if_neg h2, h3, if_neg (by unfold dn at h2; omega)])⟩
        have hc3 : wr.cell? ⟨w.heap.size + 1, 3, none⟩ = some (.map (some bm)) := (blk_cell HF.out.box 3).trans rfl
        go_wp2_with fail
        refine (same.calls HQ2.out HP.out _ HO.out HF.out.own).mono ?_
        rintro e w5 ⟨⟨eq, rfl, hyes, hno⟩, hb⟩
        replace HO := Aside0.mk (owns_below HO.out hb)
        replace HF := Aside0.mk (HF.out.below hb)
        replace HW := Aside0.mk (below_step HW.out hb)
        clear hb hc3 hib hip
        cases eq with
        | true =>
          have hrm : r = m := by
            by_cases c : r = m
            · exact c
            · obtain ⟨a, b, h1, h2, h3⟩ := HT.out.go r (by omega)
              exact absurd (hyes rfl a b ⟨h1, h2⟩) h3
          clear hyes hno
          subst hrm
          obtain ⟨ad, e0, h0, h1⟩ := at_T32 HR.out 0 (by omega) (by omega)
          cases e0
          have hz : w.cell? ad = some (.int .u8 65) := h0
          have h65 := (HW.out.cell (World.block_lt_of_cell? w _ hz)).trans hz
          clear h0 h1 hz
          go_wp2_with fail
          refine (count.calls HP.out 0 n (by omega) (by omega) _ HF.out).mono ?_
          rintro e w6 ⟨rfl, hb⟩
          have HW6 := Aside0.mk (below_step HW.out hb.below)
          clear hb
          go_wp2_with fail
          go_ret
          exact ⟨by first | rfl | simp, HW6.out⟩
        | false =>
          have hrm : r < m := by
            by_cases c : r < m
            · exact c
            · obtain rfl : r = m := by omega
              obtain ⟨a, b, ⟨h1, h2⟩, h3⟩ := hno rfl
              exact absurd (HT.out.stop a b h1 h2) h3
          clear hyes hno
          have HWR : Aside0 (wrap64 ((r : Int) + 1) = ((r + 1 : Nat) : Int)) := ⟨by unfold wrap64; omega⟩
          have hc3 : w5.cell? ⟨w.heap.size + 1, 3, none⟩ = some (.map (some bm)) := (blk_cell HF.out.box 3).trans rfl
          have hf3 := blk_frozen HF.out.box 3
          have HF6 : Aside0 (FSt (w5.setCell ⟨w.heap.size + 1, 3, none⟩ (.map (some bn))) (w.heap.size + 1) bn nn A0 c0 s Dn) :=
            ⟨⟨blk_put (cs := #[.slice A0 2 c0, .string s, .int .i64 100, .map (some bm)]) HF.out.box 3 (.map (some bn)) rfl, owns_at HO.out (Below.heap_setCell _ _ _ _ (by show bn ≠ w.heap.size + 1; omega))⟩⟩
          have HW6 : Aside0 (Below w.heap.size w (w5.setCell ⟨w.heap.size + 1, 3, none⟩ (.map (some bn)))) := ⟨below_set' HW.out (p := ⟨w.heap.size + 1, 3, none⟩) (by show w.heap.size ≤ w.heap.size + 1; omega) _⟩
          go_wp2_with fail
          exact ⟨⟨r + 1, bn, nn, Dn, _, by first | rw [HWR.out] | (congr 1 <;> omega), by omega, by omega, by omega, HF6, HQ2, HW6⟩, meas_t (m + 1) r _ (by first | exact HWR.out | omega) (by omega)⟩
end Go.Proofs.YtmlbdkkdejecmaaDoor.X
