/- The contracts of count and ways: in how many ways the letters of brackets' rules make a piece. -/
import Derived.Test.YtmlbdkkdejecmaaDoorQHKeys
import Derived.Laws.EntriesVeiled
import Derived.Carry
set_option linter.unusedVariables false
set_option linter.unusedSimpArgs false
namespace Go.Proofs.YtmlbdkkdejecmaaDoor.X
open Go.RowKit Go.Proofs.YtmlbdkkdejecmaaDoorW.PrintWords Go.Proofs.YtmlbdkkdejecmaaDoorW.PrintLast Go.Proofs.YtmlbdkkdejecmaaDoorW.PrintMore
attribute [local go_sem] Oper.semAt_some
attribute [local go_sem] max2_int min2_int max_two min_two max_three min_three max_four min_four
open Go.Maps
set_option maxRecDepth 100000 in
set_option maxHeartbeats 8000000 in
theorem count.calls {gf bm nn : Nat} {A : Option Addr} {c : Nat} {s : ByteArray} {D : DataW Unit} {S : Nat → Nat → Prop} {F : Nat → Nat → Int} (hR : Rep D S F) (i j : Nat) (hi : i ≤ 1000) (hj : j ≤ 1000) (w : World) (hF : FSt w gf bm nn A c s D) :
    Calls Tryd.prog 27 #[.pointer (some ⟨gf, 0, none⟩), .int .u8 65, .int .i64 (i : Int), .int .i64 (j : Int)] w fun e w' => e = .returned (.int .i64 (F i j)) ∧ Drawn0 w w' := by
  have hu60 := Tryd.underlying60
  have hu61 := Tryd.underlying61
  have hu5 := Tryd.underlying5
  have hu3 := Tryd.underlying3
  have hc3 : w.cell? ⟨gf, 3, none⟩ = some (.map (some bm)) := (blk_cell hF.box 3).trans rfl
  have HO := Aside0.mk hF.own
  have HL := Aside0.mk (hR.look i j hi hj)
  have HK := Aside0.mk (key_of sm65 (smN hi) (smN hj))
  unfold kv at HK
  clear hF hR
  go_enter Tryd.func27, Tryd.ntmps27
  go_wp2_with (first | (at_lookup; refine wpList_lookup_own_int _ rfl _ _ 58 rfl 61 3 .i64 lawK Tryd.underlying58 Tryd.underlying3 (zero3 _) bm nn D rfl (by repeat (first | exact HO.out | apply World.ownsMap.alloc | apply World.ownsMap.drew)) (.agg #[.int .i64 65, .int .i64 (i : Int), .int .i64 (j : Int)]) (kl 65 (i : Int) (j : Int)) rfl HK.out ?_; intro c_ hat _; (obtain rfl : F i j = c_ := by injection HL.out.symm.trans hat with e1; injection e1)) | fail)
  go_ret
  exact ⟨by first | rfl | simp, by repeat (first | exact Drawn0.refl _ | apply Drawn0.step)⟩
/-- No letters. -/
def wN (i j : Nat) : Int := if i = j then 1 else 0
/-- The part A, then what g tells: the first d ends of its piece. -/
def pS (F g : Nat → Nat → Int) (i j : Nat) : Nat → Int
  | 0 => 0
  | d + 1 => if F i (i + d) > 0 then mn (wrap64 (pS F g i j d + wrap64 (F i (i + d) * g (i + d) j))) 100 else pS F g i j d
def wP (F g : Nat → Nat → Int) (i j : Nat) : Int := pS F g i j (j + 1 - i)
/-- A word, then what g tells. -/
def wL (s : ByteArray) (c : Int) (g : Nat → Nat → Int) (i j : Nat) : Int := if i < j then (if bt s (i : Int) = c then g (i + 1) j else 0) else 0
theorem FSt.drawn {W W1 : World} {gf bm nn : Nat} {A : Option Addr} {c : Nat} {s : ByteArray} {D : DataW Unit} (h : FSt W gf bm nn A c s D) (hd : Drawn0 W W1) : FSt W1 gf bm nn A c s D := by
  obtain ⟨n, rfl⟩ := hd
  exact h.below (pw_below_drewN (Below.refl _ _) n)
theorem drawn_trans {w W W1 : World} (h : Drawn0 w W) (k : Drawn0 W W1) : Drawn0 w W1 := by
  obtain ⟨n, rfl⟩ := h
  obtain ⟨m, rfl⟩ := k
  exact ⟨_, World.drewN_drewN _ _ _⟩
theorem bt_get (s : ByteArray) (i : Nat) (h : i < s.size) : bt s (i : Int) = ((s[i]'h).toNat : Int) := by
  unfold bt
  simp [h]
set_option maxRecDepth 100000 in
set_option maxHeartbeats 8000000 in
theorem ways_nil {gf : Nat} (i j : Nat) (w : World) :
    Calls Tryd.prog 25 #[.pointer (some ⟨gf, 0, none⟩), .string ⟨#[]⟩, .int .i64 (i : Int), .int .i64 (j : Int)] w fun e w' => e = .returned (.int .i64 (wN i j)) ∧ Drawn0 w w' := by
  unfold wN
  go_enter Tryd.func25, Tryd.ntmps25
  by_cases h : i = j
  · have hb : ((i : Int) == (j : Int)) = true := by simp [h]
    have hb2 : (i == j) = true := by simp [h]
    have hb3 : (i = j) = True := eq_true h
    have hb4 : ((i : Int) = (j : Int)) = True := eq_true (by omega)
    go_wp2_with fail
    go_ret
    exact ⟨by first | rfl | simp [h], by repeat (first | exact Drawn0.refl _ | apply Drawn0.step)⟩
  · have hb : ((i : Int) == (j : Int)) = false := by simp; omega
    have hb2 : (i == j) = false := by simp [h]
    have hb3 : (i = j) = False := eq_false h
    have hb4 : ((i : Int) = (j : Int)) = False := eq_false (by omega)
    go_wp2_with fail
    go_ret
    exact ⟨by first | rfl | simp [h], by repeat (first | exact Drawn0.refl _ | apply Drawn0.step)⟩
set_option maxRecDepth 100000 in
set_option maxHeartbeats 8000000 in
theorem ways_A {gf bm nn : Nat} {A : Option Addr} {c : Nat} {s : ByteArray} {D : DataW Unit} {S : Nat → Nat → Prop} {F : Nat → Nat → Int} (hR : Rep D S F) (i j : Nat) (hj : j ≤ 100) (w : World) (hF : FSt w gf bm nn A c s D) (hs : s.size ≤ 100) (hjs : j ≤ s.size) :
    Calls Tryd.prog 25 #[.pointer (some ⟨gf, 0, none⟩), .string ⟨#[65]⟩, .int .i64 (i : Int), .int .i64 (j : Int)] w fun e w' => e = .returned (.int .i64 (wP F wN i j)) ∧ Drawn0 w w' := by
  have hu60 := Tryd.underlying60
  have HF := Aside0.mk hF
  have HR := Aside0.mk hR
  have HJ := Aside0.mk hj
  have HS := Aside0.mk hs
  have HJS := Aside0.mk hjs
  clear hF hR hj hs hjs
  go_enter Tryd.func25, Tryd.ntmps25
  go_wp2_with fail
  go_quiet (fail)
  go_wp2_with fail
  refine (tables_isPart.calls 65 true _ (by decide)).mono ?_
  rintro e w1 ⟨rfl, ⟨nd, rfl⟩⟩
  generalize hw1 : World.drewN _ _ = w1
  have HB1 : Aside0 (Drawn0 w w1) := ⟨by rw [← hw1]; repeat (first | exact Drawn0.refl _ | apply Drawn0.step | exact ⟨_, rfl⟩ | exact ⟨_, World.drewN_drewN _ _ _⟩)⟩
  clear hw1
  go_wp2_with fail
  go_loopw [11, 12] (fun v11 v12 W => ∃ k : Nat, v12 = .int .i64 (k : Int) ∧ v11 = .int .i64 (pS F wN i j (k - i)) ∧ i ≤ k ∧ (k ≤ j + 1 ∨ k = i) ∧ Aside0 (Drawn0 w W)) (fun _ v12 _ => j + 1 - (intOf v12).toNat)
  case atStart => exact ⟨i, rfl, by rw [Nat.sub_self]; rfl, Nat.le_refl _, .inr rfl, HB1⟩
  case round =>
    clear HB1
    obtain ⟨k, rfl, rfl, hik, hk2, HW⟩ := hrel
    by_cases hkj : k ≤ j
    · have hkb : decide ((k : Int) ≤ (j : Int)) = true := decide_eq_true (by omega)
      have hkp : ((k : Int) ≤ (j : Int)) = True := eq_true (by omega)
      have hj1 := HJ.out
      have HWR : Aside0 (wrap64 ((k : Int) + 1) = ((k + 1 : Nat) : Int)) := ⟨by unfold wrap64; omega⟩
      go_wp2_with fail
      refine (count.calls HR.out i k (by omega) (by omega) _ (HF.out.drawn HW.out)).mono ?_
      rintro e w2 ⟨rfl, hb⟩
      replace HW := Aside0.mk (drawn_trans HW.out hb)
      clear hb
      have hps : pS F wN i j (k + 1 - i) = if F i k > 0 then mn (wrap64 (pS F wN i j (k - i) + wrap64 (F i k * wN k j))) 100 else pS F wN i j (k - i) := by
        rw [show k + 1 - i = (k - i) + 1 by omega, pS, show i + (k - i) = k by omega]
      by_cases hF0 : F i k > 0
      · have h0b : decide (F i k > 0) = true := decide_eq_true hF0
        have h0c : decide (0 < F i k) = true := decide_eq_true hF0
        have h0p : (0 < F i k) = True := eq_true hF0
        rw [if_pos hF0] at hps
        clear hF0
        have HPS := Aside0.mk hps
        clear hps
        have hc2 : w2.cell? ⟨gf, 2, none⟩ = some (.int .i64 100) := (blk_cell (HF.out.drawn HW.out).box 2).trans rfl
        go_wp2_with fail
        go_quiet (first | (go_at_call 25; refine (ways_nil k j _).mono ?_; rintro e w' ⟨rfl, ⟨nd2, rfl⟩⟩; (try first | exact ⟨rfl, _, World.drewN_drewN _ _ _⟩ | exact ⟨rfl, _, Eq.trans (World.drewN_drewN _ _ _) (congrArg (World.drewN _) (Nat.add_assoc _ _ _))⟩)) | fail)
        go_wp2_with fail
        exact ⟨⟨k + 1, by first | rw [HWR.out] | (congr 1 <;> omega), by rw [HPS.out]; rfl, by omega, .inl (by omega), ⟨drawn_trans HW.out ⟨⟨_, rfl⟩⟩⟩⟩, by simp only [intOf]; omega⟩
      · have h0b : decide (F i k > 0) = false := decide_eq_false hF0
        have h0c : decide (0 < F i k) = false := decide_eq_false hF0
        have h0p : (0 < F i k) = False := eq_false hF0
        rw [if_neg hF0] at hps
        clear hF0
        have HPS := Aside0.mk hps
        clear hps
        go_wp2_with fail
        exact ⟨⟨k + 1, by first | rw [HWR.out] | (congr 1 <;> omega), by rw [HPS.out], by omega, .inl (by omega), HW⟩, by simp only [intOf]; omega⟩
    · have hkb : decide ((k : Int) ≤ (j : Int)) = false := decide_eq_false (by omega)
      have hkp : ((k : Int) ≤ (j : Int)) = False := eq_false (by omega)
      have he : wP F wN i j = pS F wN i j (k - i) := by unfold wP; congr 1; omega
      have HE := Aside0.mk he
      clear he
      go_wp2_with fail
      go_ret
      exact ⟨by rw [HE.out]; rfl, HW.out⟩
set_option maxRecDepth 100000 in
set_option maxHeartbeats 8000000 in
theorem ways_bA {gf bm nn : Nat} {A : Option Addr} {c : Nat} {s : ByteArray} {D : DataW Unit} {S : Nat → Nat → Prop} {F : Nat → Nat → Int} (hR : Rep D S F) (i j : Nat) (hj : j ≤ 100) (w : World) (hF : FSt w gf bm nn A c s D) (hs : s.size ≤ 100) (hjs : j ≤ s.size) :
    Calls Tryd.prog 25 #[.pointer (some ⟨gf, 0, none⟩), .string ⟨#[98, 65]⟩, .int .i64 (i : Int), .int .i64 (j : Int)] w fun e w' => e = .returned (.int .i64 (wL s 98 (wP F wN) i j)) ∧ Drawn0 w w' := by
  have hu60 := Tryd.underlying60
  have HF := Aside0.mk hF
  have HR := Aside0.mk hR
  have HJ := Aside0.mk hj
  have HS := Aside0.mk hs
  have HJS := Aside0.mk hjs
  clear hF hR hj hs hjs
  go_enter Tryd.func25, Tryd.ntmps25
  go_wp2_with fail
  go_quiet (fail)
  go_wp2_with fail
  refine (tables_isPart.calls 98 false _ (by decide)).mono ?_
  rintro e w1 ⟨rfl, ⟨nd, rfl⟩⟩
  generalize hw1 : World.drewN _ _ = w1
  have HW : Aside0 (Drawn0 w w1) := ⟨by rw [← hw1]; repeat (first | exact Drawn0.refl _ | apply Drawn0.step | exact ⟨_, rfl⟩ | exact ⟨_, World.drewN_drewN _ _ _⟩)⟩
  clear hw1
  have hc1 : w1.cell? ⟨gf, 1, none⟩ = some (.string s) := (blk_cell (HF.out.drawn HW.out).box 1).trans rfl
  by_cases hij : i < j
  · have hib : decide ((i : Int) < (j : Int)) = true := decide_eq_true (by omega)
    have hip : ((i : Int) < (j : Int)) = True := eq_true (by omega)
    have hin : (i < j) = True := eq_true hij
    have hi1 := HS.out
    have hi2 := HJS.out
    have hs0 : ((i : Int) < (s.size : Int)) = True := eq_true (by omega)
    have hs1 : decide ((i : Int) < (s.size : Int)) = true := decide_eq_true (by omega)
    have hs2 : (i < s.size) = True := eq_true (by omega)
    have hlt : i < s.size := by omega
    have hbg := bt_get s i hlt
    have h8 : (((⟨#[98, 65]⟩ : ByteArray)[0]).toNat : Int) = 98 := rfl
    by_cases hq : bt s (i : Int) = 98
    · have HE : Aside0 (wL s 98 (wP F wN) i j = (wP F wN) (i + 1) j) := ⟨by unfold wL; rw [if_pos hij, if_pos hq]⟩
      have hqb : (((s[i]'hlt).toNat : Int) == (((⟨#[98, 65]⟩ : ByteArray)[0]).toNat : Int)) = true := beq_iff_eq.mpr (hbg.symm.trans (hq.trans h8.symm))
      have HWR : Aside0 (wrap64 ((i : Int) + 1) = ((i + 1 : Nat) : Int)) := ⟨by unfold wrap64; omega⟩
      clear hq hbg h8
      go_wp2_with fail
      first | rw [HWR.out] | rw [show (i : Int) + 1 = ((i + 1 : Nat) : Int) from rfl] | skip
      refine (ways_A HR.out (i + 1) j HJ.out _ (HF.out.drawn HW.out) HS.out HJS.out).mono ?_
      rintro e w2 ⟨rfl, hb⟩
      replace HW := Aside0.mk (drawn_trans HW.out hb)
      clear hb
      go_wp2_with fail
      go_ret
      exact ⟨by rw [HE.out]; rfl, HW.out⟩
    · have HE : Aside0 (wL s 98 (wP F wN) i j = 0) := ⟨by unfold wL; rw [if_pos hij, if_neg hq]⟩
      have hqb : (((s[i]'hlt).toNat : Int) == (((⟨#[98, 65]⟩ : ByteArray)[0]).toNat : Int)) = false := beq_eq_false_iff_ne.mpr (fun e_ => hq (hbg.trans (e_.trans h8)))
      clear hq hbg h8
      go_wp2_with fail
      go_ret
      exact ⟨by rw [HE.out]; rfl, HW.out⟩
  · have hib : decide ((i : Int) < (j : Int)) = false := decide_eq_false (by omega)
    have hip : ((i : Int) < (j : Int)) = False := eq_false (by omega)
    have hin : (i < j) = False := eq_false hij
    have HE : Aside0 (wL s 98 (wP F wN) i j = 0) := ⟨by unfold wL; rw [if_neg hij]⟩
    go_wp2_with fail
    go_ret
    exact ⟨by rw [HE.out]; rfl, HW.out⟩
set_option maxRecDepth 100000 in
set_option maxHeartbeats 8000000 in
theorem ways_AbA {gf bm nn : Nat} {A : Option Addr} {c : Nat} {s : ByteArray} {D : DataW Unit} {S : Nat → Nat → Prop} {F : Nat → Nat → Int} (hR : Rep D S F) (i j : Nat) (hj : j ≤ 100) (w : World) (hF : FSt w gf bm nn A c s D) (hs : s.size ≤ 100) (hjs : j ≤ s.size) :
    Calls Tryd.prog 25 #[.pointer (some ⟨gf, 0, none⟩), .string ⟨#[65, 98, 65]⟩, .int .i64 (i : Int), .int .i64 (j : Int)] w fun e w' => e = .returned (.int .i64 (wP F (wL s 98 (wP F wN)) i j)) ∧ Drawn0 w w' := by
  have hu60 := Tryd.underlying60
  have HF := Aside0.mk hF
  have HR := Aside0.mk hR
  have HJ := Aside0.mk hj
  have HS := Aside0.mk hs
  have HJS := Aside0.mk hjs
  clear hF hR hj hs hjs
  go_enter Tryd.func25, Tryd.ntmps25
  go_wp2_with fail
  go_quiet (fail)
  go_wp2_with fail
  refine (tables_isPart.calls 65 true _ (by decide)).mono ?_
  rintro e w1 ⟨rfl, ⟨nd, rfl⟩⟩
  generalize hw1 : World.drewN _ _ = w1
  have HB1 : Aside0 (Drawn0 w w1) := ⟨by rw [← hw1]; repeat (first | exact Drawn0.refl _ | apply Drawn0.step | exact ⟨_, rfl⟩ | exact ⟨_, World.drewN_drewN _ _ _⟩)⟩
  clear hw1
  go_wp2_with fail
  go_loopw [11, 12] (fun v11 v12 W => ∃ k : Nat, v12 = .int .i64 (k : Int) ∧ v11 = .int .i64 (pS F (wL s 98 (wP F wN)) i j (k - i)) ∧ i ≤ k ∧ (k ≤ j + 1 ∨ k = i) ∧ Aside0 (Drawn0 w W)) (fun _ v12 _ => j + 1 - (intOf v12).toNat)
  case atStart => exact ⟨i, rfl, by rw [Nat.sub_self]; rfl, Nat.le_refl _, .inr rfl, HB1⟩
  case round =>
    clear HB1
    obtain ⟨k, rfl, rfl, hik, hk2, HW⟩ := hrel
    by_cases hkj : k ≤ j
    · have hkb : decide ((k : Int) ≤ (j : Int)) = true := decide_eq_true (by omega)
      have hkp : ((k : Int) ≤ (j : Int)) = True := eq_true (by omega)
      have hj1 := HJ.out
      have HWR : Aside0 (wrap64 ((k : Int) + 1) = ((k + 1 : Nat) : Int)) := ⟨by unfold wrap64; omega⟩
      go_wp2_with fail
      refine (count.calls HR.out i k (by omega) (by omega) _ (HF.out.drawn HW.out)).mono ?_
      rintro e w2 ⟨rfl, hb⟩
      replace HW := Aside0.mk (drawn_trans HW.out hb)
      clear hb
      have hps : pS F (wL s 98 (wP F wN)) i j (k + 1 - i) = if F i k > 0 then mn (wrap64 (pS F (wL s 98 (wP F wN)) i j (k - i) + wrap64 (F i k * (wL s 98 (wP F wN)) k j))) 100 else pS F (wL s 98 (wP F wN)) i j (k - i) := by
        rw [show k + 1 - i = (k - i) + 1 by omega, pS, show i + (k - i) = k by omega]
      by_cases hF0 : F i k > 0
      · have h0b : decide (F i k > 0) = true := decide_eq_true hF0
        have h0c : decide (0 < F i k) = true := decide_eq_true hF0
        have h0p : (0 < F i k) = True := eq_true hF0
        rw [if_pos hF0] at hps
        clear hF0
        have HPS := Aside0.mk hps
        clear hps
        have hc2 : w2.cell? ⟨gf, 2, none⟩ = some (.int .i64 100) := (blk_cell (HF.out.drawn HW.out).box 2).trans rfl
        go_wp2_with fail
        go_quiet (first | (go_at_call 25; refine (ways_bA HR.out k j HJ.out _ (by first | exact HF.out.drawn HW.out | exact (HF.out.drawn HW.out).drawn ⟨⟨_, rfl⟩⟩ | exact ((HF.out.drawn HW.out).drawn ⟨⟨_, rfl⟩⟩).drawn ⟨⟨_, rfl⟩⟩) HS.out HJS.out).mono ?_; rintro e w' ⟨rfl, ⟨nd2, rfl⟩⟩; (try first | exact ⟨rfl, _, World.drewN_drewN _ _ _⟩ | exact ⟨rfl, _, Eq.trans (World.drewN_drewN _ _ _) (congrArg (World.drewN _) (Nat.add_assoc _ _ _))⟩)) | fail)
        go_wp2_with fail
        exact ⟨⟨k + 1, by first | rw [HWR.out] | (congr 1 <;> omega), by rw [HPS.out]; rfl, by omega, .inl (by omega), ⟨drawn_trans HW.out ⟨⟨_, rfl⟩⟩⟩⟩, by simp only [intOf]; omega⟩
      · have h0b : decide (F i k > 0) = false := decide_eq_false hF0
        have h0c : decide (0 < F i k) = false := decide_eq_false hF0
        have h0p : (0 < F i k) = False := eq_false hF0
        rw [if_neg hF0] at hps
        clear hF0
        have HPS := Aside0.mk hps
        clear hps
        go_wp2_with fail
        exact ⟨⟨k + 1, by first | rw [HWR.out] | (congr 1 <;> omega), by rw [HPS.out], by omega, .inl (by omega), HW⟩, by simp only [intOf]; omega⟩
    · have hkb : decide ((k : Int) ≤ (j : Int)) = false := decide_eq_false (by omega)
      have hkp : ((k : Int) ≤ (j : Int)) = False := eq_false (by omega)
      have he : wP F (wL s 98 (wP F wN)) i j = pS F (wL s 98 (wP F wN)) i j (k - i) := by unfold wP; congr 1; omega
      have HE := Aside0.mk he
      clear he
      go_wp2_with fail
      go_ret
      exact ⟨by rw [HE.out]; rfl, HW.out⟩
set_option maxRecDepth 100000 in
set_option maxHeartbeats 8000000 in
theorem ways_aAbA {gf bm nn : Nat} {A : Option Addr} {c : Nat} {s : ByteArray} {D : DataW Unit} {S : Nat → Nat → Prop} {F : Nat → Nat → Int} (hR : Rep D S F) (i j : Nat) (hj : j ≤ 100) (w : World) (hF : FSt w gf bm nn A c s D) (hs : s.size ≤ 100) (hjs : j ≤ s.size) :
    Calls Tryd.prog 25 #[.pointer (some ⟨gf, 0, none⟩), .string ⟨#[97, 65, 98, 65]⟩, .int .i64 (i : Int), .int .i64 (j : Int)] w fun e w' => e = .returned (.int .i64 (wL s 97 (wP F (wL s 98 (wP F wN))) i j)) ∧ Drawn0 w w' := by
  have hu60 := Tryd.underlying60
  have HF := Aside0.mk hF
  have HR := Aside0.mk hR
  have HJ := Aside0.mk hj
  have HS := Aside0.mk hs
  have HJS := Aside0.mk hjs
  clear hF hR hj hs hjs
  go_enter Tryd.func25, Tryd.ntmps25
  go_wp2_with fail
  go_quiet (fail)
  go_wp2_with fail
  refine (tables_isPart.calls 97 false _ (by decide)).mono ?_
  rintro e w1 ⟨rfl, ⟨nd, rfl⟩⟩
  generalize hw1 : World.drewN _ _ = w1
  have HW : Aside0 (Drawn0 w w1) := ⟨by rw [← hw1]; repeat (first | exact Drawn0.refl _ | apply Drawn0.step | exact ⟨_, rfl⟩ | exact ⟨_, World.drewN_drewN _ _ _⟩)⟩
  clear hw1
  have hc1 : w1.cell? ⟨gf, 1, none⟩ = some (.string s) := (blk_cell (HF.out.drawn HW.out).box 1).trans rfl
  by_cases hij : i < j
  · have hib : decide ((i : Int) < (j : Int)) = true := decide_eq_true (by omega)
    have hip : ((i : Int) < (j : Int)) = True := eq_true (by omega)
    have hin : (i < j) = True := eq_true hij
    have hi1 := HS.out
    have hi2 := HJS.out
    have hs0 : ((i : Int) < (s.size : Int)) = True := eq_true (by omega)
    have hs1 : decide ((i : Int) < (s.size : Int)) = true := decide_eq_true (by omega)
    have hs2 : (i < s.size) = True := eq_true (by omega)
    have hlt : i < s.size := by omega
    have hbg := bt_get s i hlt
    have h8 : (((⟨#[97, 65, 98, 65]⟩ : ByteArray)[0]).toNat : Int) = 97 := rfl
    by_cases hq : bt s (i : Int) = 97
    · have HE : Aside0 (wL s 97 (wP F (wL s 98 (wP F wN))) i j = (wP F (wL s 98 (wP F wN))) (i + 1) j) := ⟨by unfold wL; rw [if_pos hij, if_pos hq]⟩
      have hqb : (((s[i]'hlt).toNat : Int) == (((⟨#[97, 65, 98, 65]⟩ : ByteArray)[0]).toNat : Int)) = true := beq_iff_eq.mpr (hbg.symm.trans (hq.trans h8.symm))
      have HWR : Aside0 (wrap64 ((i : Int) + 1) = ((i + 1 : Nat) : Int)) := ⟨by unfold wrap64; omega⟩
      clear hq hbg h8
      go_wp2_with fail
      first | rw [HWR.out] | rw [show (i : Int) + 1 = ((i + 1 : Nat) : Int) from rfl] | skip
      refine (ways_AbA HR.out (i + 1) j HJ.out _ (HF.out.drawn HW.out) HS.out HJS.out).mono ?_
      rintro e w2 ⟨rfl, hb⟩
      replace HW := Aside0.mk (drawn_trans HW.out hb)
      clear hb
      go_wp2_with fail
      go_ret
      exact ⟨by rw [HE.out]; rfl, HW.out⟩
    · have HE : Aside0 (wL s 97 (wP F (wL s 98 (wP F wN))) i j = 0) := ⟨by unfold wL; rw [if_pos hij, if_neg hq]⟩
      have hqb : (((s[i]'hlt).toNat : Int) == (((⟨#[97, 65, 98, 65]⟩ : ByteArray)[0]).toNat : Int)) = false := beq_eq_false_iff_ne.mpr (fun e_ => hq (hbg.trans (e_.trans h8)))
      clear hq hbg h8
      go_wp2_with fail
      go_ret
      exact ⟨by rw [HE.out]; rfl, HW.out⟩
  · have hib : decide ((i : Int) < (j : Int)) = false := decide_eq_false (by omega)
    have hip : ((i : Int) < (j : Int)) = False := eq_false (by omega)
    have hin : (i < j) = False := eq_false hij
    have HE : Aside0 (wL s 97 (wP F (wL s 98 (wP F wN))) i j = 0) := ⟨by unfold wL; rw [if_neg hij]⟩
    go_wp2_with fail
    go_ret
    exact ⟨by rw [HE.out]; rfl, HW.out⟩
end Go.Proofs.YtmlbdkkdejecmaaDoor.X
