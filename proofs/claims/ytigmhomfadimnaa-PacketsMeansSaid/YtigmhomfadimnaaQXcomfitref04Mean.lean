/- Written by a program of this session (wip/tools/xprint.py, which calls the kit's print): Go functions as Lean functions, and for each the proof that the machine's call does what it says; no conditions but those that each theorem names. -/
import Derived.Test.YtigmhomfadimnaaQX0
import Derived.Test.YtigmhomfadimnaaQXR
import Derived.Test.YtigmhomfadimnaaQXRT
import Derived.Test.YtigmhomfadimnaaQXS
namespace Go.Proofs.Ytigmhomfadimnaa.X
open Go.RowKit Go.Proofs.YtigmhomfadimnaaW.PrintWords Go.Proofs.YtigmhomfadimnaaW.PrintLast Go.Proofs.YtigmhomfadimnaaW.PrintMore
attribute [local go_sem] max2_int min2_int max_two min_two max_three min_three max_four min_four   -- for this text's walks alone
set_option linter.unusedVariables false
set_option linter.unusedSimpArgs false

/-! ### comfitref04_Mean: function 28 -/
mutual
def comfitref04_Mean.l0 : Nat → List Int → Int → Int → List (S25) → Int → Option (Int × Int)
 | 0, _, _, _, _, _ => none
 | k + 1, x0, x1, x5, x6, x7 => if x7 ≤ x1 then ((comfitref04_Sum.f k x0 x7).bind fun t261 => ((comfitref04_frac.f k x5 t261).bind fun bt262 => (if 0 ≤ x7 then (if x7 < (x6.length : Int) then (comfitref04_Mean.l1 k x0 x1 x5 (x6.set (x7 : Int).toNat (⟨bt262.1, bt262.2⟩ : S25)) x7 x0 (x0.length : Int) 0) else (none)) else (none)))) else (if 0 ≤ x1 then (if x1 < (x6.length : Int) then (some ((rd_T25 x6 x1).f0, (rd_T25 x6 x1).f1)) else (none)) else (none))
def comfitref04_Mean.l1 : Nat → List Int → Int → Int → List (S25) → Int → List Int → Int → Int → Option (Int × Int)
 | 0, _, _, _, _, _, _, _, _ => none
 | k + 1, x0, x1, x5, x6, x7, x36, x37, x38 => if x38 < x37 then (if 0 ≤ x38 then (if x38 < (x36.length : Int) then (if (Go.bits .and .i64 (shr .i64 x7 x38) 1) = 1 then (if 0 ≤ x7 then (if x7 < (x6.length : Int) then ((comfitref04_Sum.f k x0 x7).bind fun t267 => ((comfitref04_frac.f k (rd x36 x38) t267).bind fun bt268 => (if 0 ≤ (Go.bits .andNot .i64 x7 (shl .i64 1 x38)) then (if (Go.bits .andNot .i64 x7 (shl .i64 1 x38)) < (x6.length : Int) then ((comfitref04_times.f k bt268.1 bt268.2 ((rd_T25 x6 (Go.bits .andNot .i64 x7 (shl .i64 1 x38))).f0) ((rd_T25 x6 (Go.bits .andNot .i64 x7 (shl .i64 1 x38))).f1)).bind fun bt271 => ((comfitref04_Plus.f k ((rd_T25 x6 x7).f0) ((rd_T25 x6 x7).f1) bt271.1 bt271.2).bind fun bt273 => (comfitref04_Mean.l1 k x0 x1 x5 (x6.set (x7 : Int).toNat (⟨bt273.1, bt273.2⟩ : S25)) x7 x36 x37 (wrap64 (x38 + 1))))) else (none)) else (none)))) else (none)) else (none)) else (comfitref04_Mean.l1 k x0 x1 x5 x6 x7 x36 x37 (wrap64 (x38 + 1)))) else (none)) else (none)) else (comfitref04_Mean.l0 k x0 x1 x5 x6 (wrap64 (x7 + 1)))
end
def comfitref04_Mean.f (k : Nat) (l0 : List Int) (a1 : Int) : Option (Int × Int) := (comfitref04_Sum.f k l0 (wrap64 ((shl .i64 1 (l0.length : Int)) - 1))).bind fun t253 => (if 0 ≤ (shl .i64 1 (l0.length : Int)) then (if (shl .i64 1 (l0.length : Int) : Int).toNat ≤ 17592186044416 then ((some (List.replicate (shl .i64 1 (l0.length : Int) : Int).toNat z25 : List (S25))).bind fun y254 => ((comfitref04_whole.f 0).bind fun bt257 => (if 0 < (y254.length : Int) then (comfitref04_Mean.l0 k l0 a1 t253 (y254.set (0 : Int).toNat (⟨bt257.1, bt257.2⟩ : S25)) 1) else (none)))) else (none)) else (none))
def comfitref04_Mean.T12 : Bool × List (List Nat × List Nat) := (true, [([], []), ([], []), ([], []), ([], []), ([2, 3], [2, 3]), ([4], [4]), ([], []), ([], []), ([], []), ([7, 8], [7, 8]), ([6, 9, 9], [6, 9]), ([], []), ([], []), ([], []), ([13], [13]), ([12, 14], [12, 14]), ([11, 15], [11, 15]), ([16], [16]), ([10, 17, 10], [10, 17]), ([5, 18, 18], [5, 18]), ([0, 1, 0, 1, 2, 3, 4, 5, 6, 7, 8, 9, 10, 11, 12, 13, 14, 15, 16, 17, 18, 19], [0, 1]), ([20, 19, 19, 0, 1, 2, 3, 4, 5, 6, 7, 8, 9, 10, 11, 12, 13, 14, 15, 16, 17, 18, 19], [19, 20])])
def comfitref04_Mean.B12 : List Nat := [0, 0, 0, 0, 12, 28, 0, 0, 0, 384, 960, 0, 0, 0, 8192, 28672, 63488, 129024, 262080, 524284, 1048575, 2097151]
theorem comfitref04_Mean.tab12 : rtab .any (opsOf Try.f28 12) = comfitref04_Mean.T12 := by kernel_rfl
theorem comfitref04_Mean.bits12 : waitsOk comfitref04_Mean.T12.2 comfitref04_Mean.B12 = true := by kernel_rfl
set_option maxHeartbeats 8000000 in
set_option maxRecDepth 100000 in
theorem comfitref04_Mean.calls (k : Nat) (A0 : Option Addr) (c0 : Nat) (l0 : List Int) (a1 : Int) (r1 : Int) (r2 : Int) (w : World) (hr0 : Kd.C (Kd.int .i64) w A0 l0.length l0) (hc0 : l0.length ≤ c0) (h : comfitref04_Mean.f k l0 a1 = some (r1, r2)) :
  Calls Try.prog 28 #[.slice A0 l0.length c0, .int .i64 a1] w fun e w' => e = .returned (.agg #[.int .i64 r1, .int .i64 r2]) ∧ Below w.heap.size w w' := by
 have hu25 := Try.underlying25
 have HR0 := Aside0.mk hr0
 have HC0 := Aside0.mk hc0
 clear hr0 hc0
 have HB := Aside0.mk (Below.refl w.heap.size w)
 have H : ((comfitref04_Sum.f k l0 (wrap64 ((shl .i64 1 (l0.length : Int)) - 1))).bind fun t253 => (if 0 ≤ (shl .i64 1 (l0.length : Int)) then (if (shl .i64 1 (l0.length : Int) : Int).toNat ≤ 17592186044416 then ((some (List.replicate (shl .i64 1 (l0.length : Int) : Int).toNat z25 : List (S25))).bind fun y254 => ((comfitref04_whole.f 0).bind fun bt257 => (if 0 < (y254.length : Int) then (comfitref04_Mean.l0 k l0 a1 t253 (y254.set (0 : Int).toNat (⟨bt257.1, bt257.2⟩ : S25)) 1) else (none)))) else (none)) else (none))) = some (r1, r2) := h
 clear h
 obtain ⟨ji3, hji3⟩ : ∃ j_ : Int, (shl .i64 1 (l0.length : Int)) = j_ := ⟨_, rfl⟩
 replace H : ((comfitref04_Sum.f k l0 (wrap64 ((ji3) - 1))).bind fun t253 => (if 0 ≤ (ji3) then (if (ji3 : Int).toNat ≤ 17592186044416 then ((some (List.replicate (ji3 : Int).toNat z25 : List (S25))).bind fun y254 => ((comfitref04_whole.f 0).bind fun bt257 => (if 0 < (y254.length : Int) then (comfitref04_Mean.l0 k l0 a1 t253 (y254.set (0 : Int).toNat (⟨bt257.1, bt257.2⟩ : S25)) 1) else (none)))) else (none)) else (none))) = some (r1, r2) := by first | (rw [hji3] at H; exact H) | (simp only [hji3] at H ⊢; exact H)
 have hji3_ : (IntKind.i64.wrap (1 * 2 ^ min (l0.length : Int).toNat 64)) = ji3 := hji3
 have hji3z : (l0.length : Int) ≤ 64 → (IntKind.i64.wrap (1 * 2 ^ (l0.length : Int).toNat)) = ji3 := shl_small hji3
 have hji3p : (IntKind.i64.wrap (1 * 2 ^ min l0.length 64)) = ji3 := hji3_
 have hji3q : (l0.length : Int) ≤ 64 → (IntKind.i64.wrap (1 * 2 ^ l0.length)) = ji3 := hji3z
 have hji3r : (IntKind.i64.wrap (2 ^ min l0.length 64)) = ji3 := by have h_ := hji3p; rw [Int.one_mul] at h_; exact h_
 have hji3s : (l0.length : Int) ≤ 64 → (IntKind.i64.wrap (2 ^ l0.length)) = ji3 := fun hle_ => by have h_ := hji3q hle_; rw [Int.one_mul] at h_; exact h_
 have hji3u : (IntKind.i64.wrap (2 ^ min (l0.length : Int).toNat 64)) = ji3 := by have h_ := hji3_; rw [Int.one_mul] at h_; exact h_
 have hji3v : (l0.length : Int) ≤ 64 → (IntKind.i64.wrap (2 ^ (l0.length : Int).toNat)) = ji3 := fun hle_ => by have h_ := hji3z hle_; rw [Int.one_mul] at h_; exact h_
 have hji3y : (wrap64 (1 * 2 ^ min (l0.length : Int).toNat 64)) = ji3 := (i64_w _).symm.trans hji3_
 have hji3x : (l0.length : Int) ≤ 64 → (wrap64 (1 * 2 ^ (l0.length : Int).toNat)) = ji3 := fun h_ => (i64_w _).symm.trans (hji3z h_)
 replace H := Option.bind_eq_some_iff.mp H
 obtain ⟨t253, A40, H⟩ := H
 replace H : (if 0 ≤ (ji3) then (if (ji3 : Int).toNat ≤ 17592186044416 then ((some (List.replicate (ji3 : Int).toNat z25 : List (S25))).bind fun y254 => ((comfitref04_whole.f 0).bind fun bt257 => (if 0 < (y254.length : Int) then (comfitref04_Mean.l0 k l0 a1 t253 (y254.set (0 : Int).toNat (⟨bt257.1, bt257.2⟩ : S25)) 1) else (none)))) else (none)) else (none)) = some (r1, r2) := H
 have A4 := Aside0.mk A40
 clear A40
 by_cases c5 : 0 ≤ (ji3)
 ·rw [if_pos c5] at H
  have c5b0 := eq_true c5
  have c5b1 : decide (0 ≤ (ji3)) = true := decide_eq_true c5
  clear c5
  by_cases c6 : (ji3 : Int).toNat ≤ 17592186044416
  ·rw [if_pos c6] at H
   have c6b0 := eq_true c6
   have c6b1 : decide ((ji3 : Int).toNat ≤ 17592186044416) = true := decide_eq_true c6
   clear c6
   obtain ⟨y254, hy254⟩ : ∃ y_ : List (S25), y_ = (List.replicate (ji3 : Int).toNat z25) := ⟨_, rfl⟩
   replace H : ((comfitref04_whole.f 0).bind fun bt257 => (if 0 < (y254.length : Int) then (comfitref04_Mean.l0 k l0 a1 t253 (y254.set (0 : Int).toNat (⟨bt257.1, bt257.2⟩ : S25)) 1) else (none))) = some (r1, r2) := by first | (rw [hy254]; with_reducible exact H) | (have H2_ := (Option.bind_some _ _).symm.trans H; rw [hy254]; with_reducible exact H2_) | (have H2_ := (Option.bind_some _ _).symm.trans H; with_reducible exact H2_) | with_reducible exact H | (rw [hy254]; exact H) | exact H
   have Ny254 := Aside0.mk hy254
   clear hy254
   replace H := Option.bind_eq_some_iff.mp H
   obtain ⟨⟨t257, t258⟩, A70, H⟩ := H
   replace H : (if 0 < (y254.length : Int) then (comfitref04_Mean.l0 k l0 a1 t253 (y254.set (0 : Int).toNat (⟨t257, t258⟩ : S25)) 1) else (none)) = some (r1, r2) := H
   have A7 := Aside0.mk A70
   clear A70
   by_cases c8 : 0 < (y254.length : Int)
   ·rw [if_pos c8] at H
    have c8b0 : decide (0 < (y254.length : Int)) = true := decide_eq_true c8
    have c8b1 : decide (0 < y254.length) = true := decide_eq_true (by omega)
    clear c8
    obtain ⟨y259, hy259⟩ : ∃ y_ : List (S25), y_ = (y254.set (0 : Int).toNat (⟨t257, t258⟩ : S25)) := ⟨_, rfl⟩
    replace H : (comfitref04_Mean.l0 k l0 a1 t253 y259 1) = some (r1, r2) := by first | (rw [hy259]; with_reducible exact H) | (have H2_ := (Option.bind_some _ _).symm.trans H; rw [hy259]; with_reducible exact H2_) | (have H2_ := (Option.bind_some _ _).symm.trans H; with_reducible exact H2_) | with_reducible exact H | (rw [hy259]; exact H) | exact H
    have Ny259 := Aside0.mk hy259
    clear hy259
    have H' := Aside0.mk H
    clear H
    go_enter Try.func28, Try.ntmps28
    go_wp2_with (first | ((with_reducible refine gate_dst (N := 4) rfl ?_); refine box_event ?hg (N := 4) ?hd (cs := #[.int .i64 0, .int .i64 0]) (t := 25) ?hr ?_; (case hd => rfl); (case hg => rfl); (case hr => first | (go_simp; done) | (go_simp; rfl)); intro gb252 hg w10 hbox hb; have n0_ := Aside0.mk (below_step (hb_ HB.out) hb); have n1_ := Aside0.mk (hbox); have n2_ := Aside0.mk ((by rw [hg]; exact (below_size (hb_ HB.out)) : w.heap.size ≤ gb252)); have n3_ := Aside0.mk ((by rw [hg]; exact (below_size (hb_ HB.out)) : w.heap.size ≤ gb252)); clear HB; have HB := n0_; have BK252 := n1_; have GW252 := n2_; have GE252 := n3_; clear n0_ n1_ n2_ n3_; clear hb hbox hg) | ((with_reducible refine gate_callee (f := 25) rfl ?_); refine goesL_ (some 15) rfl rfl Try.func25 (by kernel_rfl) rfl #[.slice A0 l0.length c0, .int .i64 (wrap64 ((ji3) - 1))] rfl (by (try simp only [List.map_toArray, List.map_cons, List.map_nil]); first | done | (simp only [hji3]; rfl) | rfl | (simp only [List.length_drop, List.length_take]; rfl)) ?_; (with_reducible refine (comfitref04_Sum.calls k _ _ l0 (wrap64 ((ji3) - 1)) t253 _ ?side1 ?side2 A4.out).mono ?_); (case side1 => exact kc_ (Kd.C_below HR0.out HB.out)); (case side2 => exact HC0.out); rintro e w' ⟨rfl, ⟨nd, rfl⟩⟩; refine ⟨_, rfl, ?_⟩; (try (rw [drewN_self w10]; generalize hq_ : World.drewN w10 _ = w10; have n0_ : Aside0 (w10.heap[gb252]? = some (.cells #[.int .i64 0, .int .i64 0] 25 (0, 0))) := ⟨by rw [← hq_]; exact (bk_ BK252.out)⟩; have n1_ : Aside0 (Below w.heap.size w w10) := ⟨by rw [← hq_]; exact (hb_ HB.out)⟩; clear BK252 HB hq_; have BK252 := n0_; have HB := n1_; clear n0_ n1_))) | ((with_reducible refine gate_dst (N := 19) rfl ?_); refine Kd.R_make k25 _ 25 rfl (N := 19) rfl 61 _ _ rfl ji3 rfl rfl Try.underlying61 (.agg #[(.int .i64 0), (.int .i64 0)]) 16 info25 rfl (by decide) (by omega) z25 (ok := fun _ => True) (okp := fun _ => True) (k25_mkM _ _ _ z25 ) (fun _ hk => hk) trivial (of_decide_eq_true (by first | (with_reducible assumption) | assumption)) (Nat.le_trans (Nat.mul_le_mul_right _ (of_decide_eq_true (by first | (with_reducible assumption) | assumption) : ji3.toNat ≤ 17592186044416)) (by omega)) (Below.refl _ _) (Nat.le_refl _) ?_; intro v255 w11 ho12 hb hg_ hnew_; clear hg_ hnew_; (first | rw [← Ny254.out] at ho12 | (simp only [Int.reduceToNat] at ho12; rw [← Ny254.out] at ho12)); have n0_ := Aside0.mk (Kd.R_lower (Kd.R_newB ho12 (g := gb252) (o := .cells #[.int .i64 0, .int .i64 0] 25 (0, 0)) (bk_ BK252.out)) (below_size (hb_ HB.out))); have n1_ := Aside0.mk (bkb_ BK252.out hb); have n2_ := Aside0.mk (below_step (hb_ HB.out) hb); clear BK252; clear HB; have HO256 := n0_; have BK252 := n1_; have HB := n2_; clear n0_ n1_ n2_; clear hb ho12) | ((with_reducible refine gate_callee (f := 59) rfl ?_); refine goesL_ (some 21) rfl rfl Try.func59 (by kernel_rfl) rfl #[.int .i64 0] rfl al_ ?_; (with_reducible refine (comfitref04_whole.calls 0 t257 t258 _ A7.out).mono ?_); rintro e w13 ⟨rfl, hb⟩; refine ⟨_, rfl, ?_⟩; have n0_ := Aside0.mk (Kd.R_below (kr_ (HO256.out)) hb); have n1_ := Aside0.mk (bkb_ BK252.out hb); have n2_ := Aside0.mk (below_step (hb_ HB.out) hb); clear HO256; clear BK252; clear HB; have HO256 := n0_; have BK252 := n1_; have HB := n2_; clear n0_ n1_ n2_; (try clear hb); (try clear hb2); (try clear hk); (try clear hi); have p9 : 0 ≤ (0 : Int) := (by omega); have q9 : (0 : Int) < ((y254.length : Int) : Int) := of_decide_eq_true (by first | (with_reducible assumption) | assumption); have qi9 : (0 < y254.length) = True := eq_true (by omega); obtain ⟨go9, co9, eo9, gb9, gl9, cl9, HG9⟩ := Kd.R_form HO256.out (by omega); (first | cases eo9 | (injection eo9 with ea_ en_ ec_; (first | subst ea_ | (injection ea_ with ea_; subst ea_)); subst ec_; clear en_)); have GB9 := Aside0.mk gb9; have GG9 := Aside0.mk HG9; clear gb9 gl9 HG9; obtain ⟨ce9, hcl9, hM9, hcc9, hfr9⟩ := Kd.R_elem HO256.out z25 (0 : Int) p9 q9; obtain rfl := k25_openM hM9; have hx9_0 : w13.cell? ⟨go9, (0 : Int).toNat * 2, none⟩ = some (.int .i64 ((rd_T25 y254 0).f0)) := hcc9 0 _ rfl; have hx9_1 : w13.cell? ⟨go9, (0 : Int).toNat * 2 + 1, none⟩ = some (.int .i64 ((rd_T25 y254 0).f1)) := hcc9 1 _ rfl; have hf9_0 : w13.frozen? ⟨go9, (0 : Int).toNat * 2, none⟩ = false := hfr9 0; have hf9_1 : w13.frozen? ⟨go9, (0 : Int).toNat * 2 + 1, none⟩ = false := hfr9 1; clear hcl9 hcc9 hfr9 hM9; (try rw [show ((0 : Int)).toNat = 0 from rfl] at hx9_0); (try simp only [Nat.reduceMul, Nat.zero_mul, Nat.zero_add, Nat.reduceAdd] at hx9_0); (try rw [show ((0 : Int)).toNat = 0 from rfl] at hf9_0); (try simp only [Nat.reduceMul, Nat.zero_mul, Nat.zero_add, Nat.reduceAdd] at hf9_0); (try rw [show ((0 : Int)).toNat = 0 from rfl] at hx9_1); (try simp only [Nat.reduceMul, Nat.zero_mul, Nat.zero_add, Nat.reduceAdd] at hx9_1); (try rw [show ((0 : Int)).toNat = 0 from rfl] at hf9_1); (try simp only [Nat.reduceMul, Nat.zero_mul, Nat.zero_add, Nat.reduceAdd] at hf9_1); replace p9 := eq_true p9; replace q9 := eq_true q9; have n_ := Aside0.mk (Kd.R_mono (ok' := (fun k_ => k_ ≠ gb252)) HO256.out (fun k_ hk => hk.2)); clear HO256; have HO256 := n_; clear n_; have HX14 := Aside0.mk (show Kd.R k25 25 w13 w.heap.size (fun k_ => k_ ≠ gb252) (.slice (some ⟨go9, 0, none⟩) y254.length co9) y254 from (kr_ (HO256.out))); obtain ⟨ce14, hcl14, hM14, hcc14, hfr14⟩ := Kd.R_elem HX14.out z25 (0 : Int) (by omega) (by have h_ : (0 : Int) < ((y254.length : Int) : Int) := of_decide_eq_true (by first | (with_reducible assumption) | assumption); first | exact h_ | (have e_ := (Kd.R_reads' HO256.out).1; omega) | simpa using h_); obtain rfl := k25_openM hM14; have HP14 := Kd.R_seg HX14.out (0 : Int) (by omega) (by have h_ : (0 : Int) < ((y254.length : Int) : Int) := of_decide_eq_true (by first | (with_reducible assumption) | assumption); first | exact h_ | (have e_ := (Kd.R_reads' HO256.out).1; omega) | simpa using h_) (seg := [.int .i64 t257, .int .i64 t258]) (j := 0) hcl14 hcc14 (show 2 ≤ 2 from by decide) (x' := (⟨t257, t258⟩ : S25)) (k25_mkM _ _ _ (⟨t257, t258⟩ : S25) ) (fun _ hk => hk); have hx14_0 := hcc14 0 _ rfl; (try simp only [show (k25).sz = 2 from rfl, Nat.mul_one, Nat.add_zero] at hx14_0); (try rw [show ((0 : Int)).toNat = 0 from rfl] at hx14_0); (try simp only [Nat.reduceMul, Nat.zero_mul, Nat.zero_add, Nat.reduceAdd] at hx14_0); have hf14_0 := hfr14 0; (try simp only [show (k25).sz = 2 from rfl, Nat.mul_one, Nat.add_zero] at hf14_0); (try rw [show ((0 : Int)).toNat = 0 from rfl] at hf14_0); (try simp only [Nat.reduceMul, Nat.zero_mul, Nat.zero_add, Nat.reduceAdd] at hf14_0); have hx14_1 := hcc14 1 _ rfl; (try simp only [show (k25).sz = 2 from rfl, Nat.mul_one, Nat.add_zero] at hx14_1); (try rw [show ((0 : Int)).toNat = 0 from rfl] at hx14_1); (try simp only [Nat.reduceMul, Nat.zero_mul, Nat.zero_add, Nat.reduceAdd] at hx14_1); have hf14_1 := hfr14 1; (try simp only [show (k25).sz = 2 from rfl, Nat.mul_one, Nat.add_zero] at hf14_1); (try rw [show ((0 : Int)).toNat = 0 from rfl] at hf14_1); (try simp only [Nat.reduceMul, Nat.zero_mul, Nat.zero_add, Nat.reduceAdd] at hf14_1); clear hcl14 hcc14 hfr14 hM14) | ((with_reducible refine gate_store (t := 25) (p := 22) rfl ?_); refine store_event (t := 25) (p := 22) (v := ?vo_w15) (w1 := ((w13.setCell ⟨go9, 0, none⟩ (.int .i64 t257)).setCell ⟨go9, 1, none⟩ (.int .i64 t258))) ?hg ?ho ?hn ?hr ?_; (case ho => rfl); (case hg => rfl); (case hn => rfl); (case hr => first | (go_simp; done) | (go_simp; rfl)); intro w15 hw; have hg : w13.grownBy w15 (some go9) := (by rw [hw]; exact HP14.2); have hp_ : Kd.R k25 25 w15 w.heap.size (fun k_ => k_ ≠ gb252) (.slice (some ⟨go9, 0, none⟩) y254.length co9) y259 := (by rw [hw, Ny259.out]; exact HP14.1); clear HP14; have n0_ := Aside0.mk (blk_grown (g := gb252) (o := .cells #[.int .i64 0, .int .i64 0] 25 (0, 0)) (bk_ BK252.out) hg (Kd.R_away HO256.out (fun _ hk => hk))); have n1_ := Aside0.mk (hp_); have n2_ := Aside0.mk ((by rw [hw]; exact below_set (below_set (HB.out) GB9.out) GB9.out : Below w.heap.size w w15)); clear BK252; clear HO256; clear HB; have BK252 := n0_; have HO256 := n1_; have HB := n2_; clear n0_ n1_ n2_; clear hg hw hp_))
    go_loopg [7] k (fun kq v7 w' => ∃ (x6_1 : List (S25)) (x7_1 : Int) (x253000_1 : Int) (x253001_1 : Int), v7 = .int .i64 x7_1 ∧ Aside0 (comfitref04_Mean.l0 kq l0 a1 t253 x6_1 x7_1 = some (r1, r2)) ∧ Aside0 (kq ≤ k) ∧ Aside0 (Kd.R k25 25 w' w.heap.size (fun k_ => k_ ≠ gb252) (.slice (some ⟨go9, 0, none⟩) y254.length co9) x6_1) ∧ Aside0 (w'.heap[gb252]? = some (.cells #[.int .i64 x253000_1, .int .i64 x253001_1] 25 (0, 0))) ∧ Aside0 (Below w.heap.size w w'))
    case atStart => exact ⟨(y259), (1), (0), (0), (by first | rfl | (simp; done) | (simp [*]; done)), H', ⟨Nat.le_refl _⟩, ⟨by (with_reducible repeat (first | apply Kd.R_alloc | apply Kd.R_drewN | apply Kd.R_drew)); exact HO256.out⟩, ⟨by (with_reducible repeat (first | refine blk_drewN ?_ _ | refine blk_drew ?_ | refine blk_alloc ?_ _)); exact BK252.out⟩, ⟨by repeat (first | (with_reducible first | exact HB.out | apply below_alloc | apply pw_below_drewN | apply below_drew1 | refine below_set ?_ GE252.out) | exact HB.out)⟩⟩
    case round =>
     clear H'
     try clear c1
     try clear hx1
     try clear c2
     try clear p2
     try clear c5
     try clear c5b0
     try clear c5b1
     try clear c6
     try clear c6b0
     try clear c6b1
     try clear p6
     try clear c8
     try clear c8b0
     try clear c8b1
     try clear c9
     try clear p9
     try clear q9
     try clear hx9
     try clear qi9
     try clear hf9
     try clear c14
     try clear hx14
     try clear hf14
     try clear hx14_0
     try clear hx14_1
     try clear hx9_0
     try clear hx9_1
     try clear p9
     try clear q9
     obtain ⟨x6_1, x7_1, x253000_1, x253001_1, rfl, HA, HK1, HO_6, BK252, HB⟩ := hrel
     have hl6_1 := (Kd.R_reads' HO_6.out).1
     rw [hl6_1] at HO_6
     (try simp only [hl6_1])
     (try simp only [hl6_1] at BK252)
     cases gk with
     | zero => exact absurd HA.out (by simp [comfitref04_Mean.l0])
     | succ k1 =>
      have H := HA.out
      clear HA
      simp only [comfitref04_Mean.l0] at H
      by_cases c16 : x7_1 ≤ a1
      ·rw [if_pos c16] at H
       have c16b0 : decide (x7_1 ≤ a1) = true := decide_eq_true c16
       clear c16
       replace H := Option.bind_eq_some_iff.mp H
       obtain ⟨t261, A170, H⟩ := H
       replace H : ((comfitref04_frac.f k1 t253 t261).bind fun bt262 => (if 0 ≤ x7_1 then (if x7_1 < (x6_1.length : Int) then (comfitref04_Mean.l1 k1 l0 a1 t253 (x6_1.set (x7_1 : Int).toNat (⟨bt262.1, bt262.2⟩ : S25)) x7_1 l0 (l0.length : Int) 0) else (none)) else (none))) = some (r1, r2) := H
       have A17 := Aside0.mk A170
       clear A170
       replace H := Option.bind_eq_some_iff.mp H
       obtain ⟨⟨t262, t263⟩, A180, H⟩ := H
       replace H : (if 0 ≤ x7_1 then (if x7_1 < (x6_1.length : Int) then (comfitref04_Mean.l1 k1 l0 a1 t253 (x6_1.set (x7_1 : Int).toNat (⟨t262, t263⟩ : S25)) x7_1 l0 (l0.length : Int) 0) else (none)) else (none)) = some (r1, r2) := H
       have A18 := Aside0.mk A180
       clear A180
       by_cases c19 : 0 ≤ x7_1
       ·rw [if_pos c19] at H
        have c19b0 : decide (0 ≤ x7_1) = true := decide_eq_true c19
        clear c19
        by_cases c20 : x7_1 < (x6_1.length : Int)
        ·rw [if_pos c20] at H
         have c20b0 : decide (x7_1 < (x6_1.length : Int)) = true := decide_eq_true c20
         clear c20
         obtain ⟨y264, hy264⟩ : ∃ y_ : List (S25), y_ = (x6_1.set (x7_1 : Int).toNat (⟨t262, t263⟩ : S25)) := ⟨_, rfl⟩
         replace H : (comfitref04_Mean.l1 k1 l0 a1 t253 y264 x7_1 l0 (l0.length : Int) 0) = some (r1, r2) := by first | (rw [hy264]; with_reducible exact H) | (have H2_ := (Option.bind_some _ _).symm.trans H; rw [hy264]; with_reducible exact H2_) | (have H2_ := (Option.bind_some _ _).symm.trans H; with_reducible exact H2_) | with_reducible exact H | (rw [hy264]; exact H) | exact H
         have Ny264 := Aside0.mk hy264
         clear hy264
         have H' := Aside0.mk H
         clear H
         go_wp2_with (first | ((with_reducible refine gate_callee (f := 25) rfl ?_); refine goesL_ (some 33) rfl rfl Try.func25 (by kernel_rfl) rfl #[.slice A0 l0.length c0, .int .i64 x7_1] rfl al_ ?_; (with_reducible refine (comfitref04_Sum.calls k1 _ _ l0 x7_1 t261 _ ?side1 ?side2 A17.out).mono ?_); (case side1 => exact kc_ (Kd.C_below HR0.out HB.out)); (case side2 => exact HC0.out); rintro e w' ⟨rfl, ⟨nd, rfl⟩⟩; refine ⟨_, rfl, ?_⟩; (try (rw [drewN_self wr]; generalize hq_ : World.drewN wr _ = wr; have n0_ : Aside0 (Kd.R k25 25 wr w.heap.size (fun k_ => k_ ≠ gb252) (.slice (some ⟨go9, 0, none⟩) x6_1.length co9) x6_1) := ⟨by rw [← hq_]; exact (kr_ (HO_6.out))⟩; have n1_ : Aside0 (wr.heap[gb252]? = some (.cells #[.int .i64 x253000_1, .int .i64 x253001_1] 25 (0, 0))) := ⟨by rw [← hq_]; exact (bk_ BK252.out)⟩; have n2_ : Aside0 (Below w.heap.size w wr) := ⟨by rw [← hq_]; exact (hb_ HB.out)⟩; clear HO_6 BK252 HB hq_; have HO_6 := n0_; have BK252 := n1_; have HB := n2_; clear n0_ n1_ n2_))) | ((with_reducible refine gate_callee (f := 60) rfl ?_); refine goesL_ (some 34) rfl rfl Try.func60 (by kernel_rfl) rfl #[.int .i64 t253, .int .i64 t261] rfl al_ ?_; (with_reducible refine (comfitref04_frac.calls k1 t253 t261 t262 t263 _ A18.out).mono ?_); rintro e w22 ⟨rfl, hb⟩; refine ⟨_, rfl, ?_⟩; have n0_ := Aside0.mk (Kd.R_below (kr_ (HO_6.out)) hb); have n1_ := Aside0.mk (bkb_ BK252.out hb); have n2_ := Aside0.mk (below_step (hb_ HB.out) hb); clear HO_6; clear BK252; clear HB; have HO_6 := n0_; have BK252 := n1_; have HB := n2_; clear n0_ n1_ n2_; (try clear hb); (try clear hb2); (try clear hk); (try clear hi); have p21 : 0 ≤ (x7_1 : Int) := of_decide_eq_true (by first | (with_reducible assumption) | assumption); have q21 : (x7_1 : Int) < ((x6_1.length : Int) : Int) := of_decide_eq_true (by first | (with_reducible assumption) | assumption); obtain ⟨ce21, hcl21, hM21, hcc21, hfr21⟩ := Kd.R_elem HO_6.out z25 (x7_1 : Int) p21 q21; obtain rfl := k25_openM hM21; have hx21_0 : w22.cell? ⟨go9, (x7_1 : Int).toNat * 2, none⟩ = some (.int .i64 ((rd_T25 x6_1 x7_1).f0)) := hcc21 0 _ rfl; have hx21_1 : w22.cell? ⟨go9, (x7_1 : Int).toNat * 2 + 1, none⟩ = some (.int .i64 ((rd_T25 x6_1 x7_1).f1)) := hcc21 1 _ rfl; have hf21_0 : w22.frozen? ⟨go9, (x7_1 : Int).toNat * 2, none⟩ = false := hfr21 0; have hf21_1 : w22.frozen? ⟨go9, (x7_1 : Int).toNat * 2 + 1, none⟩ = false := hfr21 1; clear hcl21 hcc21 hfr21 hM21; replace p21 := eq_true p21; replace q21 := eq_true q21; have HX23 := Aside0.mk (show Kd.R k25 25 w22 w.heap.size (fun k_ => k_ ≠ gb252) (.slice (some ⟨go9, 0, none⟩) x6_1.length co9) x6_1 from (kr_ (HO_6.out))); obtain ⟨ce23, hcl23, hM23, hcc23, hfr23⟩ := Kd.R_elem HX23.out z25 (x7_1 : Int) (of_decide_eq_true (by first | (with_reducible assumption) | assumption)) (by have h_ : (x7_1 : Int) < ((x6_1.length : Int) : Int) := of_decide_eq_true (by first | (with_reducible assumption) | assumption); first | exact h_ | (have e_ := (Kd.R_reads' HO_6.out).1; omega) | simpa using h_); obtain rfl := k25_openM hM23; have HP23 := Kd.R_seg HX23.out (x7_1 : Int) (of_decide_eq_true (by first | (with_reducible assumption) | assumption)) (by have h_ : (x7_1 : Int) < ((x6_1.length : Int) : Int) := of_decide_eq_true (by first | (with_reducible assumption) | assumption); first | exact h_ | (have e_ := (Kd.R_reads' HO_6.out).1; omega) | simpa using h_) (seg := [.int .i64 t262, .int .i64 t263]) (j := 0) hcl23 hcc23 (show 2 ≤ 2 from by decide) (x' := (⟨t262, t263⟩ : S25)) (k25_mkM _ _ _ (⟨t262, t263⟩ : S25) ) (fun _ hk => hk); have hx23_0 := hcc23 0 _ rfl; (try simp only [show (k25).sz = 2 from rfl, Nat.mul_one, Nat.add_zero] at hx23_0); have hf23_0 := hfr23 0; (try simp only [show (k25).sz = 2 from rfl, Nat.mul_one, Nat.add_zero] at hf23_0); have hx23_1 := hcc23 1 _ rfl; (try simp only [show (k25).sz = 2 from rfl, Nat.mul_one, Nat.add_zero] at hx23_1); have hf23_1 := hfr23 1; (try simp only [show (k25).sz = 2 from rfl, Nat.mul_one, Nat.add_zero] at hf23_1); clear hcl23 hcc23 hfr23 hM23) | ((with_reducible refine gate_store (t := 25) (p := 35) rfl ?_); refine store_event (t := 25) (p := 35) (v := ?vo_w24) (w1 := ((w22.setCell ⟨go9, (x7_1 : Int).toNat * 2, none⟩ (.int .i64 t262)).setCell ⟨go9, (x7_1 : Int).toNat * 2 + 1, none⟩ (.int .i64 t263))) ?hg ?ho ?hn ?hr ?_; (case ho => rfl); (case hg => rfl); (case hn => rfl); (case hr => first | (go_simp; done) | (go_simp; rfl)); intro w24 hw; have hg : w22.grownBy w24 (some go9) := (by rw [hw]; exact HP23.2); have hp_ : Kd.R k25 25 w24 w.heap.size (fun k_ => k_ ≠ gb252) (.slice (some ⟨go9, 0, none⟩) x6_1.length co9) y264 := (by rw [hw, Ny264.out]; exact HP23.1); clear HP23; have n0_ := Aside0.mk (hp_); have n1_ := Aside0.mk (blk_grown (g := gb252) (o := .cells #[.int .i64 x253000_1, .int .i64 x253001_1] 25 (0, 0)) (bk_ BK252.out) hg (Kd.R_away HO_6.out (fun _ hk => hk))); have n2_ := Aside0.mk ((by rw [hw]; exact below_set (below_set (HB.out) GB9.out) GB9.out : Below w.heap.size w w24)); clear HO_6; clear BK252; clear HB; have HO_6 := n0_; have BK252 := n1_; have HB := n2_; clear n0_ n1_ n2_; clear hg hw hp_))
         go_loopg [38] k1 (fun kq v38 w' => ∃ (x6_2 : List (S25)) (x38_2 : Int) (x253000_2 : Int) (x253001_2 : Int), v38 = .int .i64 x38_2 ∧ Aside0 (comfitref04_Mean.l1 kq l0 a1 t253 x6_2 x7_1 l0 (l0.length : Int) x38_2 = some (r1, r2)) ∧ Aside0 (kq ≤ k1) ∧ Aside0 (Kd.R k25 25 w' w.heap.size (fun k_ => k_ ≠ gb252) (.slice (some ⟨go9, 0, none⟩) x6_1.length co9) x6_2) ∧ Aside0 (w'.heap[gb252]? = some (.cells #[.int .i64 x253000_2, .int .i64 x253001_2] 25 (0, 0))) ∧ Aside0 (Below w.heap.size w w'))
         case atStart => exact ⟨(y264), (0), (x253000_1), (x253001_1), (by first | rfl | (simp; done) | (simp [*]; done)), H', ⟨Nat.le_refl _⟩, ⟨by (try simp only [hl6_1]); (with_reducible repeat (first | apply Kd.R_alloc | apply Kd.R_drewN | apply Kd.R_drew)); exact HO_6.out⟩, ⟨by (try simp only [hl6_1]); (with_reducible repeat (first | refine blk_drewN ?_ _ | refine blk_drew ?_ | refine blk_alloc ?_ _)); exact BK252.out⟩, ⟨by repeat (first | (with_reducible first | exact HB.out | apply below_alloc | apply pw_below_drewN | apply below_drew1 | refine below_set ?_ GE252.out) | exact HB.out)⟩⟩
         case round =>
          clear H'
          try clear c1
          try clear hx1
          try clear c2
          try clear p2
          try clear q2
          try clear hx2
          try clear hf2
          try clear c5
          try clear c5b0
          try clear c5b1
          try clear c6
          try clear c6b0
          try clear c6b1
          try clear p6
          try clear c8
          try clear c8b0
          try clear c8b1
          try clear c9
          try clear p9
          try clear q9
          try clear hx9
          try clear qi9
          try clear hf9
          try clear c14
          try clear hx14
          try clear hf14
          try clear c16
          try clear c16b0
          try clear c19
          try clear c19b0
          try clear c20
          try clear c20b0
          try clear c21
          try clear p21
          try clear q21
          try clear hx21
          try clear hf21
          try clear c23
          try clear hx23
          try clear hf23
          try clear hx14_0
          try clear hx14_1
          try clear hx21_0
          try clear hx21_1
          try clear hx23_0
          try clear hx23_1
          try clear hx9_0
          try clear hx9_1
          try clear p2
          try clear p21
          try clear p6
          try clear p9
          try clear q21
          try clear q9
          obtain ⟨x6_2, x38_2, x253000_2, x253001_2, rfl, HA, HK2, HO_6, BK252, HB⟩ := hrel
          have hl6_2 := (Kd.R_reads' HO_6.out).1
          rw [hl6_2] at HO_6
          (try simp only [hl6_2])
          (try simp only [hl6_2] at BK252)
          cases gk with
          | zero => exact absurd HA.out (by simp [comfitref04_Mean.l1])
          | succ k2 =>
           have H := HA.out
           clear HA
           simp only [comfitref04_Mean.l1] at H
           by_cases c25 : x38_2 < (l0.length : Int)
           ·rw [if_pos c25] at H
            have c25b0 : decide (x38_2 < (l0.length : Int)) = true := decide_eq_true c25
            clear c25
            by_cases c26 : 0 ≤ x38_2
            ·rw [if_pos c26] at H
             have c26b0 : decide (0 ≤ x38_2) = true := decide_eq_true c26
             clear c26
             by_cases c27 : x38_2 < (l0.length : Int)
             ·rw [if_pos c27] at H
              have c27b0 : decide (x38_2 < (l0.length : Int)) = true := decide_eq_true c27
              clear c27
              have c28b0 := eq_true (of_decide_eq_true (by first | (with_reducible assumption) | assumption) : 0 ≤ x38_2)
              obtain ⟨ji29, hji29⟩ : ∃ j_ : Int, (shr .i64 x7_1 x38_2) = j_ := ⟨_, rfl⟩
              replace H : (if (Go.bits .and .i64 (ji29) 1) = 1 then (if 0 ≤ x7_1 then (if x7_1 < (x6_2.length : Int) then ((comfitref04_Sum.f k2 l0 x7_1).bind fun t267 => ((comfitref04_frac.f k2 (rd l0 x38_2) t267).bind fun bt268 => (if 0 ≤ (Go.bits .andNot .i64 x7_1 (shl .i64 1 x38_2)) then (if (Go.bits .andNot .i64 x7_1 (shl .i64 1 x38_2)) < (x6_2.length : Int) then ((comfitref04_times.f k2 bt268.1 bt268.2 ((rd_T25 x6_2 (Go.bits .andNot .i64 x7_1 (shl .i64 1 x38_2))).f0) ((rd_T25 x6_2 (Go.bits .andNot .i64 x7_1 (shl .i64 1 x38_2))).f1)).bind fun bt271 => ((comfitref04_Plus.f k2 ((rd_T25 x6_2 x7_1).f0) ((rd_T25 x6_2 x7_1).f1) bt271.1 bt271.2).bind fun bt273 => (comfitref04_Mean.l1 k2 l0 a1 t253 (x6_2.set (x7_1 : Int).toNat (⟨bt273.1, bt273.2⟩ : S25)) x7_1 l0 (l0.length : Int) (wrap64 (x38_2 + 1))))) else (none)) else (none)))) else (none)) else (none)) else (comfitref04_Mean.l1 k2 l0 a1 t253 x6_2 x7_1 l0 (l0.length : Int) (wrap64 (x38_2 + 1)))) = some (r1, r2) := by first | (rw [hji29] at H; exact H) | (simp only [hji29] at H ⊢; exact H)
              have hji29_ : (x7_1 / 2 ^ min x38_2.toNat 64) = ji29 := hji29
              have hji29z : x38_2 ≤ 64 → (x7_1 / 2 ^ x38_2.toNat) = ji29 := shr_small hji29
              by_cases c30 : (Go.bits .and .i64 (ji29) 1) = 1
              ·rw [if_pos c30] at H
               have c30b0 : ((Go.bits .and .i64 (ji29) 1) == 1) = true := beq_iff_eq.mpr c30
               have c30b1 : ((Go.bits .and .i64 (ji29) 1) != 1) = false := bne_eq_false_iff_eq.mpr c30
               clear c30
               by_cases c31 : 0 ≤ x7_1
               ·rw [if_pos c31] at H
                have c31b0 : decide (0 ≤ x7_1) = true := decide_eq_true c31
                clear c31
                by_cases c32 : x7_1 < (x6_2.length : Int)
                ·rw [if_pos c32] at H
                 have c32b0 : decide (x7_1 < (x6_2.length : Int)) = true := decide_eq_true c32
                 clear c32
                 replace H := Option.bind_eq_some_iff.mp H
                 obtain ⟨t267, A330, H⟩ := H
                 replace H : ((comfitref04_frac.f k2 (rd l0 x38_2) t267).bind fun bt268 => (if 0 ≤ (Go.bits .andNot .i64 x7_1 (shl .i64 1 x38_2)) then (if (Go.bits .andNot .i64 x7_1 (shl .i64 1 x38_2)) < (x6_2.length : Int) then ((comfitref04_times.f k2 bt268.1 bt268.2 ((rd_T25 x6_2 (Go.bits .andNot .i64 x7_1 (shl .i64 1 x38_2))).f0) ((rd_T25 x6_2 (Go.bits .andNot .i64 x7_1 (shl .i64 1 x38_2))).f1)).bind fun bt271 => ((comfitref04_Plus.f k2 ((rd_T25 x6_2 x7_1).f0) ((rd_T25 x6_2 x7_1).f1) bt271.1 bt271.2).bind fun bt273 => (comfitref04_Mean.l1 k2 l0 a1 t253 (x6_2.set (x7_1 : Int).toNat (⟨bt273.1, bt273.2⟩ : S25)) x7_1 l0 (l0.length : Int) (wrap64 (x38_2 + 1))))) else (none)) else (none))) = some (r1, r2) := H
                 have A33 := Aside0.mk A330
                 clear A330
                 replace H := Option.bind_eq_some_iff.mp H
                 obtain ⟨⟨t268, t269⟩, A340, H⟩ := H
                 replace H : (if 0 ≤ (Go.bits .andNot .i64 x7_1 (shl .i64 1 x38_2)) then (if (Go.bits .andNot .i64 x7_1 (shl .i64 1 x38_2)) < (x6_2.length : Int) then ((comfitref04_times.f k2 t268 t269 ((rd_T25 x6_2 (Go.bits .andNot .i64 x7_1 (shl .i64 1 x38_2))).f0) ((rd_T25 x6_2 (Go.bits .andNot .i64 x7_1 (shl .i64 1 x38_2))).f1)).bind fun bt271 => ((comfitref04_Plus.f k2 ((rd_T25 x6_2 x7_1).f0) ((rd_T25 x6_2 x7_1).f1) bt271.1 bt271.2).bind fun bt273 => (comfitref04_Mean.l1 k2 l0 a1 t253 (x6_2.set (x7_1 : Int).toNat (⟨bt273.1, bt273.2⟩ : S25)) x7_1 l0 (l0.length : Int) (wrap64 (x38_2 + 1))))) else (none)) else (none)) = some (r1, r2) := H
                 have A34 := Aside0.mk A340
                 clear A340
                 have c35b0 := eq_true (of_decide_eq_true (by first | (with_reducible assumption) | assumption) : 0 ≤ x38_2)
                 obtain ⟨ji36, hji36⟩ : ∃ j_ : Int, (shl .i64 1 x38_2) = j_ := ⟨_, rfl⟩
                 replace H : (if 0 ≤ (Go.bits .andNot .i64 x7_1 (ji36)) then (if (Go.bits .andNot .i64 x7_1 (ji36)) < (x6_2.length : Int) then ((comfitref04_times.f k2 t268 t269 ((rd_T25 x6_2 (Go.bits .andNot .i64 x7_1 (ji36))).f0) ((rd_T25 x6_2 (Go.bits .andNot .i64 x7_1 (ji36))).f1)).bind fun bt271 => ((comfitref04_Plus.f k2 ((rd_T25 x6_2 x7_1).f0) ((rd_T25 x6_2 x7_1).f1) bt271.1 bt271.2).bind fun bt273 => (comfitref04_Mean.l1 k2 l0 a1 t253 (x6_2.set (x7_1 : Int).toNat (⟨bt273.1, bt273.2⟩ : S25)) x7_1 l0 (l0.length : Int) (wrap64 (x38_2 + 1))))) else (none)) else (none)) = some (r1, r2) := by first | (rw [hji36] at H; exact H) | (simp only [hji36] at H ⊢; exact H)
                 (try rw [hji36] at A33)
                 (try rw [hji36] at A34)
                 have hji36_ : (IntKind.i64.wrap (1 * 2 ^ min x38_2.toNat 64)) = ji36 := hji36
                 have hji36z : x38_2 ≤ 64 → (IntKind.i64.wrap (1 * 2 ^ x38_2.toNat)) = ji36 := shl_small hji36
                 have hji36u : (IntKind.i64.wrap (2 ^ min x38_2.toNat 64)) = ji36 := by have h_ := hji36_; rw [Int.one_mul] at h_; exact h_
                 have hji36v : x38_2 ≤ 64 → (IntKind.i64.wrap (2 ^ x38_2.toNat)) = ji36 := fun hle_ => by have h_ := hji36z hle_; rw [Int.one_mul] at h_; exact h_
                 have hji36y : (wrap64 (1 * 2 ^ min x38_2.toNat 64)) = ji36 := (i64_w _).symm.trans hji36_
                 have hji36x : x38_2 ≤ 64 → (wrap64 (1 * 2 ^ x38_2.toNat)) = ji36 := fun h_ => (i64_w _).symm.trans (hji36z h_)
                 by_cases c37 : 0 ≤ (Go.bits .andNot .i64 x7_1 (ji36))
                 ·rw [if_pos c37] at H
                  have c37b0 : decide (0 ≤ (Go.bits .andNot .i64 x7_1 (ji36))) = true := decide_eq_true c37
                  clear c37
                  by_cases c38 : (Go.bits .andNot .i64 x7_1 (ji36)) < (x6_2.length : Int)
                  ·rw [if_pos c38] at H
                   have c38b0 : decide ((Go.bits .andNot .i64 x7_1 (ji36)) < (x6_2.length : Int)) = true := decide_eq_true c38
                   clear c38
                   replace H := Option.bind_eq_some_iff.mp H
                   obtain ⟨⟨t271, t272⟩, A390, H⟩ := H
                   replace H : ((comfitref04_Plus.f k2 ((rd_T25 x6_2 x7_1).f0) ((rd_T25 x6_2 x7_1).f1) t271 t272).bind fun bt273 => (comfitref04_Mean.l1 k2 l0 a1 t253 (x6_2.set (x7_1 : Int).toNat (⟨bt273.1, bt273.2⟩ : S25)) x7_1 l0 (l0.length : Int) (wrap64 (x38_2 + 1)))) = some (r1, r2) := H
                   have A39 := Aside0.mk A390
                   clear A390
                   replace H := Option.bind_eq_some_iff.mp H
                   obtain ⟨⟨t273, t274⟩, A400, H⟩ := H
                   replace H : (comfitref04_Mean.l1 k2 l0 a1 t253 (x6_2.set (x7_1 : Int).toNat (⟨t273, t274⟩ : S25)) x7_1 l0 (l0.length : Int) (wrap64 (x38_2 + 1))) = some (r1, r2) := H
                   have A40 := Aside0.mk A400
                   clear A400
                   obtain ⟨y275, hy275⟩ : ∃ y_ : List (S25), y_ = (x6_2.set (x7_1 : Int).toNat (⟨t273, t274⟩ : S25)) := ⟨_, rfl⟩
                   replace H : (comfitref04_Mean.l1 k2 l0 a1 t253 y275 x7_1 l0 (l0.length : Int) (wrap64 (x38_2 + 1))) = some (r1, r2) := by first | (rw [hy275]; with_reducible exact H) | (have H2_ := (Option.bind_some _ _).symm.trans H; rw [hy275]; with_reducible exact H2_) | (have H2_ := (Option.bind_some _ _).symm.trans H; with_reducible exact H2_) | with_reducible exact H | (rw [hy275]; exact H) | exact H
                   have Ny275 := Aside0.mk hy275
                   clear hy275
                   have H' := Aside0.mk H
                   clear H
                   have p265 : 0 ≤ (x38_2 : Int) := of_decide_eq_true (by first | (with_reducible assumption) | assumption)
                   have q265 : x38_2 < (l0.length : Int) := of_decide_eq_true (by first | (with_reducible assumption) | assumption)
                   obtain ⟨ad265, e265, hx265_0⟩ := Kd.at_int HR0.out x38_2 p265 q265
                   cases e265
                   replace hx265_0 := (HB.out.cell (World.block_lt_of_cell? w _ hx265_0)).trans hx265_0
                   replace p265 := eq_true p265
                   replace q265 := eq_true q265
                   try go_wp2
                   have n0_ := Aside0.mk (Kd.R_drew HO_6.out)
                   have n1_ := Aside0.mk (blk_drew BK252.out)
                   have n2_ := Aside0.mk (below_drew1 HB.out)
                   clear HO_6
                   clear BK252
                   clear HB
                   have HO_6 := n0_
                   have BK252 := n1_
                   have HB := n2_
                   clear n0_ n1_ n2_
                   have p266 : 0 ≤ (x7_1 : Int) := of_decide_eq_true (by first | (with_reducible assumption) | assumption)
                   have q266 : x7_1 < (x6_2.length : Int) := of_decide_eq_true (by first | (with_reducible assumption) | assumption)
                   obtain ⟨ad266, e266, hx266_0, hx266_1⟩ := at_T25 (Kd.R_reads' HO_6.out).2.2 x7_1 p266 q266
                   obtain rfl : (⟨go9, 0, none⟩ : Addr) = ad266 := (by injection e266)
                   (first | simp only [add_plain] at hx266_0 | simp only [add_at] at hx266_0 | simp only [Addr.add, Nat.zero_add] at hx266_0 | skip)
                   (first | simp only [add_plain] at hx266_1 | simp only [add_at] at hx266_1 | simp only [Addr.add, Nat.zero_add] at hx266_1 | skip)
                   replace p266 := eq_true p266
                   replace q266 := eq_true q266
                   have p270 : 0 ≤ ((Go.bits .andNot .i64 x7_1 (ji36)) : Int) := of_decide_eq_true (by first | (with_reducible assumption) | assumption)
                   have q270 : (Go.bits .andNot .i64 x7_1 (ji36)) < (x6_2.length : Int) := of_decide_eq_true (by first | (with_reducible assumption) | assumption)
                   obtain ⟨ad270, e270, hx270_0, hx270_1⟩ := at_T25 (Kd.R_reads' HO_6.out).2.2 (Go.bits .andNot .i64 x7_1 (ji36)) p270 q270
                   obtain rfl : (⟨go9, 0, none⟩ : Addr) = ad270 := (by injection e270)
                   (first | simp only [add_plain] at hx270_0 | simp only [add_at] at hx270_0 | simp only [Addr.add, Nat.zero_add] at hx270_0 | skip)
                   (first | simp only [add_plain] at hx270_1 | simp only [add_at] at hx270_1 | simp only [Addr.add, Nat.zero_add] at hx270_1 | skip)
                   replace p270 := eq_true p270
                   replace q270 := eq_true q270
                   refine start_ (n := 22) (S := fun w' => w'.cell? ⟨go9, (x7_1).toNat * 2, none⟩ = some (.int .i64 ((rd_T25 x6_2 x7_1).f0)) ∧ w'.cell? ⟨go9, (x7_1).toNat * 2 + 1, none⟩ = some (.int .i64 ((rd_T25 x6_2 x7_1).f1)) ∧ w'.cell? ⟨go9, ((Go.bits .andNot .i64 x7_1 (ji36))).toNat * 2, none⟩ = some (.int .i64 ((rd_T25 x6_2 (Go.bits .andNot .i64 x7_1 (ji36))).f0)) ∧ w'.cell? ⟨go9, ((Go.bits .andNot .i64 x7_1 (ji36))).toNat * 2 + 1, none⟩ = some (.int .i64 ((rd_T25 x6_2 (Go.bits .andNot .i64 x7_1 (ji36))).f1))) (ds := [21]) #[false, false, false, false, false, false, false, false, false, false, false, false, false, false, false, false, false, false, false, false, false, false] (by kernel_rfl) rfl rfl ⟨hx266_0, hx266_1, hx270_0, hx270_1⟩ (fun hHeld => ?_); refine with_tabW comfitref04_Mean.tab12 comfitref04_Mean.bits12 (fun HT_ HW_ => ?_)
                   generalize wr.drew = w42 at HO_6 BK252 HB hx266_0 hx266_1 hx270_0 hx270_1 hHeld ⊢
                   refine pure_ (i := 0) (N := some 48) (v := ?_) (a' := ?_) #[true, false, false, false, false, false, false, false, false, false, false, false, false, false, false, false, false, false, false, false, false, false] rfl rfl (any_of HT_.out (by kernel_rfl)) (fun _ _ _ h => h) (Or.inl ⟨by rfl, ?_⟩) ?_ ?_
                   rotate_left
                   ·intro w'
                    go_simp
                    with_reducible rfl
                   rotate_left
                   ·simp only [Act.put, List.setIfInBounds_toArray, List.set_cons_zero, List.set_cons_succ, i64_w, i32_w]
                    rfl
                   refine pure_ (i := 1) (N := some 49) (v := ?_) (a' := ?_) #[true, true, false, false, false, false, false, false, false, false, false, false, false, false, false, false, false, false, false, false, false, false] rfl rfl (any_of HT_.out (by kernel_rfl)) (fun _ _ _ h => h) (Or.inl ⟨by rfl, ?_⟩) ?_ ?_
                   rotate_left
                   ·intro w'
                    go_simp
                    with_reducible rfl
                   rotate_left
                   ·simp only [Act.put, List.setIfInBounds_toArray, List.set_cons_zero, List.set_cons_succ, i64_w, i32_w]
                    rfl
                   refine pure_ (i := 2) (N := some 50) (v := ?_) (a' := ?_) #[true, true, true, false, false, false, false, false, false, false, false, false, false, false, false, false, false, false, false, false, false, false] rfl rfl (any_of HT_.out (by kernel_rfl)) (fun _ _ _ h => h) (Or.inl ⟨by rfl, ?_⟩) ?_ ?_
                   rotate_left
                   ·intro w'
                    go_simp
                    with_reducible rfl
                   rotate_left
                   ·simp only [Act.put, List.setIfInBounds_toArray, List.set_cons_zero, List.set_cons_succ, i64_w, i32_w]
                    rfl
                   refine pure_ (i := 3) (N := some 51) (v := ?_) (a' := ?_) #[true, true, true, true, false, false, false, false, false, false, false, false, false, false, false, false, false, false, false, false, false, false] rfl rfl (any_of HT_.out (by kernel_rfl)) (fun _ _ _ h => h) (Or.inl ⟨by rfl, ?_⟩) ?_ ?_
                   rotate_left
                   ·intro w'
                    go_simp
                    with_reducible rfl
                   rotate_left
                   ·simp only [Act.put, List.setIfInBounds_toArray, List.set_cons_zero, List.set_cons_succ, i64_w, i32_w]
                    rfl
                   refine pure_ (i := 4) (N := some 52) (v := ?_) (a' := ?_) #[true, true, true, true, true, false, false, false, false, false, false, false, false, false, false, false, false, false, false, false, false, false] rfl rfl (any_of HT_.out (by kernel_rfl)) (fun _ _ _ h => h) (Or.inl ⟨by rfl, ?_⟩) ?_ ?_
                   rotate_left
                   ·intro w'
                    go_simp
                    with_reducible rfl
                   rotate_left
                   ·simp only [Act.put, List.setIfInBounds_toArray, List.set_cons_zero, List.set_cons_succ, i64_w, i32_w]
                    rfl
                   refine pure_ (i := 6) (N := some 54) (v := ?_) (a' := ?_) #[true, true, true, true, true, false, true, false, false, false, false, false, false, false, false, false, false, false, false, false, false, false] rfl rfl (any_of HT_.out (by kernel_rfl)) (fun _ _ _ h => h) (Or.inl ⟨by rfl, ?_⟩) ?_ ?_
                   rotate_left
                   ·intro w'
                    go_simp
                    with_reducible rfl
                   rotate_left
                   ·simp only [Act.put, List.setIfInBounds_toArray, List.set_cons_zero, List.set_cons_succ, i64_w, i32_w]
                    rfl
                   refine pure_ (i := 7) (N := some 55) (v := ?_) (a' := ?_) #[true, true, true, true, true, false, true, true, false, false, false, false, false, false, false, false, false, false, false, false, false, false] rfl rfl (any_of HT_.out (by kernel_rfl)) (fun _ _ _ h => h) (Or.inl ⟨by rfl, ?_⟩) ?_ ?_
                   rotate_left
                   ·intro w'
                    go_simp
                    with_reducible rfl
                   rotate_left
                   ·simp only [Act.put, List.setIfInBounds_toArray, List.set_cons_zero, List.set_cons_succ, i64_w, i32_w]
                    rfl
                   refine pure_ (i := 8) (N := some 56) (v := ?_) (a' := ?_) #[true, true, true, true, true, false, true, true, true, false, false, false, false, false, false, false, false, false, false, false, false, false] rfl rfl (any_of HT_.out (by kernel_rfl)) (fun _ _ _ h => h) (Or.inl ⟨by rfl, ?_⟩) ?_ ?_
                   rotate_left
                   ·intro w'
                    go_simp
                    with_reducible rfl
                   rotate_left
                   ·simp only [Act.put, List.setIfInBounds_toArray, List.set_cons_zero, List.set_cons_succ, i64_w, i32_w]
                    rfl
                   refine pure_ (i := 11) (N := some 59) (v := ?_) (a' := ?_) #[true, true, true, true, true, false, true, true, true, false, false, true, false, false, false, false, false, false, false, false, false, false] rfl rfl (any_of HT_.out (by kernel_rfl)) (fun _ _ _ h => h) (Or.inl ⟨by rfl, ?_⟩) ?_ ?_
                   rotate_left
                   ·intro w'
                    go_simp
                    with_reducible rfl
                   rotate_left
                   ·simp only [Act.put, List.setIfInBounds_toArray, List.set_cons_zero, List.set_cons_succ, i64_w, i32_w]
                    rfl
                   refine pure_ (i := 12) (N := some 60) (v := ?_) (a' := ?_) #[true, true, true, true, true, false, true, true, true, false, false, true, true, false, false, false, false, false, false, false, false, false] rfl rfl (any_of HT_.out (by kernel_rfl)) (fun _ _ _ h => h) (Or.inl ⟨by rfl, ?_⟩) ?_ ?_
                   rotate_left
                   ·intro w'
                    go_simp
                    with_reducible rfl
                   rotate_left
                   ·simp only [Act.put, List.setIfInBounds_toArray, List.set_cons_zero, List.set_cons_succ, i64_w, i32_w]
                    rfl
                   refine pure_ (i := 13) (N := some 61) (v := ?_) (a' := ?_) #[true, true, true, true, true, false, true, true, true, false, false, true, true, true, false, false, false, false, false, false, false, false] rfl rfl (any_of HT_.out (by kernel_rfl)) (fun _ _ _ h => h) (Or.inl ⟨by rfl, ?_⟩) ?_ ?_
                   rotate_left
                   ·intro w'
                    go_simp
                    with_reducible rfl
                   rotate_left
                   ·simp only [Act.put, List.setIfInBounds_toArray, List.set_cons_zero, List.set_cons_succ, i64_w, i32_w]
                    rfl
                   refine pure_ (i := 14) (N := some 62) (v := ?_) (a' := ?_) #[true, true, true, true, true, false, true, true, true, false, false, true, true, true, true, false, false, false, false, false, false, false] rfl rfl (any_of HT_.out (by kernel_rfl)) (fun _ _ _ h => h) (Or.inl ⟨by rfl, ?_⟩) ?_ ?_
                   rotate_left
                   ·intro w'
                    go_simp
                    with_reducible rfl
                   rotate_left
                   ·simp only [Act.put, List.setIfInBounds_toArray, List.set_cons_zero, List.set_cons_succ, i64_w, i32_w]
                    rfl
                   refine pure_ (i := 15) (N := some 63) (v := ?_) (a' := ?_) #[true, true, true, true, true, false, true, true, true, false, false, true, true, true, true, true, false, false, false, false, false, false] rfl rfl (any_of HT_.out (by kernel_rfl)) (fun _ _ _ h => h) (Or.inl ⟨by rfl, ?_⟩) ?_ ?_
                   rotate_left
                   ·intro w'
                    go_simp
                    with_reducible rfl
                   rotate_left
                   ·simp only [Act.put, List.setIfInBounds_toArray, List.set_cons_zero, List.set_cons_succ, i64_w, i32_w]
                    rfl
                   refine pure_ (i := 16) (N := some 64) (v := ?_) (a' := ?_) #[true, true, true, true, true, false, true, true, true, false, false, true, true, true, true, true, true, false, false, false, false, false] rfl rfl (any_of HT_.out (by kernel_rfl)) (fun _ _ _ h => h) (Or.inl ⟨by rfl, ?_⟩) ?_ ?_
                   rotate_left
                   ·intro w'
                    go_simp
                    with_reducible rfl
                   rotate_left
                   ·simp only [Act.put, List.setIfInBounds_toArray, List.set_cons_zero, List.set_cons_succ, i64_w, i32_w]
                    rfl
                   refine take_ (i := 5) (N := some 53) (v := ?_) (a' := ?_) #[true, true, true, true, true, true, true, true, true, false, false, true, true, true, true, true, true, false, false, false, false, false] rfl rfl (take_ofW HT_.out HW_.out (by kernel_rfl)) (fun _ _ _ h => h) (Or.inl ⟨by rfl, ?_⟩) hHeld ?_ ?_
                   rotate_left
                   ·rintro w' ⟨s0, s1, s2, s3⟩
                    go_simp
                    with_reducible rfl
                   rotate_left
                   ·simp only [Act.put, List.setIfInBounds_toArray, List.set_cons_zero, List.set_cons_succ, i64_w, i32_w]
                    rfl
                   refine take_ (i := 17) (N := some 65) (v := ?_) (a' := ?_) #[true, true, true, true, true, true, true, true, true, false, false, true, true, true, true, true, true, true, false, false, false, false] rfl rfl (take_ofW HT_.out HW_.out (by kernel_rfl)) (fun _ _ _ h => h) (Or.inl ⟨by rfl, ?_⟩) hHeld ?_ ?_
                   rotate_left
                   ·rintro w' ⟨s0, s1, s2, s3⟩
                    go_simp
                    with_reducible rfl
                   rotate_left
                   ·simp only [Act.put, List.setIfInBounds_toArray, List.set_cons_zero, List.set_cons_succ, i64_w, i32_w]
                    rfl
                   refine one_ (i := 9) (N := some 57) #[true, true, true, true, true, true, true, true, true, true, false, true, true, true, true, true, true, true, false, false, false, false] rfl rfl (one_of HT_.out (by kernel_rfl)) (by decide) (fun K hK => ?_)
                   refine goes_ Try.func25 (by kernel_rfl) rfl #[.slice (some ad265) l0.length c0, .int .i64 x7_1] (by rfl) rfl rfl al_ ?_
                   with_reducible refine (comfitref04_Sum.calls k2 _ _ l0 x7_1 t267 _ ?side1 ?side2 A33.out).mono ?_
                   (case side1 => exact kc_ (Kd.C_below HR0.out HB.out))
                   (case side2 => exact HC0.out)
                   rintro e w' ⟨rfl, ⟨nd, rfl⟩⟩
                   refine ⟨_, rfl, ?_⟩
                   refine hK.out _ _ ⟨hHeld.1, hHeld.2.1, hHeld.2.2.1, hHeld.2.2.2⟩ (fun hHeld => ?_)
                   clear hK K
                   refine norm_ (a' := ?_) ?_ ?_
                   rotate_left
                   ·show Act.put _ (some 57) _ = _
                    simp only [Act.put, List.setIfInBounds_toArray, List.set_cons_zero, List.set_cons_succ, i64_w, i32_w]
                    rfl
                   refine one_ (i := 10) (N := some 58) #[true, true, true, true, true, true, true, true, true, true, true, true, true, true, true, true, true, true, false, false, false, false] rfl rfl (one_of HT_.out (by kernel_rfl)) (by decide) (fun K hK => ?_)
                   refine goes_ Try.func60 (by kernel_rfl) rfl #[.int .i64 (rd l0 x38_2), .int .i64 t267] (by rfl) rfl rfl al_ ?_
                   with_reducible refine (comfitref04_frac.calls k2 (rd l0 x38_2) t267 t268 t269 _ A34.out).mono ?_
                   rintro e w43 ⟨rfl, hb⟩
                   have HS0_ := (hb.cell (World.block_lt_of_cell? _ _ (hHeld.1))).trans (hHeld.1)
                   have HS1_ := (hb.cell (World.block_lt_of_cell? _ _ (hHeld.2.1))).trans (hHeld.2.1)
                   have HS2_ := (hb.cell (World.block_lt_of_cell? _ _ (hHeld.2.2.1))).trans (hHeld.2.2.1)
                   have HS3_ := (hb.cell (World.block_lt_of_cell? _ _ (hHeld.2.2.2))).trans (hHeld.2.2.2)
                   refine ⟨_, rfl, ?_⟩
                   have n0_ := Aside0.mk (Kd.R_below (kr_ (HO_6.out)) hb)
                   have n1_ := Aside0.mk (bkb_ BK252.out hb)
                   have n2_ := Aside0.mk (below_step (hb_ HB.out) hb)
                   clear HO_6
                   clear BK252
                   clear HB
                   have HO_6 := n0_
                   have BK252 := n1_
                   have HB := n2_
                   clear n0_ n1_ n2_
                   (try clear hb)
                   (try clear hb2)
                   (try clear hk)
                   (try clear hi)
                   refine hK.out _ _ ⟨HS0_, HS1_, HS2_, HS3_⟩ (fun hHeld => ?_)
                   clear hK K
                   refine norm_ (a' := ?_) ?_ ?_
                   rotate_left
                   ·show Act.put _ (some 58) _ = _
                    simp only [Act.put, List.setIfInBounds_toArray, List.set_cons_zero, List.set_cons_succ, i64_w, i32_w]
                    rfl
                   refine one_ (i := 18) (N := some 66) #[true, true, true, true, true, true, true, true, true, true, true, true, true, true, true, true, true, true, true, false, false, false] rfl rfl (one_of HT_.out (by kernel_rfl)) (by decide) (fun K hK => ?_)
                   refine goes_ Try.func61 (by kernel_rfl) rfl #[.agg #[.int .i64 t268, .int .i64 t269], .agg #[.int .i64 ((rd_T25 x6_2 (Go.bits .andNot .i64 x7_1 (ji36))).f0), .int .i64 ((rd_T25 x6_2 (Go.bits .andNot .i64 x7_1 (ji36))).f1)]] (by rfl) rfl rfl (by (try simp only [List.map_toArray, List.map_cons, List.map_nil]); first | done | (simp only [hji36]; rfl) | rfl | (simp only [List.length_drop, List.length_take]; rfl)) ?_
                   with_reducible refine (comfitref04_times.calls k2 t268 t269 ((rd_T25 x6_2 (Go.bits .andNot .i64 x7_1 (ji36))).f0) ((rd_T25 x6_2 (Go.bits .andNot .i64 x7_1 (ji36))).f1) t271 t272 _ A39.out).mono ?_
                   rintro e w44 ⟨rfl, hb⟩
                   have HS0_ := (hb.cell (World.block_lt_of_cell? _ _ (hHeld.1))).trans (hHeld.1)
                   have HS1_ := (hb.cell (World.block_lt_of_cell? _ _ (hHeld.2.1))).trans (hHeld.2.1)
                   have HS2_ := (hb.cell (World.block_lt_of_cell? _ _ (hHeld.2.2.1))).trans (hHeld.2.2.1)
                   have HS3_ := (hb.cell (World.block_lt_of_cell? _ _ (hHeld.2.2.2))).trans (hHeld.2.2.2)
                   refine ⟨_, rfl, ?_⟩
                   have n0_ := Aside0.mk (Kd.R_below (kr_ (HO_6.out)) hb)
                   have n1_ := Aside0.mk (bkb_ BK252.out hb)
                   have n2_ := Aside0.mk (below_step (hb_ HB.out) hb)
                   clear HO_6
                   clear BK252
                   clear HB
                   have HO_6 := n0_
                   have BK252 := n1_
                   have HB := n2_
                   clear n0_ n1_ n2_
                   (try clear hb)
                   (try clear hb2)
                   (try clear hk)
                   (try clear hi)
                   refine hK.out _ _ ⟨HS0_, HS1_, HS2_, HS3_⟩ (fun hHeld => ?_)
                   clear hK K
                   refine norm_ (a' := ?_) ?_ ?_
                   rotate_left
                   ·show Act.put _ (some 66) _ = _
                    simp only [Act.put, List.setIfInBounds_toArray, List.set_cons_zero, List.set_cons_succ, i64_w, i32_w]
                    rfl
                   refine one_ (i := 19) (N := some 67) #[true, true, true, true, true, true, true, true, true, true, true, true, true, true, true, true, true, true, true, true, false, false] rfl rfl (one_of HT_.out (by kernel_rfl)) (by decide) (fun K hK => ?_)
                   refine goes_ Try.func58 (by kernel_rfl) rfl #[.agg #[.int .i64 ((rd_T25 x6_2 x7_1).f0), .int .i64 ((rd_T25 x6_2 x7_1).f1)], .agg #[.int .i64 t271, .int .i64 t272]] (by rfl) rfl rfl al_ ?_
                   with_reducible refine (comfitref04_Plus.calls k2 ((rd_T25 x6_2 x7_1).f0) ((rd_T25 x6_2 x7_1).f1) t271 t272 t273 t274 _ A40.out).mono ?_
                   rintro e w45 ⟨rfl, hb⟩
                   have HS0_ := (hb.cell (World.block_lt_of_cell? _ _ (hHeld.1))).trans (hHeld.1)
                   have HS1_ := (hb.cell (World.block_lt_of_cell? _ _ (hHeld.2.1))).trans (hHeld.2.1)
                   have HS2_ := (hb.cell (World.block_lt_of_cell? _ _ (hHeld.2.2.1))).trans (hHeld.2.2.1)
                   have HS3_ := (hb.cell (World.block_lt_of_cell? _ _ (hHeld.2.2.2))).trans (hHeld.2.2.2)
                   refine ⟨_, rfl, ?_⟩
                   have n0_ := Aside0.mk (Kd.R_below (kr_ (HO_6.out)) hb)
                   have n1_ := Aside0.mk (bkb_ BK252.out hb)
                   have n2_ := Aside0.mk (below_step (hb_ HB.out) hb)
                   clear HO_6
                   clear BK252
                   clear HB
                   have HO_6 := n0_
                   have BK252 := n1_
                   have HB := n2_
                   clear n0_ n1_ n2_
                   (try clear hb)
                   (try clear hb2)
                   (try clear hk)
                   (try clear hi)
                   have p41 : 0 ≤ (x7_1 : Int) := of_decide_eq_true (by first | (with_reducible assumption) | assumption)
                   have q41 : (x7_1 : Int) < ((x6_2.length : Int) : Int) := of_decide_eq_true (by first | (with_reducible assumption) | assumption)
                   obtain ⟨ce41, hcl41, hM41, hcc41, hfr41⟩ := Kd.R_elem HO_6.out z25 (x7_1 : Int) p41 q41
                   obtain rfl := k25_openM hM41
                   have hx41_0 : World.cell? _ ⟨go9, (x7_1 : Int).toNat * 2, none⟩ = some (.int .i64 ((rd_T25 x6_2 x7_1).f0)) := hcc41 0 _ rfl
                   have hx41_1 : World.cell? _ ⟨go9, (x7_1 : Int).toNat * 2 + 1, none⟩ = some (.int .i64 ((rd_T25 x6_2 x7_1).f1)) := hcc41 1 _ rfl
                   have hf41_0 : World.frozen? _ ⟨go9, (x7_1 : Int).toNat * 2, none⟩ = false := hfr41 0
                   have hf41_1 : World.frozen? _ ⟨go9, (x7_1 : Int).toNat * 2 + 1, none⟩ = false := hfr41 1
                   clear hcl41 hcc41 hfr41 hM41
                   replace p41 := eq_true p41
                   replace q41 := eq_true q41
                   obtain ⟨ce46, hcl46, hM46, hcc46, hfr46⟩ := Kd.R_elem HO_6.out z25 (x7_1 : Int) (of_decide_eq_true (by first | (with_reducible assumption) | assumption)) (by have h_ : (x7_1 : Int) < ((x6_2.length : Int) : Int) := of_decide_eq_true (by first | (with_reducible assumption) | assumption); first | exact h_ | (have e_ := (Kd.R_reads' HO_6.out).1; omega) | simpa using h_)
                   obtain rfl := k25_openM hM46
                   have HP46 := (Kd.R_seg HO_6.out (x7_1 : Int) (of_decide_eq_true (by first | (with_reducible assumption) | assumption)) (by have h_ : (x7_1 : Int) < ((x6_2.length : Int) : Int) := of_decide_eq_true (by first | (with_reducible assumption) | assumption); first | exact h_ | (have e_ := (Kd.R_reads' HO_6.out).1; omega) | simpa using h_) (seg := [.int .i64 t273, .int .i64 t274]) (j := 0) hcl46 hcc46 (show 2 ≤ 2 from by decide) (x' := (⟨t273, t274⟩ : S25)) (k25_mkM _ _ _ (⟨t273, t274⟩ : S25) ) (fun _ hk => hk)).1
                   rw [← Ny275.out] at HP46
                   have HQ46 := Aside0.mk HP46
                   clear hcl46 hcc46 hfr46 hM46 HP46
                   refine hK.out _ _ ⟨HS0_, HS1_, HS2_, HS3_⟩ (fun hHeld => ?_)
                   clear hK K
                   refine norm_ (a' := ?_) ?_ ?_
                   rotate_left
                   ·show Act.put _ (some 67) _ = _
                    simp only [Act.put, List.setIfInBounds_toArray, List.set_cons_zero, List.set_cons_succ, i64_w, i32_w]
                    rfl
                   refine pure_ (i := 20) (N := some 68) (v := ?_) (a' := ?_) #[true, true, true, true, true, true, true, true, true, true, true, true, true, true, true, true, true, true, true, true, true, false] rfl rfl (any_of HT_.out (by kernel_rfl)) (fun _ _ _ h => h) (Or.inl ⟨by rfl, ?_⟩) ?_ ?_
                   rotate_left
                   ·intro w'
                    go_simp
                    with_reducible rfl
                   rotate_left
                   ·simp only [Act.put, List.setIfInBounds_toArray, List.set_cons_zero, List.set_cons_succ, i64_w, i32_w]
                    rfl
                   refine last_ (i := 21) (N := none) #[true, true, true, true, true, true, true, true, true, true, true, true, true, true, true, true, true, true, true, true, true, true] rfl rfl (one_of HT_.out (by kernel_rfl)) (by decide) (fun K hK => ?_)
                   refine skip_ (w1 := ?_) (by rfl) rfl ?_ ?_
                   rotate_left
                   ·go_simp
                    rfl
                   refine hK.out _ _ ?_
                   clear hK K
                   refine done_ (done_of HT_.out (by kernel_rfl)) ?_
                   try go_wp2
                   (try simp only [← hl6_2])
                   go_roundg k2
                   case measure => have := HK1.out; have := HK2.out; omega
                   case rel => exact ⟨(y275), (wrap64 (x38_2 + 1)), (x253000_2), (x253001_2), (by first | rfl | (simp; done) | (simp [*]; done)), H', ⟨by have := HK1.out; have := HK2.out; omega⟩, ⟨by (try simp only [hl6_1]); (try simp only [hl6_2]); (with_reducible repeat (first | apply Kd.R_alloc | apply Kd.R_drewN | apply Kd.R_drew)); exact HQ46.out⟩, ⟨by (try simp only [hl6_1]); (try simp only [hl6_2]); (with_reducible repeat (first | refine blk_drewN ?_ _ | refine blk_drew ?_ | refine blk_alloc ?_ _)); refine blk_far ?_ (by have h_ := Kd.R_away HO_6.out (fun _ hk => hk); intro e_; exact h_ (by rw [e_]; rfl)) _; (with_reducible repeat (first | refine blk_drewN ?_ _ | refine blk_drew ?_ | refine blk_alloc ?_ _)); refine blk_far ?_ (by have h_ := Kd.R_away HO_6.out (fun _ hk => hk); intro e_; exact h_ (by rw [e_]; rfl)) _; (with_reducible repeat (first | refine blk_drewN ?_ _ | refine blk_drew ?_ | refine blk_alloc ?_ _)); exact BK252.out⟩, ⟨by repeat (first | (with_reducible first | exact HB.out | apply below_alloc | apply pw_below_drewN | apply below_drew1 | refine below_set ?_ GB9.out | refine below_set ?_ GB9.out | refine below_set ?_ GE252.out) | exact HB.out)⟩⟩
                  ·rw [if_neg c38] at H
                   exact absurd H (by simp)
                 ·rw [if_neg c37] at H
                  exact absurd H (by simp)
                ·rw [if_neg c32] at H
                 exact absurd H (by simp)
               ·rw [if_neg c31] at H
                exact absurd H (by simp)
              ·rw [if_neg c30] at H
               have c30b0 : ((Go.bits .and .i64 (ji29) 1) == 1) = false := beq_eq_false_iff_ne.mpr c30
               have c30b1 : ((Go.bits .and .i64 (ji29) 1) != 1) = true := bne_iff_ne.mpr c30
               have H' := Aside0.mk H
               clear H
               have p265 : 0 ≤ (x38_2 : Int) := of_decide_eq_true (by first | (with_reducible assumption) | assumption)
               have q265 : x38_2 < (l0.length : Int) := of_decide_eq_true (by first | (with_reducible assumption) | assumption)
               obtain ⟨ad265, e265, hx265_0⟩ := Kd.at_int HR0.out x38_2 p265 q265
               cases e265
               replace hx265_0 := (HB.out.cell (World.block_lt_of_cell? w _ hx265_0)).trans hx265_0
               replace p265 := eq_true p265
               replace q265 := eq_true q265
               go_wp2
               (try simp only [← hl6_2])
               go_roundg k2
               case measure => have := HK1.out; have := HK2.out; omega
               case rel => exact ⟨(x6_2), (wrap64 (x38_2 + 1)), (x253000_2), (x253001_2), (by first | rfl | (simp; done) | (simp [*]; done)), H', ⟨by have := HK1.out; have := HK2.out; omega⟩, ⟨by (try simp only [hl6_1]); (try simp only [hl6_2]); (with_reducible repeat (first | apply Kd.R_alloc | apply Kd.R_drewN | apply Kd.R_drew)); exact HO_6.out⟩, ⟨by (try simp only [hl6_1]); (try simp only [hl6_2]); (with_reducible repeat (first | refine blk_drewN ?_ _ | refine blk_drew ?_ | refine blk_alloc ?_ _)); exact BK252.out⟩, ⟨by repeat (first | (with_reducible first | exact HB.out | apply below_alloc | apply pw_below_drewN | apply below_drew1 | refine below_set ?_ GE252.out) | exact HB.out)⟩⟩
             ·rw [if_neg c27] at H
              exact absurd H (by simp)
            ·rw [if_neg c26] at H
             exact absurd H (by simp)
           ·rw [if_neg c25] at H
            have c25b0 : decide (x38_2 < (l0.length : Int)) = false := decide_eq_false c25
            clear c25
            have H' := Aside0.mk H
            clear H
            go_wp2
            (try simp only [← hl6_1, ← hl6_2])
            go_roundg k2
            case measure => have := HK1.out; have := HK2.out; omega
            case rel => exact ⟨(x6_2), (wrap64 (x7_1 + 1)), (x253000_2), (x253001_2), (by first | rfl | (simp; done) | (simp [*]; done)), H', ⟨by have := HK1.out; have := HK2.out; omega⟩, ⟨by (try simp only [hl6_1]); (try simp only [hl6_2]); (with_reducible repeat (first | apply Kd.R_alloc | apply Kd.R_drewN | apply Kd.R_drew)); exact HO_6.out⟩, ⟨by (try simp only [hl6_1]); (try simp only [hl6_2]); (with_reducible repeat (first | refine blk_drewN ?_ _ | refine blk_drew ?_ | refine blk_alloc ?_ _)); exact BK252.out⟩, ⟨by repeat (first | (with_reducible first | exact HB.out | apply below_alloc | apply pw_below_drewN | apply below_drew1 | refine below_set ?_ GE252.out) | exact HB.out)⟩⟩
        ·rw [if_neg c20] at H
         exact absurd H (by simp)
       ·rw [if_neg c19] at H
        exact absurd H (by simp)
      ·rw [if_neg c16] at H
       have c16b0 : decide (x7_1 ≤ a1) = false := decide_eq_false c16
       clear c16
       by_cases c47 : 0 ≤ a1
       ·rw [if_pos c47] at H
        have c47b0 : decide (0 ≤ a1) = true := decide_eq_true c47
        clear c47
        by_cases c48 : a1 < (x6_1.length : Int)
        ·rw [if_pos c48] at H
         have c48b0 : decide (a1 < (x6_1.length : Int)) = true := decide_eq_true c48
         clear c48
         simp only [Option.some.injEq, Prod.mk.injEq] at H
         obtain ⟨rfl, rfl⟩ := H
         have p260 : 0 ≤ (a1 : Int) := of_decide_eq_true (by first | (with_reducible assumption) | assumption)
         have q260 : a1 < (x6_1.length : Int) := of_decide_eq_true (by first | (with_reducible assumption) | assumption)
         obtain ⟨ad260, e260, hx260_0, hx260_1⟩ := at_T25 (Kd.R_reads' HO_6.out).2.2 a1 p260 q260
         obtain rfl : (⟨go9, 0, none⟩ : Addr) = ad260 := (by injection e260)
         (first | simp only [add_plain] at hx260_0 | simp only [add_at] at hx260_0 | simp only [Addr.add, Nat.zero_add] at hx260_0 | skip)
         (first | simp only [add_plain] at hx260_1 | simp only [add_at] at hx260_1 | simp only [Addr.add, Nat.zero_add] at hx260_1 | skip)
         replace p260 := eq_true p260
         replace q260 := eq_true q260
         have hcz49_0 : wr.cell? ⟨gb252, 0, none⟩ = some (.int .i64 x253000_1) := (blk_cell BK252.out 0).trans rfl
         have hcz49_1 : wr.cell? ⟨gb252, 1, none⟩ = some (.int .i64 x253001_1) := (blk_cell BK252.out 1).trans rfl
         have hfz49_0 := blk_frozen BK252.out 0
         have hfz49_1 := blk_frozen BK252.out 1
         go_wp2
         refine bodyPost_ret (results_cell_row rfl _ _ gb252 25 #[.int .i64 ((rd_T25 x6_1 a1).f0), .int .i64 ((rd_T25 x6_1 a1).f1)] (0, 0) _ rfl (by (with_reducible repeat (first | refine blk_drewN ?_ _ | refine blk_drew ?_ | refine blk_alloc ?_ _)); refine blk_put (cs := #[.int .i64 ((rd_T25 x6_1 a1).f0), .int .i64 x253001_1]) ?_ 1 _ rfl; (with_reducible repeat (first | refine blk_drewN ?_ _ | refine blk_drew ?_ | refine blk_alloc ?_ _)); refine blk_put (cs := #[.int .i64 x253000_1, .int .i64 x253001_1]) ?_ 0 _ rfl; (with_reducible repeat (first | refine blk_drewN ?_ _ | refine blk_drew ?_ | refine blk_alloc ?_ _)); exact BK252.out) Try.underlying25 rfl (by kernel_rfl)) rfl ?_
         exact ⟨by first | rfl | (simp [errW_none, errW_some] <;> rfl) | (simp only [← hji3]; first | rfl | (simp [errW_none, errW_some] <;> rfl)) | (simp [*, errW_none, errW_some] <;> rfl), by repeat (first | (with_reducible first | exact HB.out | apply below_alloc | apply pw_below_drewN | apply below_drew1 | refine below_set ?_ GE252.out) | exact HB.out)⟩
        ·rw [if_neg c48] at H
         exact absurd H (by simp)
       ·rw [if_neg c47] at H
        exact absurd H (by simp)
   ·rw [if_neg c8] at H
    exact absurd H (by simp)
  ·rw [if_neg c6] at H
   exact absurd H (by simp)
 ·rw [if_neg c5] at H
  exact absurd H (by simp)

end Go.Proofs.Ytigmhomfadimnaa.X
