/- The contract of packets' isSet: valid weights, and every set of them one of kinds (a closure that captures the weights, handed to slices.ContainsFunc). -/
import Derived.Test.YtigmhomfadimnaaQXV
set_option linter.unusedVariables false
set_option linter.unusedSimpArgs false
namespace Go.Proofs.Ytigmhomfadimnaa.X
open Go.RowKit Go.Proofs.YtigmhomfadimnaaW.PrintWords Go.Proofs.YtigmhomfadimnaaW.PrintLast Go.Proofs.YtigmhomfadimnaaW.PrintMore

/-- A number that is no set of n kinds. -/
def noSet (n : Nat) (s : Int) : Bool := if s < 0 then true else decide (shl .i64 1 (n : Int) ≤ s)

set_option maxRecDepth 100000 in
set_option maxHeartbeats 2000000 in
theorem isSet1_calls (B : Nat) (A0 : Option Addr) (n c0 : Nat) (s : Int) (w : World) (hc : w.cell? ⟨B, 0, none⟩ = some (.slice A0 n c0)) :
    Calls Try.prog 75 #[.int .i64 s, .pointer (some ⟨B, 0, none⟩)] w fun e w' => e = .returned (.bool (noSet n s)) ∧ Drawn0 w w' := by
  by_cases hs : s < 0
  · have hs0 : decide (s < 0) = true := decide_eq_true hs
    have hf : noSet n s = true := by unfold noSet; rw [if_pos hs]
    rw [hf]
    clear hf hs
    go_enter Try.func75, Try.ntmps75
    go_wp2
    go_ret
    exact ⟨rfl, Drawn0.refl _⟩
  · have hs0 : decide (s < 0) = false := decide_eq_false hs
    have hf : noSet n s = decide (shl .i64 1 (n : Int) ≤ s) := by unfold noSet; rw [if_neg hs]
    rw [hf]
    clear hf hs
    obtain ⟨ji6, hji6⟩ : ∃ j_ : Int, (shl .i64 1 (n : Int)) = j_ := ⟨_, rfl⟩
    rw [hji6]
    have hji6_ : (IntKind.i64.wrap (1 * 2 ^ min (n : Int).toNat 64)) = ji6 := hji6
    have hji6p : (IntKind.i64.wrap (1 * 2 ^ min n 64)) = ji6 := hji6_
    have hji6r : (IntKind.i64.wrap (2 ^ min n 64)) = ji6 := by have h_ := hji6p; rw [Int.one_mul] at h_; exact h_
    have hji6u : (IntKind.i64.wrap (2 ^ min (n : Int).toNat 64)) = ji6 := by have h_ := hji6_; rw [Int.one_mul] at h_; exact h_
    have hji6y : (wrap64 (1 * 2 ^ min (n : Int).toNat 64)) = ji6 := (i64_w _).symm.trans hji6_
    go_enter Try.func75, Try.ntmps75
    go_wp2
    go_ret
    exact ⟨rfl, Drawn0.refl _⟩

theorem any_take_succ (p : Int → Bool) (l : List Int) (i : Nat) (h : i < l.length) : (l.take (i + 1)).any p = ((l.take i).any p || p (rd l (i : Int))) := by
  rw [List.take_succ_eq_append_getElem h, List.any_append]
  simp [rd, List.getElem?_eq_getElem h]

set_option maxRecDepth 100000 in
set_option maxHeartbeats 2000000 in
theorem indexFunc_calls (B : Nat) (A0 : Option Addr) (n c0 : Nat) (A1 : Option Addr) (c1 : Nat) (l1 : List Int) (w : World) (hc : w.cell? ⟨B, 0, none⟩ = some (.slice A0 n c0)) (hr : Kd.C (Kd.int .i64) w A1 l1.length l1) :
    Calls Try.prog 80 #[.slice A1 l1.length c1, .func (.func 75) #[] #[.pointer (some ⟨B, 0, none⟩)]] w fun e w' => (∃ i : Int, e = .returned (.int .i64 i) ∧ decide (0 ≤ i) = l1.any (noSet n)) ∧ Drawn0 w w' := by
  have HR := Aside0.mk hr
  have hlen : l1.length ≤ 9223372036854775807 := hr.2.1
  clear hr
  have HC := Aside0.mk hc
  clear hc
  go_enter Try.func80, Try.ntmps80
  go_wp2
  go_loopw [5, 8] (fun v5 v8 wr => ∃ k : Nat, v8 = .int .i64 k ∧ k ≤ l1.length ∧ (l1.take k).any (noSet n) = false ∧ Drawn0 w wr) (fun _ v8 _ => l1.length - (intOf v8).toNat)
  case atStart => exact ⟨0, rfl, Nat.zero_le _, rfl, Drawn0.refl _⟩
  case round =>
    obtain ⟨k, rfl, hk, hany, hd⟩ := hrel
    obtain ⟨m1, rfl⟩ := hd
    by_cases hlt : k < l1.length
    · have hsn := any_take_succ (noSet n) l1 k hlt
      rw [hany, Bool.false_or] at hsn
      obtain ⟨ad, e, hx⟩ := Kd.at_int HR.out (k : Int) (by omega) (by omega)
      cases e
      rw [Int.toNat_natCast] at hx
      have HANY := Aside0.mk hany
      clear hany
      generalize hq : noSet n (rd l1 (k : Int)) = q at hsn
      have HSN := Aside0.mk hsn
      clear hsn
      cases q with
      | true =>
        go_wp2_with (go_at_call 75; refine (isSet1_calls B A0 n c0 _ _ (by exact HC.out)).mono ?_; rintro e w' ⟨rfl, ⟨m2, rfl⟩⟩)
        go_ret
        refine ⟨⟨_, rfl, ?_⟩, by repeat (first | exact Drawn0.refl _ | apply Drawn0.step)⟩
        have h1 : l1.any (noSet n) = true := by
          rw [← List.take_append_drop (k + 1) l1, List.any_append, HSN.out, Bool.true_or]
        rw [h1]
        simp
      | false =>
        go_wp2_with (go_at_call 75; refine (isSet1_calls B A0 n c0 _ _ (by exact HC.out)).mono ?_; rintro e w' ⟨rfl, ⟨m2, rfl⟩⟩)
        go_roundw
        case rel => exact ⟨k + 1, by go_num, by omega, HSN.out, by repeat (first | exact Drawn0.refl _ | apply Drawn0.step)⟩
        case measure => simp [intOf]; omega
    · obtain rfl : k = l1.length := by omega
      have HANY := Aside0.mk hany
      clear hany
      go_wp2
      go_ret
      refine ⟨⟨_, rfl, ?_⟩, by repeat (first | exact Drawn0.refl _ | apply Drawn0.step)⟩
      rw [← List.take_length (l := l1), HANY.out]
      rfl

set_option maxRecDepth 100000 in
set_option maxHeartbeats 2000000 in
theorem containsFunc_calls (B : Nat) (A0 : Option Addr) (n c0 : Nat) (A1 : Option Addr) (c1 : Nat) (l1 : List Int) (w : World) (hc : w.cell? ⟨B, 0, none⟩ = some (.slice A0 n c0)) (hr : Kd.C (Kd.int .i64) w A1 l1.length l1) :
    Calls Try.prog 74 #[.slice A1 l1.length c1, .func (.func 75) #[] #[.pointer (some ⟨B, 0, none⟩)]] w fun e w' => e = .returned (.bool (l1.any (noSet n))) ∧ Drawn0 w w' := by
  have HR := Aside0.mk hr
  clear hr
  have HC := Aside0.mk hc
  clear hc
  generalize hq : l1.any (noSet n) = q
  have HQ := Aside0.mk hq
  clear hq
  go_enter Try.func74, Try.ntmps74
  go_wp2_with (go_at_call 80; refine (indexFunc_calls B A0 n c0 A1 c1 l1 _ (by exact HC.out) (by exact HR.out)).mono ?_; rintro e w' ⟨⟨i, rfl, hi⟩, ⟨m2, rfl⟩⟩; rw [HQ.out] at hi)
  go_ret
  exact ⟨by simp [hi], by repeat (first | exact Drawn0.refl _ | apply Drawn0.step)⟩

/-- Valid weights, and none of the numbers is no set. -/
def packets_weights_isSet.f (k : Nat) (l0 : List Int) (l1 : List Int) : Option Bool := (packets_weights_valid.f k l0).bind fun t => (if t = true then (some (!(l1.any (noSet l0.length)))) else (some false))
theorem packets_weights_isSet.mono : ∀ a0 a1 k, LeO (packets_weights_isSet.f k a0 a1) (packets_weights_isSet.f (k + 1) a0 a1) := by
  intro a0 a1 k
  unfold packets_weights_isSet.f
  repeat' first
      | (with_reducible exact packets_weights_valid.mono _ _)
      | (with_reducible exact LeO.refl _)
      | (with_reducible exact LeO.none _)
      | (with_reducible refine LeO.ite ?_ ?_)
      | (with_reducible refine LeO.bind ?_ (fun _ => ?_))

set_option maxRecDepth 100000 in
set_option maxHeartbeats 2000000 in
theorem packets_weights_isSet.calls (k : Nat) (A0 : Option Addr) (c0 : Nat) (l0 : List Int) (A1 : Option Addr) (c1 : Nat) (l1 : List Int) (r : Bool) (w : World) (hr0 : Kd.C (Kd.int .i64) w A0 l0.length l0) (hc0 : l0.length ≤ c0) (hr1 : Kd.C (Kd.int .i64) w A1 l1.length l1) (hc1 : l1.length ≤ c1) (h : packets_weights_isSet.f k l0 l1 = some r) :
    Calls Try.prog 48 #[.slice A0 l0.length c0, .slice A1 l1.length c1] w fun e w' => e = .returned (.bool r) ∧ Below w.heap.size w w' := by
  have HR0 := Aside0.mk hr0
  have HC0 := Aside0.mk hc0
  have HR1 := Aside0.mk hr1
  have HC1 := Aside0.mk hc1
  clear hr0 hc0 hr1 hc1
  have HB := Aside0.mk (Below.refl w.heap.size w)
  unfold packets_weights_isSet.f at h
  replace h := Option.bind_eq_some_iff.mp h
  obtain ⟨t, ht, h⟩ := h
  have HT := Aside0.mk ht
  clear ht
  have HA : Aside0 ((w.alloc (.cells #[.slice A0 l0.length c0] 52)).cell? ⟨w.heap.size, 0, none⟩ = some (.slice A0 l0.length c0)) := ⟨by rw [World.cell?_alloc_new]; rfl⟩
  cases t with
  | false =>
    obtain rfl : false = r := by simpa using h
    clear h
    go_enter Try.func48, Try.ntmps48
    go_wp2_with fail
    refine (packets_weights_valid.calls k A0 c0 l0 _ _ (Kd.C_alloc HR0.out _) HC0.out HT.out).mono ?_
    rintro e w1 ⟨rfl, hb1⟩
    go_wp2
    go_ret
    exact ⟨rfl, below_step (below_alloc HB.out _) hb1⟩
  | true =>
    obtain rfl : (!(l1.any (noSet l0.length))) = r := by simpa using h
    clear h
    go_enter Try.func48, Try.ntmps48
    go_wp2_with fail
    refine (packets_weights_valid.calls k A0 c0 l0 _ _ (Kd.C_alloc HR0.out _) HC0.out HT.out).mono ?_
    rintro e w1 ⟨rfl, hb1⟩
    go_wp2_with fail
    refine (containsFunc_calls _ A0 l0.length c0 A1 c1 l1 _ (pw_cell_below hb1 HA.out) (Kd.C_below (Kd.C_alloc HR1.out _) hb1)).mono ?_
    rintro e w2 ⟨rfl, ⟨m2, rfl⟩⟩
    go_wp2
    go_ret
    exact ⟨rfl, pw_below_drewN (below_step (below_alloc HB.out _) hb1) _⟩
end Go.Proofs.Ytigmhomfadimnaa.X
