/- The contract of the reference's Cutter: letters a to d, and not too many. -/
import Derived.Test.YtjmbjnobbeflfaaDoorQXT
set_option linter.unusedVariables false
set_option linter.unusedSimpArgs false
namespace Go.Proofs.YtjmbjnobbeflfaaDoor.X
open Go.RowKit Go.Proofs.YtjmbjnobbeflfaaDoorW.PrintWords Go.Proofs.YtjmbjnobbeflfaaDoorW.PrintLast Go.Proofs.YtjmbjnobbeflfaaDoorW.PrintMore
attribute [local go_sem] Oper.semAt_some
def letB (b : UInt8) : Bool := decide (97 ≤ b.toNat) && decide (b.toNat ≤ 100)
def lettersB (s : ByteArray) (n : Int) : Bool := s.data.toList.all letB && decide ((s.size : Int) ≤ n)
theorem len_data (s : ByteArray) : s.data.toList.length = s.size := by rw [Array.length_toList]; rfl
theorem letters_go (s : ByteArray) (n : Int) (hs : s.size ≤ 9223372036854775807) : ∀ (d i : Nat), i + d = s.size → ∃ k, comfitref06_letters.l0 k s n (s.size : Int) (i : Int) = some ((s.data.toList.drop i).all letB && decide ((s.size : Int) ≤ n)) := by
  intro d
  induction d with
  | zero =>
    intro i hi
    refine ⟨1, ?_⟩
    have hl := len_data s
    rw [comfitref06_letters.l0, if_neg (by omega), List.drop_eq_nil_of_le (by omega)]
    simp
  | succ d ih =>
    intro i hi
    obtain ⟨k, hk⟩ := ih (i + 1) (by omega)
    have hl := len_data s
    have hil : i < s.data.toList.length := by omega
    have hb : bt s (i : Int) = (s.data.toList[i].toNat : Int) := by
      unfold bt
      rw [dif_pos (by simpa using (show i < s.size by omega))]
      rfl
    rw [List.drop_eq_getElem_cons hil, List.all_cons]
    unfold letB at *
    refine ⟨k + 1, ?_⟩
    rw [comfitref06_letters.l0, if_pos (by omega), if_pos (by omega), if_pos (by omega), hb]
    generalize s.data.toList[i] = b at *
    by_cases h1 : (b.toNat : Int) < 97
    · rw [if_pos h1, show decide (97 ≤ b.toNat) = false from decide_eq_false (by omega)]; simp
    · rw [if_neg h1, show decide (97 ≤ b.toNat) = true from decide_eq_true (by omega)]
      by_cases h2 : (b.toNat : Int) > 100
      · rw [if_pos h2, show decide (b.toNat ≤ 100) = false from decide_eq_false (by omega)]; simp
      · rw [if_neg h2, show decide (b.toNat ≤ 100) = true from decide_eq_true (by omega), show wrap64 ((i : Int) + 1) = ((i + 1 : Nat) : Int) by unfold wrap64; omega, hk]
        simp
theorem letters_ok (s : ByteArray) (n : Int) (hs : s.size ≤ 9223372036854775807) : ∃ k, comfitref06_letters.f k s n = some (lettersB s n) := letters_go s n hs s.size 0 (by omega)
theorem letters_calls (s : ByteArray) (n : Int) (hs : s.size ≤ 9223372036854775807) (w : World) : Calls Tryd.prog 19 #[.string s, .int .i64 n] w fun e w' => e = .returned (.bool (lettersB s n)) ∧ Below w.heap.size w w' := by
  obtain ⟨k, hk⟩ := letters_ok s n hs
  exact (comfitref06_letters.calls k s n _ w hk).mono fun e w' h => ⟨h.1, h.2.below⟩
def fourB (s0 s1 s2 s3 : ByteArray) : Bool := lettersB s0 4 && (lettersB s1 4 && (lettersB s2 4 && lettersB s3 4))
def cutB (c : Int) (s0 s1 s2 s3 t : ByteArray) : Bool := fourB s0 s1 s2 s3 && (decide (c ≥ 1) && (decide (c ≤ 3) && lettersB t 200))
def lim : Nat := 9223372036854775807
def comfitref06_Cutter.f (a0 : Int) (s0 s1 s2 s3 t : ByteArray) : Option Bool := if s0.size ≤ lim ∧ s1.size ≤ lim ∧ s2.size ≤ lim ∧ s3.size ≤ lim ∧ t.size ≤ lim then some (cutB a0 s0 s1 s2 s3 t) else none
def nth4 (s0 s1 s2 s3 : ByteArray) : Nat → ByteArray
  | 0 => s0
  | 1 => s1
  | 2 => s2
  | _ => s3
set_option maxRecDepth 100000 in
set_option maxHeartbeats 8000000 in
theorem comfitref06_Cutter.calls (a0 : Int) (s0 s1 s2 s3 t : ByteArray) (r : Bool) (w : World) (h : comfitref06_Cutter.f a0 s0 s1 s2 s3 t = some r) :
    Calls Tryd.prog 9 #[.int .i64 a0, .agg #[.string s0, .string s1, .string s2, .string s3], .string t] w fun e w' => e = .returned (.bool r) ∧ Below w.heap.size w w' := by
  have hu22 := Tryd.underlying22
  unfold comfitref06_Cutter.f at h
  split at h
  · rename_i hc
    obtain rfl := Option.some.inj h
    clear h
    unfold lim at hc
    obtain ⟨z0, z1, z2, z3, z4⟩ := hc
    have HS0 := Aside0.mk z0
    have HS1 := Aside0.mk z1
    have HS2 := Aside0.mk z2
    have HS3 := Aside0.mk z3
    have HS4 := Aside0.mk z4
    clear z0 z1 z2 z3 z4
    have HB := Aside0.mk (Below.refl w.heap.size w)
    go_enter Tryd.func9, Tryd.ntmps9
    go_wp2_with fail
    go_loopw [10] (fun v10 W => ∃ i : Nat, v10 = .int .i64 (i : Int) ∧ i ≤ 4 ∧ Aside0 (∀ j, j < i → lettersB (nth4 s0 s1 s2 s3 j) 4 = true) ∧ Aside0 (Below w.heap.size w W)) (fun v10 _ => 4 - (intOf v10).toNat)
    case atStart => exact ⟨0, rfl, by omega, ⟨fun j h => by omega⟩, ⟨below_alloc HB.out _⟩⟩
    case round =>
      obtain ⟨i, rfl, hi, HL, HW⟩ := hrel
      have hcase : i = 0 ∨ i = 1 ∨ i = 2 ∨ i = 3 ∨ i = 4 := by omega
      rcases hcase with rfl | rfl | rfl | rfl | rfl
      · obtain ⟨b, hb0⟩ : ∃ b, lettersB s0 4 = b := ⟨_, rfl⟩
        have HBE := Aside0.mk hb0
        have hcl := letters_calls s0 4 HS0.out
        rw [hb0] at hcl
        clear hb0
        have hnt : (!true) = false := rfl
        have hnf : (!false) = true := rfl
        cases b with
        | false =>
          go_wp2_with (first | ((with_reducible refine gate_dst (N := 12) rfl ?_); refine Kd.event_run rfl (v := .string s0) (w1 := _) (by go_simp; rfl) ?_) | (go_at_call 19; refine (hcl _).mono ?_; rintro e w1 ⟨rfl, hb⟩; have HW1 := Aside0.mk (below_step HW.out hb); clear hb hcl))
          go_ret
          refine ⟨?_, HW1.out⟩
          unfold cutB fourB
          rw [HBE.out]
          simp
        | true =>
          go_wp2_with (first | ((with_reducible refine gate_dst (N := 12) rfl ?_); refine Kd.event_run rfl (v := .string s0) (w1 := _) (by go_simp; rfl) ?_) | (go_at_call 19; refine (hcl _).mono ?_; rintro e w1 ⟨rfl, hb⟩; have HW1 := Aside0.mk (below_step HW.out hb); clear hb hcl))
          exact ⟨⟨1, by first | rfl | (congr 1 <;> decide), by omega, ⟨fun j hj => by
            by_cases hq : j = 0
            · subst hq; exact HBE.out
            · exact HL.out j (by omega)⟩, HW1⟩, by first | decide | (simp only [intOf]; decide)⟩
      · obtain ⟨b, hb0⟩ : ∃ b, lettersB s1 4 = b := ⟨_, rfl⟩
        have HBE := Aside0.mk hb0
        have hcl := letters_calls s1 4 HS1.out
        rw [hb0] at hcl
        clear hb0
        have hnt : (!true) = false := rfl
        have hnf : (!false) = true := rfl
        cases b with
        | false =>
          go_wp2_with (first | ((with_reducible refine gate_dst (N := 12) rfl ?_); refine Kd.event_run rfl (v := .string s1) (w1 := _) (by go_simp; rfl) ?_) | (go_at_call 19; refine (hcl _).mono ?_; rintro e w1 ⟨rfl, hb⟩; have HW1 := Aside0.mk (below_step HW.out hb); clear hb hcl))
          go_ret
          refine ⟨?_, HW1.out⟩
          unfold cutB fourB
          rw [HBE.out]
          simp
        | true =>
          go_wp2_with (first | ((with_reducible refine gate_dst (N := 12) rfl ?_); refine Kd.event_run rfl (v := .string s1) (w1 := _) (by go_simp; rfl) ?_) | (go_at_call 19; refine (hcl _).mono ?_; rintro e w1 ⟨rfl, hb⟩; have HW1 := Aside0.mk (below_step HW.out hb); clear hb hcl))
          exact ⟨⟨2, by first | rfl | (congr 1 <;> decide), by omega, ⟨fun j hj => by
            by_cases hq : j = 1
            · subst hq; exact HBE.out
            · exact HL.out j (by omega)⟩, HW1⟩, by first | decide | (simp only [intOf]; decide)⟩
      · obtain ⟨b, hb0⟩ : ∃ b, lettersB s2 4 = b := ⟨_, rfl⟩
        have HBE := Aside0.mk hb0
        have hcl := letters_calls s2 4 HS2.out
        rw [hb0] at hcl
        clear hb0
        have hnt : (!true) = false := rfl
        have hnf : (!false) = true := rfl
        cases b with
        | false =>
          go_wp2_with (first | ((with_reducible refine gate_dst (N := 12) rfl ?_); refine Kd.event_run rfl (v := .string s2) (w1 := _) (by go_simp; rfl) ?_) | (go_at_call 19; refine (hcl _).mono ?_; rintro e w1 ⟨rfl, hb⟩; have HW1 := Aside0.mk (below_step HW.out hb); clear hb hcl))
          go_ret
          refine ⟨?_, HW1.out⟩
          unfold cutB fourB
          rw [HBE.out]
          simp
        | true =>
          go_wp2_with (first | ((with_reducible refine gate_dst (N := 12) rfl ?_); refine Kd.event_run rfl (v := .string s2) (w1 := _) (by go_simp; rfl) ?_) | (go_at_call 19; refine (hcl _).mono ?_; rintro e w1 ⟨rfl, hb⟩; have HW1 := Aside0.mk (below_step HW.out hb); clear hb hcl))
          exact ⟨⟨3, by first | rfl | (congr 1 <;> decide), by omega, ⟨fun j hj => by
            by_cases hq : j = 2
            · subst hq; exact HBE.out
            · exact HL.out j (by omega)⟩, HW1⟩, by first | decide | (simp only [intOf]; decide)⟩
      · obtain ⟨b, hb0⟩ : ∃ b, lettersB s3 4 = b := ⟨_, rfl⟩
        have HBE := Aside0.mk hb0
        have hcl := letters_calls s3 4 HS3.out
        rw [hb0] at hcl
        clear hb0
        have hnt : (!true) = false := rfl
        have hnf : (!false) = true := rfl
        cases b with
        | false =>
          go_wp2_with (first | ((with_reducible refine gate_dst (N := 12) rfl ?_); refine Kd.event_run rfl (v := .string s3) (w1 := _) (by go_simp; rfl) ?_) | (go_at_call 19; refine (hcl _).mono ?_; rintro e w1 ⟨rfl, hb⟩; have HW1 := Aside0.mk (below_step HW.out hb); clear hb hcl))
          go_ret
          refine ⟨?_, HW1.out⟩
          unfold cutB fourB
          rw [HBE.out]
          simp
        | true =>
          go_wp2_with (first | ((with_reducible refine gate_dst (N := 12) rfl ?_); refine Kd.event_run rfl (v := .string s3) (w1 := _) (by go_simp; rfl) ?_) | (go_at_call 19; refine (hcl _).mono ?_; rintro e w1 ⟨rfl, hb⟩; have HW1 := Aside0.mk (below_step HW.out hb); clear hb hcl))
          exact ⟨⟨4, by first | rfl | (congr 1 <;> decide), by omega, ⟨fun j hj => by
            by_cases hq : j = 3
            · subst hq; exact HBE.out
            · exact HL.out j (by omega)⟩, HW1⟩, by first | decide | (simp only [intOf]; decide)⟩
      · have HF : Aside0 (fourB s0 s1 s2 s3 = true) := ⟨by unfold fourB; rw [show lettersB s0 4 = true from HL.out 0 (by omega), show lettersB s1 4 = true from HL.out 1 (by omega), show lettersB s2 4 = true from HL.out 2 (by omega), show lettersB s3 4 = true from HL.out 3 (by omega)]; rfl⟩
        by_cases c1 : a0 ≥ 1
        · have c1b : decide (a0 ≥ 1) = true := decide_eq_true c1
          by_cases c2 : a0 ≤ 3
          · have c2b : decide (a0 ≤ 3) = true := decide_eq_true c2
            obtain ⟨b, hb0⟩ : ∃ b, lettersB t 200 = b := ⟨_, rfl⟩
            have HBE := Aside0.mk hb0
            have hcl := letters_calls t 200 HS4.out
            rw [hb0] at hcl
            have HR : Aside0 (cutB a0 s0 s1 s2 s3 t = b) := ⟨by unfold cutB; rw [HF.out, c1b, c2b, hb0]; rfl⟩
            clear hb0 c1 c2
            go_wp2_with (go_at_call 19; refine (hcl _).mono ?_; rintro e w1 ⟨rfl, hb⟩; have HW1 := Aside0.mk (below_step HW.out hb); clear hb hcl)
            go_ret
            exact ⟨by rw [HR.out]; rfl, HW1.out⟩
          · have c2b : decide (a0 ≤ 3) = false := decide_eq_false c2
            have HR : Aside0 (cutB a0 s0 s1 s2 s3 t = false) := ⟨by unfold cutB; rw [HF.out, c1b, c2b]; rfl⟩
            clear c1 c2
            go_wp2_with fail
            go_ret
            exact ⟨by rw [HR.out]; rfl, HW.out⟩
        · have c1b : decide (a0 ≥ 1) = false := decide_eq_false c1
          have HR : Aside0 (cutB a0 s0 s1 s2 s3 t = false) := ⟨by unfold cutB; rw [HF.out, c1b]; rfl⟩
          clear c1
          go_wp2_with fail
          go_ret
          exact ⟨by rw [HR.out]; rfl, HW.out⟩
  · cases h
end Go.Proofs.YtjmbjnobbeflfaaDoor.X
