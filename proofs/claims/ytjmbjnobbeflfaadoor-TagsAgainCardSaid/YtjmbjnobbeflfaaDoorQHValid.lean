/- The contract of a cutter's valid. -/
import Derived.Test.YtjmbjnobbeflfaaDoorQXI
import Derived.Test.YtjmbjnobbeflfaaDoorQHCutter
import Derived.Test.YtjmbjnobbeflfaaDoorQHBoxes
set_option linter.unusedVariables false
set_option linter.unusedSimpArgs false
namespace Go.Proofs.YtjmbjnobbeflfaaDoor.X
open Go.RowKit Go.Proofs.YtjmbjnobbeflfaaDoorW.PrintWords Go.Proofs.YtjmbjnobbeflfaaDoorW.PrintLast Go.Proofs.YtjmbjnobbeflfaaDoorW.PrintMore
attribute [local go_sem] Oper.semAt_some
theorem letB_in (b : UInt8) : ([97, 98, 99, 100] : List UInt8).contains b = letB b := by
  unfold letB
  rw [Bool.eq_iff_iff, List.contains_iff_mem]
  simp only [List.mem_cons, List.not_mem_nil, or_false, ← UInt8.toNat_inj, Bool.and_eq_true, decide_eq_true_eq]
  rw [show (97 : UInt8).toNat = 97 from rfl, show (98 : UInt8).toNat = 98 from rfl, show (99 : UInt8).toNat = 99 from rfl, show (100 : UInt8).toNat = 100 from rfl]
  omega
theorem dropWhile_nil {α : Type} {p : α → Bool} : ∀ {l : List α}, l.dropWhile p = [] ↔ l.all p = true
  | [] => by simp
  | x :: l => by
    rw [List.dropWhile_cons, List.all_cons]
    cases h : p x with
    | true => simpa using dropWhile_nil (l := l)
    | false => simp
theorem all_dropWhile {α : Type} {p : α → Bool} : ∀ {l : List α}, (l.dropWhile p).all p = l.all p
  | [] => rfl
  | x :: l => by
    rw [List.dropWhile_cons, List.all_cons]
    cases h : p x with
    | true => simpa using all_dropWhile (l := l)
    | false => simp [h]
theorem trim_nil (l cs : List UInt8) : Lib.trimS l cs = [] ↔ l.all (cs.contains ·) = true := by
  unfold Lib.trimS Lib.trimLeftS Lib.trimRightS
  rw [dropWhile_nil, List.all_reverse, all_dropWhile, List.all_reverse]
theorem isLetters_ok (s : ByteArray) (n : Int) (hs : s.size ≤ 9223372036854775807) : tags_isLetters.f s n = some (lettersB s n) := by
  unfold tags_isLetters.f lettersB
  by_cases h : (s.size : Int) ≤ n
  · rw [if_pos h, decide_eq_true h, Bool.and_true]
    unfold strings_Trim.f
    rw [if_pos ⟨by omega, by decide, by decide⟩, Option.bind_some]
    congr 1
    rw [ByteArray.toList_eq]
    show ((Lib.trimS s.data.toList [97, 98, 99, 100]) == []) = _
    rw [Bool.eq_iff_iff, beq_iff_eq, trim_nil]
    rw [show ((fun x => ([97, 98, 99, 100] : List UInt8).contains x) : UInt8 → Bool) = letB from funext letB_in]
  · rw [if_neg h, decide_eq_false h, Bool.and_false]
set_option maxRecDepth 100000 in
set_option maxHeartbeats 8000000 in
theorem valid1.calls (s : ByteArray) (hs : s.size ≤ 9223372036854775807) (w : World) : Calls Tryd.prog 25 #[.string s] w fun e w' => e = .returned (.bool (!lettersB s 4)) ∧ Below w.heap.size w w' := by
  have HL := Aside0.mk (isLetters_ok s 4 hs)
  generalize lettersB s 4 = b at HL
  go_enter Tryd.func25, Tryd.ntmps25
  go_wp2_with (go_at_call 23; refine (tags_isLetters.calls s 4 b _ HL.out).mono ?_; rintro e w1 ⟨rfl, hb⟩; have HW1 := Aside0.mk hb; clear hb)
  go_ret
  exact ⟨rfl, HW1.out⟩
def idx4 (s0 s1 s2 s3 : ByteArray) : Int := if lettersB s0 4 = false then 0 else if lettersB s1 4 = false then 1 else if lettersB s2 4 = false then 2 else if lettersB s3 4 = false then 3 else -1
set_option maxRecDepth 100000 in
set_option maxHeartbeats 8000000 in
theorem index4.calls (s0 s1 s2 s3 : ByteArray) (h0 : s0.size ≤ 9223372036854775807) (h1 : s1.size ≤ 9223372036854775807) (h2 : s2.size ≤ 9223372036854775807) (h3 : s3.size ≤ 9223372036854775807) (g : Nat) (w : World)
    (e0 : w.cell? ⟨g, 1, none⟩ = some (.string s0)) (e1 : w.cell? ⟨g, 2, none⟩ = some (.string s1)) (e2 : w.cell? ⟨g, 3, none⟩ = some (.string s2)) (e3 : w.cell? ⟨g, 4, none⟩ = some (.string s3)) :
    Calls Tryd.prog 30 #[.slice (some ⟨g, 1, none⟩) 4 4, .func (.func 25) #[] #[]] w fun e w' => e = .returned (.int .i64 (idx4 s0 s1 s2 s3)) ∧ Below w.heap.size w w' := by
  have HS0 := Aside0.mk h0
  have HS1 := Aside0.mk h1
  have HS2 := Aside0.mk h2
  have HS3 := Aside0.mk h3
  have E0 := Aside0.mk e0
  have E1 := Aside0.mk e1
  have E2 := Aside0.mk e2
  have E3 := Aside0.mk e3
  clear h0 h1 h2 h3 e0 e1 e2 e3
  have HB := Aside0.mk (Below.refl w.heap.size w)
  go_enter Tryd.func30, Tryd.ntmps30
  go_wp2_with fail
  go_loopw [8] (fun v8 W => ∃ i : Nat, v8 = .int .i64 (i : Int) ∧ i ≤ 4 ∧ Aside0 (∀ j, j < i → lettersB (nth4 s0 s1 s2 s3 j) 4 = true) ∧ Aside0 (Below w.heap.size w W)) (fun v8 _ => 4 - (intOf v8).toNat)
  case atStart => exact ⟨0, rfl, by omega, ⟨fun j h => by omega⟩, HB⟩
  case round =>
    obtain ⟨i, rfl, hi, HL, HW⟩ := hrel
    have hcase : i = 0 ∨ i = 1 ∨ i = 2 ∨ i = 3 ∨ i = 4 := by omega
    rcases hcase with rfl | rfl | rfl | rfl | rfl
    · obtain ⟨b, hb0⟩ : ∃ b, lettersB s0 4 = b := ⟨_, rfl⟩
      have HBE := Aside0.mk hb0
      have hcl := valid1.calls s0 HS0.out
      rw [hb0] at hcl
      clear hb0
      have hnt : (!true) = false := rfl
      have hnf : (!false) = true := rfl
      have ec := (HW.out.cell (World.block_lt_of_cell? w _ E0.out)).trans E0.out
      cases b with
      | false =>
        go_wp2_with fail
        refine (hcl _).mono ?_
        rintro e w1 ⟨rfl, hb⟩
        have HW1 := Aside0.mk (below_step HW.out hb)
        clear hb hcl
        go_wp2_with fail
        go_ret
        refine ⟨?_, HW1.out⟩
        unfold idx4
        rw [if_pos HBE.out]
        first | rfl | skip
      | true =>
        go_wp2_with fail
        refine (hcl _).mono ?_
        rintro e w1 ⟨rfl, hb⟩
        have HW1 := Aside0.mk (below_step HW.out hb)
        clear hb hcl
        go_wp2_with fail
        exact ⟨⟨1, by first | rfl | (congr 1 <;> decide), by omega, ⟨fun j hj => by
          by_cases hq : j = 0
          · subst hq; exact HBE.out
          · exact HL.out j (by omega)⟩, HW1⟩, by first | decide | (simp only [intOf]; decide)⟩
    · obtain ⟨b, hb0⟩ : ∃ b, lettersB s1 4 = b := ⟨_, rfl⟩
      have HBE := Aside0.mk hb0
      have hcl := valid1.calls s1 HS1.out
      rw [hb0] at hcl
      clear hb0
      have hnt : (!true) = false := rfl
      have hnf : (!false) = true := rfl
      have ec := (HW.out.cell (World.block_lt_of_cell? w _ E1.out)).trans E1.out
      cases b with
      | false =>
        go_wp2_with fail
        refine (hcl _).mono ?_
        rintro e w1 ⟨rfl, hb⟩
        have HW1 := Aside0.mk (below_step HW.out hb)
        clear hb hcl
        go_wp2_with fail
        go_ret
        refine ⟨?_, HW1.out⟩
        unfold idx4
        rw [if_neg (show ¬ lettersB s0 4 = false by rw [show lettersB s0 4 = true from HL.out 0 (by omega)]; decide), if_pos HBE.out]
        first | rfl | skip
      | true =>
        go_wp2_with fail
        refine (hcl _).mono ?_
        rintro e w1 ⟨rfl, hb⟩
        have HW1 := Aside0.mk (below_step HW.out hb)
        clear hb hcl
        go_wp2_with fail
        exact ⟨⟨2, by first | rfl | (congr 1 <;> decide), by omega, ⟨fun j hj => by
          by_cases hq : j = 1
          · subst hq; exact HBE.out
          · exact HL.out j (by omega)⟩, HW1⟩, by first | decide | (simp only [intOf]; decide)⟩
    · obtain ⟨b, hb0⟩ : ∃ b, lettersB s2 4 = b := ⟨_, rfl⟩
      have HBE := Aside0.mk hb0
      have hcl := valid1.calls s2 HS2.out
      rw [hb0] at hcl
      clear hb0
      have hnt : (!true) = false := rfl
      have hnf : (!false) = true := rfl
      have ec := (HW.out.cell (World.block_lt_of_cell? w _ E2.out)).trans E2.out
      cases b with
      | false =>
        go_wp2_with fail
        refine (hcl _).mono ?_
        rintro e w1 ⟨rfl, hb⟩
        have HW1 := Aside0.mk (below_step HW.out hb)
        clear hb hcl
        go_wp2_with fail
        go_ret
        refine ⟨?_, HW1.out⟩
        unfold idx4
        rw [if_neg (show ¬ lettersB s0 4 = false by rw [show lettersB s0 4 = true from HL.out 0 (by omega)]; decide), if_neg (show ¬ lettersB s1 4 = false by rw [show lettersB s1 4 = true from HL.out 1 (by omega)]; decide), if_pos HBE.out]
        first | rfl | skip
      | true =>
        go_wp2_with fail
        refine (hcl _).mono ?_
        rintro e w1 ⟨rfl, hb⟩
        have HW1 := Aside0.mk (below_step HW.out hb)
        clear hb hcl
        go_wp2_with fail
        exact ⟨⟨3, by first | rfl | (congr 1 <;> decide), by omega, ⟨fun j hj => by
          by_cases hq : j = 2
          · subst hq; exact HBE.out
          · exact HL.out j (by omega)⟩, HW1⟩, by first | decide | (simp only [intOf]; decide)⟩
    · obtain ⟨b, hb0⟩ : ∃ b, lettersB s3 4 = b := ⟨_, rfl⟩
      have HBE := Aside0.mk hb0
      have hcl := valid1.calls s3 HS3.out
      rw [hb0] at hcl
      clear hb0
      have hnt : (!true) = false := rfl
      have hnf : (!false) = true := rfl
      have ec := (HW.out.cell (World.block_lt_of_cell? w _ E3.out)).trans E3.out
      cases b with
      | false =>
        go_wp2_with fail
        refine (hcl _).mono ?_
        rintro e w1 ⟨rfl, hb⟩
        have HW1 := Aside0.mk (below_step HW.out hb)
        clear hb hcl
        go_wp2_with fail
        go_ret
        refine ⟨?_, HW1.out⟩
        unfold idx4
        rw [if_neg (show ¬ lettersB s0 4 = false by rw [show lettersB s0 4 = true from HL.out 0 (by omega)]; decide), if_neg (show ¬ lettersB s1 4 = false by rw [show lettersB s1 4 = true from HL.out 1 (by omega)]; decide), if_neg (show ¬ lettersB s2 4 = false by rw [show lettersB s2 4 = true from HL.out 2 (by omega)]; decide), if_pos HBE.out]
        first | rfl | skip
      | true =>
        go_wp2_with fail
        refine (hcl _).mono ?_
        rintro e w1 ⟨rfl, hb⟩
        have HW1 := Aside0.mk (below_step HW.out hb)
        clear hb hcl
        go_wp2_with fail
        exact ⟨⟨4, by first | rfl | (congr 1 <;> decide), by omega, ⟨fun j hj => by
          by_cases hq : j = 3
          · subst hq; exact HBE.out
          · exact HL.out j (by omega)⟩, HW1⟩, by first | decide | (simp only [intOf]; decide)⟩
    · go_wp2_with fail
      go_ret
      refine ⟨?_, HW.out⟩
      unfold idx4
      rw [if_neg (show ¬ lettersB s0 4 = false by rw [show lettersB s0 4 = true from HL.out 0 (by omega)]; decide), if_neg (show ¬ lettersB s1 4 = false by rw [show lettersB s1 4 = true from HL.out 1 (by omega)]; decide), if_neg (show ¬ lettersB s2 4 = false by rw [show lettersB s2 4 = true from HL.out 2 (by omega)]; decide), if_neg (show ¬ lettersB s3 4 = false by rw [show lettersB s3 4 = true from HL.out 3 (by omega)]; decide)]
      first | rfl | skip
theorem idx4_ge (s0 s1 s2 s3 : ByteArray) : decide (idx4 s0 s1 s2 s3 ≥ 0) = !fourB s0 s1 s2 s3 := by
  unfold idx4 fourB
  cases lettersB s0 4 <;> cases lettersB s1 4 <;> cases lettersB s2 4 <;> cases lettersB s3 4 <;> rfl
set_option maxRecDepth 100000 in
set_option maxHeartbeats 8000000 in
theorem contains4.calls (s0 s1 s2 s3 : ByteArray) (h0 : s0.size ≤ 9223372036854775807) (h1 : s1.size ≤ 9223372036854775807) (h2 : s2.size ≤ 9223372036854775807) (h3 : s3.size ≤ 9223372036854775807) (g : Nat) (w : World)
    (e0 : w.cell? ⟨g, 1, none⟩ = some (.string s0)) (e1 : w.cell? ⟨g, 2, none⟩ = some (.string s1)) (e2 : w.cell? ⟨g, 3, none⟩ = some (.string s2)) (e3 : w.cell? ⟨g, 4, none⟩ = some (.string s3)) :
    Calls Tryd.prog 24 #[.slice (some ⟨g, 1, none⟩) 4 4, .func (.func 25) #[] #[]] w fun e w' => e = .returned (.bool (!fourB s0 s1 s2 s3)) ∧ Below w.heap.size w w' := by
  have hx := index4.calls s0 s1 s2 s3 h0 h1 h2 h3 g w e0 e1 e2 e3
  have HI := Aside0.mk (idx4_ge s0 s1 s2 s3)
  generalize idx4 s0 s1 s2 s3 = y at hx HI
  clear h0 h1 h2 h3 e0 e1 e2 e3
  go_enter Tryd.func24, Tryd.ntmps24
  go_wp2_with fail
  refine hx.mono ?_
  rintro e w1 ⟨rfl, hb⟩
  have HB := Aside0.mk hb
  clear hb hx
  go_wp2_with fail
  go_ret
  exact ⟨by rw [← HI.out]; rfl, HB.out⟩
def tags_cutter_valid.f (c : Int) (s0 s1 s2 s3 t : ByteArray) : Option Bool := if s0.size ≤ lim ∧ s1.size ≤ lim ∧ s2.size ≤ lim ∧ s3.size ≤ lim ∧ t.size ≤ lim then some (cutB c s0 s1 s2 s3 t) else none
set_option maxRecDepth 100000 in
set_option maxHeartbeats 8000000 in
theorem tags_cutter_valid.calls (c : Int) (s0 s1 s2 s3 t : ByteArray) (r : Bool) (w : World) (h : tags_cutter_valid.f c s0 s1 s2 s3 t = some r) :
    Calls Tryd.prog 16 #[.agg #[.int .i64 c, .string s0, .string s1, .string s2, .string s3], .string t] w fun e w' => e = .returned (.bool r) ∧ Below w.heap.size w w' := by
  have hu37 := Tryd.underlying37
  have hu22 := Tryd.underlying22
  unfold tags_cutter_valid.f at h
  split at h
  · rename_i hc
    obtain rfl := Option.some.inj h
    clear h
    unfold lim at hc
    obtain ⟨z0, z1, z2, z3, z4⟩ := hc
    have HS0 := Aside0.mk z0
    have HS1 := Aside0.mk z1
    have HS2 := Aside0.mk z2
    have HS3 := Aside0.mk z3
    have HL := Aside0.mk (isLetters_ok t 200 z4)
    have B1 := Aside0.mk (Box.new (Below.refl w.heap.size w) #[.int .i64 c, .string s0, .string s1, .string s2, .string s3] 37)
    have HB := Aside0.mk (below_alloc (Below.refl w.heap.size w) (.cells #[.int .i64 c, .string s0, .string s1, .string s2, .string s3] 37))
    obtain ⟨b, hbe⟩ : ∃ b, lettersB t 200 = b := ⟨_, rfl⟩
    have HBE := Aside0.mk hbe
    rw [hbe] at HL
    obtain ⟨f, hfe⟩ : ∃ f, fourB s0 s1 s2 s3 = f := ⟨_, rfl⟩
    have HFE := Aside0.mk hfe
    clear z0 z1 z2 z3 z4 hbe hfe
    by_cases c1 : c ≥ 1
    · have c1b : decide (c ≥ 1) = true := decide_eq_true c1
      by_cases c2 : c ≤ 3
      · have c2b : decide (c ≤ 3) = true := decide_eq_true c2
        have HR : Aside0 (cutB c s0 s1 s2 s3 t = (f && b)) := ⟨by unfold cutB; rw [c1b, c2b, HBE.out, HFE.out]; simp⟩
        clear c1 c2
        cases b with
        | true =>
          go_enter Tryd.func16, Tryd.ntmps16
          go_wp2_with (go_at_call 23; refine (tags_isLetters.calls t 200 true _ HL.out).mono ?_; rintro e w1 ⟨rfl, hb⟩; have HW1 := Aside0.mk (below_step HB.out hb); have B2 := Aside0.mk (B1.out.below hb); clear hb)
          refine (contains4.calls s0 s1 s2 s3 HS0.out HS1.out HS2.out HS3.out w.heap.size w1 (B2.out.cell 1 rfl) (B2.out.cell 2 rfl) (B2.out.cell 3 rfl) (B2.out.cell 4 rfl)).mono ?_
          rintro e w2 ⟨rfl, hb⟩
          have HW2 := Aside0.mk (below_step HW1.out hb)
          clear hb
          rw [HFE.out]
          go_wp2_with fail
          go_ret
          exact ⟨by rw [HR.out]; cases f <;> rfl, HW2.out⟩
        | false =>
          go_enter Tryd.func16, Tryd.ntmps16
          go_wp2_with (go_at_call 23; refine (tags_isLetters.calls t 200 false _ HL.out).mono ?_; rintro e w1 ⟨rfl, hb⟩; have HW1 := Aside0.mk (below_step HB.out hb); clear hb)
          go_ret
          exact ⟨by rw [HR.out]; cases f <;> rfl, HW1.out⟩
      · have c2b : decide (c ≤ 3) = false := decide_eq_false c2
        have HR : Aside0 (cutB c s0 s1 s2 s3 t = false) := ⟨by unfold cutB; rw [c1b, c2b]; simp⟩
        clear c1 c2
        go_enter Tryd.func16, Tryd.ntmps16
        go_wp2_with fail
        go_ret
        exact ⟨by rw [HR.out]; rfl, HB.out⟩
    · have c1b : decide (c ≥ 1) = false := decide_eq_false c1
      have HR : Aside0 (cutB c s0 s1 s2 s3 t = false) := ⟨by unfold cutB; rw [c1b]; simp⟩
      clear c1
      go_enter Tryd.func16, Tryd.ntmps16
      go_wp2_with fail
      go_ret
      exact ⟨by rw [HR.out]; rfl, HB.out⟩
  · cases h
end Go.Proofs.YtjmbjnobbeflfaaDoor.X
