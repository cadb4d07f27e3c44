/- The plain law of TagsParts: some steps and then others are all of them at once. No conditions but the sizes that the arguments have. -/
import Derived.Test.YtjmbjnobbeflfaaDoorQPureTagsCuts
import Derived.Test.YtjmbjnobbeflfaaDoorQXcomfitlaw06TagsParts
set_option linter.unusedVariables false
set_option linter.unusedSimpArgs false
namespace Go.Proofs.YtjmbjnobbeflfaaDoor.Pure
open Go.RowKit Go.Proofs.YtjmbjnobbeflfaaDoor.X Go.Proofs.YtjmbjnobbeflfaaDoorW.PrintWords Go.Proofs.YtjmbjnobbeflfaaDoorW.PrintLast Go.Proofs.YtjmbjnobbeflfaaDoorW.PrintMore
/-- What a run is. -/
theorem tapes_is {c : Int} {s0 s1 s2 s3 : ByteArray} (h : Cuts c s0 s1 s2 s3) : ∀ (d : Nat) (k : Int) (t : ByteArray), lettersB t 200 = true →
    ∃ e last done, tapesR c s0 s1 s2 s3 d k t = some (e, last, done) ∧ lettersB last 200 = true ∧ k ≤ done ∧ done ≤ k + d ∧
      (e = 0 ∧ done = k + d ∨ e = 4 ∧ done < k + d ∧ (last.size : Int) < c ∨ e = 6 ∧ done < k + d) ∧ ((t.size : Int) < c → last = t) ∧
      (∀ d2 : Nat, tapesR c s0 s1 s2 s3 (d + d2) k t = if e = 0 then tapesR c s0 s1 s2 s3 d2 (k + d) last else some (e, last, done)) := by
  intro d
  induction d with
  | zero =>
    intro k t ht
    refine ⟨0, t, k, rfl, ht, by omega, by omega, .inl ⟨rfl, by omega⟩, fun _ => rfl, fun d2 => ?_⟩
    rw [if_pos rfl, Nat.zero_add]
    simp
  | succ d ih =>
    intro k t ht
    have hs := step_ok h ht
    have hgo : ∀ d2 : Nat, tapesR c s0 s1 s2 s3 (d2 + 1) k t = (tags_cutter_step.f c s0 s1 s2 s3 t).bind fun q => if q.2 = 0 then tapesR c s0 s1 s2 s3 d2 (k + 1) q.1 else some (q.2, t, k) := fun d2 => by rw [tapesR]
    rw [hs] at hgo
    by_cases h1 : (t.size : Int) < c
    · rw [if_pos h1] at hgo
      have hgo2 : ∀ d2 : Nat, tapesR c s0 s1 s2 s3 (d2 + 1) k t = some (4, t, k) := fun d2 => by rw [hgo, Option.bind_some, if_neg (show ¬ (4 : Int) = 0 by decide)]
      refine ⟨4, t, k, hgo2 d, ht, by omega, by omega, .inr (.inl ⟨rfl, by omega, h1⟩), fun _ => rfl, fun d2 => ?_⟩
      rw [if_neg (by decide), show d + 1 + d2 = (d + d2) + 1 by omega, hgo2]
    · rw [if_neg h1] at hgo
      by_cases h2 : ((nextT c s0 s1 s2 s3 t).size : Int) > 200
      · rw [if_pos h2] at hgo
        have hgo2 : ∀ d2 : Nat, tapesR c s0 s1 s2 s3 (d2 + 1) k t = some (6, t, k) := fun d2 => by rw [hgo, Option.bind_some, if_neg (show ¬ (6 : Int) = 0 by decide)]
        refine ⟨6, t, k, hgo2 d, ht, by omega, by omega, .inr (.inr ⟨rfl, by omega⟩), fun _ => rfl, fun d2 => ?_⟩
        rw [if_neg (by decide), show d + 1 + d2 = (d + d2) + 1 by omega, hgo2]
      · rw [if_neg h2] at hgo
        have hgo2 : ∀ d2 : Nat, tapesR c s0 s1 s2 s3 (d2 + 1) k t = tapesR c s0 s1 s2 s3 d2 (k + 1) (nextT c s0 s1 s2 s3 t) := fun d2 => by rw [hgo, Option.bind_some, if_pos rfl]
        obtain ⟨e, last, done, g1, g2, g3, g4, g5, g6, g7⟩ := ih (k + 1) (nextT c s0 s1 s2 s3 t) (next_let h ht h2)
        refine ⟨e, last, done, by rw [hgo2]; exact g1, g2, by omega, by omega, ?_, fun hh => absurd hh h1, fun d2 => ?_⟩
        · rcases g5 with ⟨a, b⟩ | ⟨a, b, b2⟩ | ⟨a, b⟩
          · exact .inl ⟨a, by omega⟩
          · exact .inr (.inl ⟨a, by omega, b2⟩)
          · exact .inr (.inr ⟨a, by omega⟩)
        · rw [show d + 1 + d2 = (d + d2) + 1 by omega, hgo2, g7 d2, show k + 1 + (d : Int) = k + ((d + 1 : Nat) : Int) by omega]
theorem tapes_shift {c : Int} {s0 s1 s2 s3 : ByteArray} : ∀ (d : Nat) (k j : Int) (t : ByteArray), tapesR c s0 s1 s2 s3 d (k + j) t = (tapesR c s0 s1 s2 s3 d k t).map (fun r => (r.1, r.2.1, r.2.2 + j)) := by
  intro d
  induction d with
  | zero => intro k j t; rfl
  | succ d ih =>
    intro k j t
    rw [tapesR, tapesR]
    cases tags_cutter_step.f c s0 s1 s2 s3 t with
    | none => rfl
    | some q =>
      rw [Option.bind_some, Option.bind_some]
      split
      · rw [← ih, show k + j + 1 = k + 1 + j by omega]
      · rfl
def runOf (r : Int × ByteArray × Int) : ByteArray × Int × Int := if r.1 = 6 then (noT, 0, 6) else (r.2.1, r.2.2, 0)
theorem Run_is {c : Int} {s0 s1 s2 s3 t : ByteArray} (hb : cutB c s0 s1 s2 s3 t = true) (h0 : s0.size ≤ lim) (h1 : s1.size ≤ lim) (h2 : s2.size ≤ lim) (h3 : s3.size ≤ lim) {n : Int} (hn : 0 ≤ n ∧ n ≤ 1000) {r : Int × ByteArray × Int} (hr : tapesR c s0 s1 s2 s3 n.toNat 0 t = some r) :
    tags_Run.f c s0 s1 s2 s3 t n = some (runOf r) := by
  have hts := letB_size (Cuts.of hb).2
  unfold tags_Run.f tags_cutter_valid.f
  rw [if_pos ⟨h0, h1, h2, h3, by unfold lim; omega⟩, hb, Option.bind_some, if_pos rfl, if_neg (by omega), if_neg (by omega), hr, Option.bind_some]
  unfold runOf
  split <;> rfl
theorem cutB_of {c : Int} {s0 s1 s2 s3 t : ByteArray} (h : Cuts c s0 s1 s2 s3) (ht : lettersB t 200 = true) : cutB c s0 s1 s2 s3 t = true := by
  unfold cutB
  rw [h.four, ht, decide_eq_true h.c1, decide_eq_true h.c3]; rfl
theorem Parts_j0 {c : Int} {s0 s1 s2 s3 t : ByteArray} (hb : cutB c s0 s1 s2 s3 t = true) (h0 : s0.size ≤ lim) (hh1 : s1.size ≤ lim) (hh2 : s2.size ≤ lim) (h3 : s3.size ≤ lim) (x : ByteArray) (hx : (t.size : Int) < c → x = t) :
    Ev (fun k => comfitlaw06_TagsParts.j0 k c t x false s0 s1 s2 s3) true := by
  obtain ⟨hc, hl⟩ := Cuts.of hb
  have hts := letB_size hl
  have hs := step_ok hc hl
  have hcut : tags_Cut.f c s0 s1 s2 s3 t = some (if (t.size : Int) < c then (noT, 4) else if ((nextT c s0 s1 s2 s3 t).size : Int) > 200 then (noT, 6) else (nextT c s0 s1 s2 s3 t, 0)) := by
    unfold tags_Cut.f tags_cutter_valid.f
    rw [if_pos ⟨h0, hh1, hh2, h3, by unfold lim; omega⟩, hb, Option.bind_some, if_pos rfl, hs, Option.bind_some]
    split
    · rfl
    · split
      · rfl
      · rfl
  by_cases h1 : (t.size : Int) < c
  · rw [if_pos h1] at hcut
    exact Ev.succ (g := fun k => _) awake_bind (fun k => by rw [comfitlaw06_TagsParts.j0, if_neg (by decide), hcut, Option.bind_some, if_pos h1, if_pos rfl, if_pos (by rw [hx h1])])
  · have c1 := hc.c1
    have c3 := hc.c3
    obtain ⟨b1, b2⟩ := bt_let (letB_all hl) (by omega)
    have hsz : (nextT c s0 s1 s2 s3 t).size = t.size - c.toNat + (strT s0 s1 s2 s3 (bt t 0)).size := by
      unfold nextT
      rw [ByteArray.size_append, ByteArray.size_extract, Nat.min_self]
    have hss := letB_size (hc.str (bt t 0))
    have hw : ∀ s : ByteArray, (s.size : Int) ≤ 4 → wrap64 (wrap64 ((t.size : Int) - c) + (s.size : Int)) = ((t.size - c.toNat + s.size : Nat) : Int) := by
      intro s hs
      have e1 : wrap64 ((t.size : Int) - c) = ((t.size - c.toNat : Nat) : Int) := by unfold wrap64; omega
      rw [e1]
      unfold wrap64
      omega
    have hbb : bt t 0 = 97 ∨ bt t 0 = 98 ∨ bt t 0 = 99 ∨ bt t 0 = 100 := by omega
    rcases hbb with e | e | e | e
    · have hst : strT s0 s1 s2 s3 (bt t 0) = s0 := by unfold strT; rw [e, if_pos (show (97 : Int) = 97 from rfl)]
      rw [hst] at hsz hss
      by_cases h2 : ((nextT c s0 s1 s2 s3 t).size : Int) > 200
      · rw [if_neg h1, if_pos h2] at hcut
        exact Ev.succ (g := fun k => _) awake_bind (fun k => by
          rw [comfitlaw06_TagsParts.j0, if_neg (by decide), hcut, Option.bind_some, if_neg h1, if_pos (by omega), e, if_pos (show ((97 : Int) - 97) % 256 = 0 by decide), if_neg (show ¬ (6 : Int) = 0 by decide), if_pos rfl, hw s0 hss, if_pos (by omega)])
      · rw [if_neg h1, if_neg h2] at hcut
        exact Ev.succ (g := fun k => _) awake_bind (fun k => by
          rw [comfitlaw06_TagsParts.j0, if_neg (by decide), hcut, Option.bind_some, if_neg h1, if_pos (by omega), e, if_pos (show ((97 : Int) - 97) % 256 = 0 by decide), if_pos rfl, hw s0 hss, if_pos (by dsimp only; omega)])
    · have hst : strT s0 s1 s2 s3 (bt t 0) = s1 := by unfold strT; rw [e, if_neg (show ¬ (98 : Int) = 97 by decide), if_pos (show (98 : Int) = 98 from rfl)]
      rw [hst] at hsz hss
      by_cases h2 : ((nextT c s0 s1 s2 s3 t).size : Int) > 200
      · rw [if_neg h1, if_pos h2] at hcut
        exact Ev.succ (g := fun k => _) awake_bind (fun k => by
          rw [comfitlaw06_TagsParts.j0, if_neg (by decide), hcut, Option.bind_some, if_neg h1, if_pos (by omega), e, if_neg (show ¬ ((98 : Int) - 97) % 256 = 0 by decide), if_pos (show ((98 : Int) - 97) % 256 = 1 by decide), if_neg (show ¬ (6 : Int) = 0 by decide), if_pos rfl, hw s1 hss, if_pos (by omega)])
      · rw [if_neg h1, if_neg h2] at hcut
        exact Ev.succ (g := fun k => _) awake_bind (fun k => by
          rw [comfitlaw06_TagsParts.j0, if_neg (by decide), hcut, Option.bind_some, if_neg h1, if_pos (by omega), e, if_neg (show ¬ ((98 : Int) - 97) % 256 = 0 by decide), if_pos (show ((98 : Int) - 97) % 256 = 1 by decide), if_pos rfl, hw s1 hss, if_pos (by dsimp only; omega)])
    · have hst : strT s0 s1 s2 s3 (bt t 0) = s2 := by unfold strT; rw [e, if_neg (show ¬ (99 : Int) = 97 by decide), if_neg (show ¬ (99 : Int) = 98 by decide), if_pos (show (99 : Int) = 99 from rfl)]
      rw [hst] at hsz hss
      by_cases h2 : ((nextT c s0 s1 s2 s3 t).size : Int) > 200
      · rw [if_neg h1, if_pos h2] at hcut
        exact Ev.succ (g := fun k => _) awake_bind (fun k => by
          rw [comfitlaw06_TagsParts.j0, if_neg (by decide), hcut, Option.bind_some, if_neg h1, if_pos (by omega), e, if_neg (show ¬ ((99 : Int) - 97) % 256 = 0 by decide), if_neg (show ¬ ((99 : Int) - 97) % 256 = 1 by decide), if_pos (show ((99 : Int) - 97) % 256 = 2 by decide), if_neg (show ¬ (6 : Int) = 0 by decide), if_pos rfl, hw s2 hss, if_pos (by omega)])
      · rw [if_neg h1, if_neg h2] at hcut
        exact Ev.succ (g := fun k => _) awake_bind (fun k => by
          rw [comfitlaw06_TagsParts.j0, if_neg (by decide), hcut, Option.bind_some, if_neg h1, if_pos (by omega), e, if_neg (show ¬ ((99 : Int) - 97) % 256 = 0 by decide), if_neg (show ¬ ((99 : Int) - 97) % 256 = 1 by decide), if_pos (show ((99 : Int) - 97) % 256 = 2 by decide), if_pos rfl, hw s2 hss, if_pos (by dsimp only; omega)])
    · have hst : strT s0 s1 s2 s3 (bt t 0) = s3 := by unfold strT; rw [e, if_neg (show ¬ (100 : Int) = 97 by decide), if_neg (show ¬ (100 : Int) = 98 by decide), if_neg (show ¬ (100 : Int) = 99 by decide)]
      rw [hst] at hsz hss
      by_cases h2 : ((nextT c s0 s1 s2 s3 t).size : Int) > 200
      · rw [if_neg h1, if_pos h2] at hcut
        exact Ev.succ (g := fun k => _) awake_bind (fun k => by
          rw [comfitlaw06_TagsParts.j0, if_neg (by decide), hcut, Option.bind_some, if_neg h1, if_pos (by omega), e, if_neg (show ¬ ((100 : Int) - 97) % 256 = 0 by decide), if_neg (show ¬ ((100 : Int) - 97) % 256 = 1 by decide), if_neg (show ¬ ((100 : Int) - 97) % 256 = 2 by decide), if_pos (show ((100 : Int) - 97) % 256 = 3 by decide), if_neg (show ¬ (6 : Int) = 0 by decide), if_pos rfl, hw s3 hss, if_pos (by omega)])
      · rw [if_neg h1, if_neg h2] at hcut
        exact Ev.succ (g := fun k => _) awake_bind (fun k => by
          rw [comfitlaw06_TagsParts.j0, if_neg (by decide), hcut, Option.bind_some, if_neg h1, if_pos (by omega), e, if_neg (show ¬ ((100 : Int) - 97) % 256 = 0 by decide), if_neg (show ¬ ((100 : Int) - 97) % 256 = 1 by decide), if_neg (show ¬ ((100 : Int) - 97) % 256 = 2 by decide), if_pos (show ((100 : Int) - 97) % 256 = 3 by decide), if_pos rfl, hw s3 hss, if_pos (by dsimp only; omega)])
theorem five_hundred (a : Int) : ∃ A : Nat, wrap64 (Int.tmod (IntKind.u64.wrap a) 500) = (A : Int) ∧ A < 500 := by
  have h0 : 0 ≤ IntKind.u64.wrap a := by
    unfold IntKind.wrap
    simp [IntKind.signed, IntKind.bits]
    omega
  refine ⟨(Int.tmod (IntKind.u64.wrap a) 500).toNat, ?_, ?_⟩
  · have := Int.tmod_nonneg 500 h0
    have := Int.tmod_lt_of_pos (IntKind.u64.wrap a) (show (0 : Int) < 500 by decide)
    unfold wrap64
    omega
  · have := Int.tmod_nonneg 500 h0
    have := Int.tmod_lt_of_pos (IntKind.u64.wrap a) (show (0 : Int) < 500 by decide)
    omega
set_option maxHeartbeats 1000000 in
theorem TagsParts_ev (c : Int) (s0 s1 s2 s3 t : ByteArray) (a b : Int) (h0 : s0.size ≤ lim) (h1 : s1.size ≤ lim) (h2 : s2.size ≤ lim) (h3 : s3.size ≤ lim) (ht : t.size ≤ lim) : Ev (fun k => comfitlaw06_TagsParts.f k c s0 s1 s2 s3 t a b) true := by
  have hC : comfitref06_Cutter.f c s0 s1 s2 s3 t = some (cutB c s0 s1 s2 s3 t) := by unfold comfitref06_Cutter.f; rw [if_pos ⟨h0, h1, h2, h3, ht⟩]
  obtain ⟨A, hA, hA5⟩ := five_hundred a
  obtain ⟨B, hB, hB5⟩ := five_hundred b
  have hAB : wrap64 ((A : Int) + (B : Int)) = ((A + B : Nat) : Int) := by unfold wrap64; omega
  by_cases hb : cutB c s0 s1 s2 s3 t = true
  · rw [hb] at hC
    unfold comfitlaw06_TagsParts.f
    rw [hC, hA, hB, hAB]
    refine Ev.bind (g := fun _ => some _) (Ev.const rfl) ?_
    refine Ev.ifPos rfl ?_
    clear hA hB hAB hC ht
    obtain ⟨hc, hl⟩ := Cuts.of hb
    obtain ⟨e, x, n, g1, g2, g3, g4, g5, g6, g7⟩ := tapes_is hc A 0 t hl
    have R1 := Run_is hb h0 h1 h2 h3 (n := (A : Int)) (by omega) (r := (e, x, n)) (by rw [Int.toNat_natCast]; exact g1)
    have hbx := cutB_of hc g2
    obtain ⟨f, y, m, k1, k2, k3, k4, k5, k6, k7⟩ := tapes_is hc B 0 x g2
    have R2 := Run_is hbx h0 h1 h2 h3 (n := (B : Int)) (by omega) (r := (f, y, m)) (by rw [Int.toNat_natCast]; exact k1)
    have hj := Parts_j0 hb h0 h1 h2 h3 x g6
    rw [R1]
    rcases g5 with ⟨rfl, hn⟩ | ⟨rfl, hn, hxc⟩ | ⟨rfl, hn⟩
    · have R3 := Run_is hb h0 h1 h2 h3 (n := ((A + B : Nat) : Int)) (by omega) (r := (f, y, m + (A : Int))) (by
        rw [Int.toNat_natCast, g7 B, if_pos rfl, tapes_shift B 0 (A : Int) x, k1]; rfl)
      rw [R3]
      have hnA : n = (A : Int) := by omega
      rw [show runOf (0, x, n) = (x, (A : Int), 0) by rw [hnA]; rfl]
      refine Ev.bind (g := fun _ => some _) (Ev.const rfl) ?_
      refine Ev.bind (g := fun _ => some _) (Ev.const rfl) ?_
      refine Ev.ifPos (by first | rfl | trivial) ?_
      rw [R2]
      refine Ev.bind (g := fun _ => some _) (Ev.const rfl) ?_
      by_cases hf : f = 6
      · rw [show runOf (f, y, m) = (noT, 0, 6) by unfold runOf; rw [if_pos hf], show runOf (f, y, m + (A : Int)) = (noT, 0, 6) by unfold runOf; rw [if_pos hf]]
        refine Ev.ifPos (by first | rfl | trivial) (Ev.ifPos (by first | rfl | trivial) (Ev.ifNeg (by decide) (Ev.ifNeg (by dsimp only; omega) hj)))
      · rw [show runOf (f, y, m) = (y, m, 0) by unfold runOf; rw [if_neg hf], show runOf (f, y, m + (A : Int)) = (y, m + (A : Int), 0) by unfold runOf; rw [if_neg hf]]
        refine Ev.ifPos (by first | rfl | trivial) (Ev.ifPos (by first | rfl | trivial) (Ev.ifPos (by first | rfl | trivial) (Ev.ifPos (by first | rfl | trivial) (Ev.ifPos ?_ (Ev.ifNeg (by dsimp only; omega) hj)))))
        dsimp only
        unfold wrap64
        omega
    · have R3 := Run_is hb h0 h1 h2 h3 (n := ((A + B : Nat) : Int)) (by omega) (r := (4, x, n)) (by
        rw [Int.toNat_natCast, g7 B, if_neg (by decide)])
      have hyx := k6 hxc
      subst hyx
      have hm0 : m = 0 ∧ f ≠ 6 := by
        cases B with
        | zero => rw [tapesR] at k1; injection k1 with k1; injection k1 with e1 e2; injection e2 with e2 e3; exact ⟨e3.symm, by rw [← e1]; first | (show (4 : Int) ≠ 6; decide) | (show (0 : Int) ≠ 6; decide)⟩
        | succ B =>
          rw [tapesR, step_ok hc g2, if_pos hxc, Option.bind_some, if_neg (show ¬ (4 : Int) = 0 by decide)] at k1
          injection k1 with k1; injection k1 with e1 e2; injection e2 with e2 e3
          exact ⟨e3.symm, by rw [← e1]; first | (show (4 : Int) ≠ 6; decide) | (show (0 : Int) ≠ 6; decide)⟩
      rw [R3]
      rw [show runOf (4, y, n) = (y, n, 0) from rfl]
      refine Ev.bind (g := fun _ => some _) (Ev.const rfl) ?_
      refine Ev.bind (g := fun _ => some _) (Ev.const rfl) ?_
      refine Ev.ifPos (by first | rfl | trivial) ?_
      rw [R2, show runOf (f, y, m) = (y, 0, 0) by unfold runOf; rw [if_neg hm0.2, hm0.1]]
      refine Ev.bind (g := fun _ => some _) (Ev.const rfl) ?_
      refine (Ev.ifPos (by first | rfl | trivial) (Ev.ifNeg (by dsimp only; omega) (Ev.ifPos (by dsimp only; omega) (Ev.ifPos (by first | rfl | trivial) (Ev.ifPos (by first | rfl | trivial) (Ev.ifPos (by first | rfl | trivial) (Ev.ifPos (by first | rfl | trivial) ?_)))))))
      rw [show (n != n) = false by simp]
      exact hj
    · have R3 := Run_is hb h0 h1 h2 h3 (n := ((A + B : Nat) : Int)) (by omega) (r := (6, x, n)) (by
        rw [Int.toNat_natCast, g7 B, if_neg (by decide)])
      rw [R3]
      rw [show runOf (6, x, n) = (noT, 0, 6) from rfl]
      refine Ev.bind (g := fun _ => some _) (Ev.const rfl) ?_
      refine Ev.bind (g := fun _ => some _) (Ev.const rfl) ?_
      exact Ev.ifNeg (by decide) (Ev.ifPos (by first | rfl | trivial) (Ev.ifPos (by first | rfl | trivial) awake_bind))
  · rw [Bool.eq_false_iff.mpr hb] at hC
    unfold comfitlaw06_TagsParts.f
    rw [hC]
    refine Ev.bind (g := fun _ => some _) (Ev.const rfl) ?_
    refine Ev.ifNeg (by decide) ?_
    obtain ⟨T, hT, hTs, hcT, hTt⟩ := text_ev c s0 s1 s2 s3 t ht
    have hcut : tags_Cut.f c s0 s1 s2 s3 T = some (noT, 2) := by
      unfold tags_Cut.f tags_cutter_valid.f
      rw [if_pos ⟨h0, h1, h2, h3, hTs⟩, hcT, Bool.eq_false_iff.mpr hb, Option.bind_some, if_neg (by decide)]
      rfl
    rw [hT]
    refine Ev.bind (g := fun _ => some _) (Ev.const rfl) ?_
    rw [hcut]
    refine Ev.bind (g := fun _ => some _) (Ev.const rfl) ?_
    exact Ev.ifPos (by first | rfl | trivial) awake_bind
theorem TagsParts (a0 : Int) (s0 s1 s2 s3 t : ByteArray) (a3 a4 : Int) (w0 : (Lit.int .i64 a0).wf = true) (h0 : s0.size ≤ maxLen) (h1 : s1.size ≤ maxLen) (h2 : s2.size ≤ maxLen) (h3 : s3.size ≤ maxLen) (ht : t.size ≤ maxLen) (w3 : (Lit.int .i64 a3).wf = true) (w4 : (Lit.int .i64 a4).wf = true) : ∃ k, comfitlaw06_TagsParts.f k a0 s0 s1 s2 s3 t a3 a4 = some true :=
  (TagsParts_ev a0 s0 s1 s2 s3 t a3 a4 (lim_le h0) (lim_le h1) (lim_le h2) (lim_le h3) (lim_le ht)).get
end Go.Proofs.YtjmbjnobbeflfaaDoor.Pure
