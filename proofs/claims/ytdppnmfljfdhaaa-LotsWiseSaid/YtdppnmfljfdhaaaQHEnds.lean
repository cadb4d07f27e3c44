/- The contract of (Plan).ends, walked: two loops in a loop, the first over a map in an order that nobody knows. -/
import Derived.Test.YtdppnmfljfdhaaaQHEndsA
set_option linter.unusedVariables false
set_option linter.unusedSimpArgs false
namespace Go.Proofs.Ytdppnmfljfdhaaa.X
open Go.RowKit Go.Maps Go.Proofs.YtdppnmfljfdhaaaW.PrintWords Go.Proofs.YtdppnmfljfdhaaaW.PrintLast Go.Proofs.YtdppnmfljfdhaaaW.PrintMore

/-- Between two items: the ends so far, and the table of ways. -/
def Rel (w : World) (cs : Array Value) (l0 l1 : List Int) (v m i : Value) (W : World) : Prop :=
  ∃ (k b : Nat) (D : DataW Unit), i = .int .i64 ((k : Int) + 1) ∧ k ≤ l0.length ∧ m = .map (some b) ∧ w.heap.size ≤ b ∧ Aside0 (W.ownsMap Try.prog 3 (plainElem Try.prog 3) b (2 ^ k) D) ∧
    Aside0 (Holds D (wy l0 l1 k)) ∧ Aside0 (St w w.heap.size cs v (ends l0 l1 k) W)
/-- In the first inner loop: what has come of the table is laid into the next one. -/
def RelA (w : World) (cs : Array Value) (l0 l1 : List Int) (v : Value) (k b bn r : Nat) (D : DataW Unit) (W : World) : Prop :=
  ∃ (left : Lit → Bool) (cnt n : Nat) (D' : DataW Unit), n + 2 * cnt ≤ 2 ^ (k + 1) ∧ Aside0 (W.ranges Try.prog 3 (plainElem Try.prog 3) b r (2 ^ k) D left cnt) ∧ Aside0 (W.ownsMap Try.prog 3 (plainElem Try.prog 3) bn n D') ∧
    Aside0 (Holds D' (nx (come (wy l0 l1 k) left))) ∧ Aside0 (St w w.heap.size cs v (ends l0 l1 k) W)
/-- In the second inner loop: the first m places are looked at. -/
def RelB (w : World) (cs : Array Value) (l0 l1 : List Int) (k bn : Nat) (v i : Value) (W : World) : Prop :=
  ∃ (m : Nat) (D' : DataW Unit), i = .int .i64 (m : Int) ∧ m ≤ k + 2 ∧ Aside0 (W.ownsMap Try.prog 3 (plainElem Try.prog 3) bn (2 ^ (k + 1)) D') ∧
    Aside0 (Holds D' (cut l0 l1 k m)) ∧ Aside0 (St w w.heap.size cs v (ends l0 l1 k ++ enK l0 l1 k m) W)

set_option maxRecDepth 100000 in
set_option maxHeartbeats 4000000 in
theorem lots_Plan_ends.calls (A0 : Option Addr) (c0 : Nat) (l0 : List Int) (A1 : Option Addr) (c1 : Nat) (l1 : List Int) (r : List S81) (w : World) (hr0 : Kd.C (Kd.int .i64) w A0 l0.length l0) (hc0 : l0.length ≤ c0) (hr1 : Kd.C (Kd.int .i64) w A1 l1.length l1) (hc1 : l1.length ≤ c1) (h : lots_Plan_ends.f l0 l1 = some r) :
    Calls Try.prog 72 #[.agg #[.slice A0 l0.length c0, .slice A1 l1.length c1]] w fun e w' => ∃ v0_ : Value, e = .returned v0_ ∧ Kd.R k81 81 w' w.heap.size (fun _ => True) v0_ r ∧ Below w.heap.size w w' := by
  have hu32 := Try.underlying32
  have HR0 := Aside0.mk hr0
  have HC0 := Aside0.mk hc0
  have HR1 := Aside0.mk hr1
  have HC1 := Aside0.mk hc1
  clear hr0 hc0 hr1 hc1
  obtain ⟨hv, rfl⟩ := lots_Plan_ends.of h
  have HV := Aside0.mk hv
  clear hv h
  have hmm := @run_makeMap Try.prog
  have hst : Aside0 (St w w.heap.size #[.slice A0 l0.length c0, .slice A1 l1.length c1] (.slice none 0 0) [] (w.alloc (.cells #[.slice A0 l0.length c0, .slice A1 l1.length c1] 32))) :=
    ⟨below_alloc (Below.refl _ _) _, Box.new (Below.refl _ _) _ 32, Kd.R_nil _ _ _ _ _⟩
  obtain ⟨w2, hrun, hm1, hg1⟩ := (World.ownsMap_made (H := Unit) (w.alloc (.cells #[.slice A0 l0.length c0, .slice A1 l1.length c1] 32)) Try.prog 3 (plainElem Try.prog 3)).update lawK Try.underlying102 (by unfold maxLen; omega) (keyOf_int_mk Try.underlying3 (a := 0) (by decide)) (plainElem_int Try.underlying3 (a := 1) (by decide))
  rw [World.size_alloc] at hrun hm1 hg1
  replace hm1 := Aside0.mk hm1
  replace hst := Aside0.mk ((hst.out.alloc (.map #[] 0)).obj hg1 ⟨_, by rw [← World.size_alloc w (.cells #[.slice A0 l0.length c0, .slice A1 l1.length c1] 32)]; exact heap_alloc_new _ _, fun _ _ _ e => by cases e⟩ (by omega))
  clear hg1
  go_enter Try.func72, Try.ntmps72
  go_wp2_with fail
  go_loopw [3, 4, 5] (Rel w #[.slice A0 l0.length c0, .slice A1 l1.length c1] l0 l1) (fun _ _ i _ => 14 - (intOf i).toNat)
  case atStart =>
    refine ⟨0, w.heap.size + 1, _, rfl, Nat.zero_le _, rfl, by omega, ⟨hm1.out⟩, ⟨fun z hz => ?_⟩, hst⟩
    rw [atKey_put _ ⟨_, rfl⟩]
    show _ = DataW.lit (Lit.int .i64 (if z = 0 then 1 else 0))
    by_cases h0 : z = 0
    · rw [if_pos h0, if_pos h0]
    · rw [if_neg h0, if_neg h0]; rfl
  case round =>
    obtain ⟨k, b, D, rfl, hk, rfl, hwb, HM, HD, HS⟩ := hrel
    have p0 : wr.cell? ⟨w.heap.size, 0, none⟩ = _ := HS.out.2.1.cell 0 rfl
    clear hrun hst hm1 hmm
    have hmm := @run_makeMap Try.prog
    go_wp2_with (first
      | (at_range; refine wpList_range_own _ rfl _ 102 rfl 3 3 lawK Try.underlying102 _ b _ D rfl (HM.out.alloc _) ?_; intro w0 hrg0 hg0 hs0)
      | go_in)
    · go_frame
      rw [World.size_alloc] at hrg0 hs0 ⊢
      have hbn : wr.heap.size < w0.heap.size := by omega
      have HS0 := Aside0.mk ((HS.out.alloc (.map #[] 0)).new hg0)
      have HN0 : Aside0 (w0.ownsMap Try.prog 3 (plainElem Try.prog 3) wr.heap.size 0 (.map [] : DataW Unit)) := ⟨(World.ownsMap_made wr Try.prog 3 _).kept hg0 (by simp)⟩
      have HRG0 := Aside0.mk hrg0
      have hkr : (k : Int) + 1 ≤ l0.length := by assumption
      have hV2 := HV.out.2
      rw [decide_eq_true hkr]
      clear hrg0 hg0 hs0 p0 hmm
      have hwB := HS.out.1.size
      have hbB := HM.out.lt
      generalize wr.heap.size = B at *
      go_loopw [7] (fun _ W => RelA w #[.slice A0 l0.length c0, .slice A1 l1.length c1] l0 l1 u3 k b B (B + 1) D W) (fun _ W => W.rangeLeft b (B + 1))
      case atStart =>
        refine ⟨Maps.has D, Maps.size D, 0, _, ?_, HRG0, HN0, ⟨fun z hz => ?_⟩, HS0⟩
        · have := size_le HM.out
          rw [Nat.pow_succ]; omega
        · show DataW.lit (Lit.int .i64 0) = _
          unfold nx
          rw [come_start HD.out k (by omega) (wy_out l0 l1 k), come_start HD.out k (by omega) (wy_out l0 l1 k)]
          rw [show wrap64 ((0 : Int) + 0) = 0 by unfold wrap64; omega]
      case round =>
        clear HM HRG0 HN0 HS0 HS
        obtain ⟨left, cnt, n, D', hn, HRG, HN, HD', HS⟩ := hrel
        go_wp2_with (first
          | (at_next; refine wpList_next_ranges_ii _ rfl _ rfl 3 3 .i64 .i64 lawK Try.underlying3 Try.underlying3 b (B + 1) _ _ _ _ rfl HRG.out ?_ ?_)
          | go_in)
        · -- nothing is left
          intro _ hl0
          go_wp2_with fail
          replace HD' := Aside0.mk (HD'.out.congr (N' := cut l0 l1 k 0) (fun z _ => by rw [cut_zero]; unfold nx; rw [come_end hl0, come_end hl0]))
          replace HN := Aside0.mk (HN.out.mono (n' := 2 ^ (k + 1)) (by omega))
          clear HRG hl0 hn
          go_loopw [3, 41] (RelB w #[.slice A0 l0.length c0, .slice A1 l1.length c1] l0 l1 k B) (fun _ i _ => 14 - (intOf i).toNat)
          case atStart =>
            refine ⟨0, D', rfl, by omega, HN, HD', ⟨?_⟩⟩
            rw [show enK l0 l1 k 0 = [] from rfl, List.append_nil]
            exact HS.out
          case round =>
            clear HN HD' HS
            obtain ⟨m, D2, rfl, hm, HN, HD', HS⟩ := hrel
            have q0 := HS.out.2.1.cell 0 rfl
            have q1 := HS.out.2.1.cell 1 rfl
            have hwm : (Lit.int .i64 (m : Int)).wf = true := (wf_iff _).2 (by omega)
            go_wp2_with fail
            · refine (lots_Plan_after.calls A0 c0 l0 A1 c1 l1 ((k : Int) + 1) m (aft l0 l1 (k + 1) m) _ (Kd.C_below HR0.out HS.out.1) HC0.out (Kd.C_below HR1.out HS.out.1) HC1.out (aft_of l0 l1 _ _ (by omega) hkr HV.out.1 HV.out.2)).mono ?_
              rintro e w3 ⟨rfl, hb⟩
              replace HN := Aside0.mk (own_below HN.out hb)
              replace HS := Aside0.mk (HS.out.below hb)
              clear q0 q1 hb
              obtain ⟨c, hlook, hat, hwc⟩ := HN.out.lookup_int lawK Try.underlying102 Try.underlying3 (zeroE _) (keyOf_int_mk Try.underlying3 hwm)
              obtain rfl := HD'.out.at hwm hat
              rw [cut_at] at hlook
              have hlen : ((ends l0 l1 k ++ enK l0 l1 k m).length + 1) * 32 ≤ 140737488355328 := by
                have h1 := ends_len l0 l1 k
                have h2 := enK_len l0 l1 k m
                have h3 : k * (k + 2) ≤ 12 * 14 := Nat.mul_le_mul (by omega) (by omega)
                rw [List.length_append]; omega
              go_wp2_with (first
                | ((with_reducible refine gate_builtin (b := .append) (xs := #[.tmp 56, .tmp 64]) rfl ?_); at_builtin; refine Kd.R_append k81 (w0 := w) w.heap.size rfl (.tmp 56) (.tmp 64) 96 81 _ 32 rfl Try.underlying96 info81 rfl (by decide) (by omega) u3 (ends l0 l1 k ++ enK l0 l1 k m) ⟨(k : Int) + 1, m, aft l0 l1 (k + 1) m, nx (wy l0 l1 k) m⟩ [.int .i64 ((k : Int) + 1), .int .i64 m, .int .i64 (aft l0 l1 (k + 1) m), .int .i64 (nx (wy l0 l1 k) m)] (fun _ => True) (fun _ => False) rfl rfl (k81_mkM _ _ _ _) (fun _ hk => hk.elim) (fun _ _ => trivial) HS.out.2.2 HS.out.1 HS.out.1.size hlen ?_; intro v1 w4 ho hb1 hg1 hat1; have HN4 := Aside0.mk (own_row HN.out HS.out.2.2 hg1); have HS4 := Aside0.mk (HS.out.append hb1 hg1 ho); clear ho hb1 hg1 hat1 hlook)
                | (at_delete; refine wpList_delete_own _ rfl (.tmp 66) (.tmp 67) 102 3 rfl 3 lawK Try.underlying102 _ B _ D2 rfl HN4.out _ _ rfl (keyOf_int_mk Try.underlying3 hwm) ?_; intro w5 hm5 hturn5; have HN5 := Aside0.mk hm5; have HS5 := Aside0.mk (HS4.out.obj hturn5.grown (own_noCells HN4.out) hwB); clear hm5 hturn5)
                | go_in)
              · have ha : aft l0 l1 (k + 1) m = 0 := by assumption
                refine ⟨⟨m + 1, D2, by rw [Int.natCast_add]; rfl, by omega, HN, ⟨HD'.out.congr (fun z _ => (cut_keep l0 l1 k m (fun h => h.1 ha) z).symm)⟩, ?_⟩, by simp [intOf]; omega⟩
                rw [show enK l0 l1 k (m + 1) = enK l0 l1 k m by rw [enK, if_neg (fun h => h.1 ha)]]
                exact HS
              · have ha : aft l0 l1 (k + 1) m ≠ 0 ∧ 0 < nx (wy l0 l1 k) m := ⟨by assumption, by first | assumption | (rename_i hh_; exact hh_.2)⟩
                refine ⟨⟨m + 1, D2.del (.int .i64 m), by rw [Int.natCast_add]; rfl, by omega, HN5, ⟨(HD'.out.del m).congr (fun z _ => (cut_strike l0 l1 k m ha z).symm)⟩, ?_⟩, by simp [intOf]; omega⟩
                rw [show enK l0 l1 k (m + 1) = enK l0 l1 k m ++ [⟨(k : Int) + 1, m, aft l0 l1 (k + 1) m, nx (wy l0 l1 k) m⟩] by rw [enK, if_pos ha], ← List.append_assoc]
                exact HS5
              · have ha : ¬ (aft l0 l1 (k + 1) m ≠ 0 ∧ 0 < nx (wy l0 l1 k) m) := fun h => by
                  rename_i hh_
                  rcases hh_ with e | e
                  · simp at e; exact h.1 e
                  · omega
                refine ⟨⟨m + 1, D2, by rw [Int.natCast_add]; rfl, by omega, HN, ⟨HD'.out.congr (fun z _ => (cut_keep l0 l1 k m ha z).symm)⟩, ?_⟩, by simp [intOf]; omega⟩
                rw [show enK l0 l1 k (m + 1) = enK l0 l1 k m by rw [enK, if_neg ha]]
                exact HS
            · have hm2 : m = k + 2 := by
                have : (k : Int) + 1 + 1 ≤ m := by assumption
                omega
              subst hm2
              refine ⟨⟨k + 1, B, D2, by rw [Int.natCast_add]; rfl, by omega, rfl, hwB, HN, ⟨HD'.out.congr (fun z _ => cut_end l0 l1 k z)⟩, HS⟩, by simp [intOf]; omega⟩
        · -- a place of the table has come
          intro x c w1 cnt1 hwx hwc hlx hat hrg1 hlt hg1 hs1 hen
          obtain rfl := HD.out.at hwx (hat _)
          have HR1 := Aside0.mk hrg1
          have HS1 := Aside0.mk (HS.out.obj hg1 (rng_noCells HRG.out) (by omega))
          have HN1 := Aside0.mk (HN.out.kept hg1 (by simp))
          have g0 : come (wy l0 l1 k) left x = 0 := by unfold come; rw [if_pos hlx]
          clear hrg1 hg1 hs1 hat
          have hp : 2 ^ (k + 1) ≤ 2 ^ 13 := Nat.pow_le_pow_right (by omega) (by omega)
          have hml : n + 1 < maxLen := by unfold maxLen; omega
          have hbne : some b ≠ some B := fun e => by cases e; omega
          have hrne : some (B + 1) ≠ some B := fun e => by have := Option.some.inj e; omega
          go_wp2_with (first
            | (at_lookup; refine wpList_lookup_own_int _ rfl (.tmp 28) (.tmp 29) 102 rfl 3 3 .i64 lawK Try.underlying102 Try.underlying3 (zeroE _) B n D' rfl HN1.out _ _ rfl (keyOf_int_mk Try.underlying3 hwx) ?_; intro u1 hat1 hwc1; have HC1' := Aside0.mk (HD'.out.at hwx hat1); clear hat1 hwc1)
            | (at_mapUpdate; refine wpList_mapUpdate_own _ rfl (.tmp 28) (.tmp 29) (.tmp 32) 102 rfl 3 3 lawK Try.underlying102 _ B n D' rfl HN1.out (by omega) _ _ _ rfl rfl (keyOf_int_mk Try.underlying3 hwx) _ [] (plainElem_int Try.underlying3 (by first | exact wfw _ | exact wfw64 _)) ?_; intro w2 hm2 hg2; have HN2 := Aside0.mk hm2; have HS2 := Aside0.mk (HS1.out.obj hg2 (own_noCells HN1.out) hwB); have HR2 := Aside0.mk (HR1.out.kept hg2 hbne hrne); clear hm2 hg2)
            | (at_lookup; refine wpList_lookup_own_int _ rfl (.tmp 33) (.tmp 35) 102 rfl 3 3 .i64 lawK Try.underlying102 Try.underlying3 (zeroE _) B (n + 1) _ rfl HN2.out _ _ rfl (keyOf_int_mk Try.underlying3 (by first | exact wfw _ | exact wfw64 _)) ?_; intro u2 hat2 hwc2; have HC2' := Aside0.mk hat2; clear hat2 hwc2)
            | (at_mapUpdate; refine wpList_mapUpdate_own _ rfl (.tmp 33) (.tmp 35) (.tmp 38) 102 rfl 3 3 lawK Try.underlying102 _ B (n + 1) _ rfl HN2.out (by omega) _ _ _ rfl rfl (keyOf_int_mk Try.underlying3 (by first | exact wfw _ | exact wfw64 _)) _ [] (plainElem_int Try.underlying3 (by first | exact wfw _ | exact wfw64 _)) ?_; intro w3 hm3 hg3; have HN3 := Aside0.mk hm3; have HS3 := Aside0.mk (HS2.out.obj hg3 (own_noCells HN2.out) hwB); have HR3 := Aside0.mk (HR2.out.kept hg3 hbne hrne); clear hm3 hg3)
            | go_in)
          have h1 := HD'.out.put HN1.out.isMap x (wrap64 (u1 + wy l0 l1 k x))
          have h2 := h1.at (wfw64 _) HC2'.out
          have h3 := h1.put HN2.out.isMap (wrap64 (x + 1)) (wrap64 (u2 + wy l0 l1 k x))
          have h4 : Holds _ (nx (come (wy l0 l1 k) (fun z => left z && !z.sameKey (.int .i64 x)))) := h3.congr (fun z hz => by
            rw [h2, HC1'.out]
            refine (round_eq (wy l0 l1 k) (come (wy l0 l1 k) left) k (by omega) (wy_out l0 l1 k) x ((wf_iff x).1 hwx) g0 z).trans ?_
            unfold nx
            rw [come_step, come_step])
          have H4 := Aside0.mk h4
          clear h1 h2 h3 h4
          go_frame
          have HF : RelA w #[.slice A0 l0.length c0, .slice A1 l1.length c1] l0 l1 u3 k b B (B + 1) D w3 := ⟨_, cnt1, n + 1 + 1, _, by omega, HR3, HN3, H4, HS3⟩
          exact ⟨⟨_, _, _, _, _, _, _, _, _, _, _, _, _, _, _, _, _, _, HF, rfl⟩, by rw [HR3.out.left_eq, HRG.out.left_eq]; exact hlt⟩
    · go_ret
      have hkk : k = l0.length := by
        have : (l0.length : Int) < (k : Int) + 1 := by assumption
        omega
      subst hkk
      exact ⟨_, rfl, HS.out.2.2, HS.out.1⟩
end Go.Proofs.Ytdppnmfljfdhaaa.X
