/- The contract of same: do two maps of the forest hold the same, for what the first one has? -/
import Derived.Test.YtmlbdkkdejecmaaDoorQHWays
import Derived.Maps.RangeWalk
set_option linter.unusedVariables false
set_option linter.unusedSimpArgs false
namespace Go.Proofs.YtmlbdkkdejecmaaDoor.X
open Go.RowKit Go.Proofs.YtmlbdkkdejecmaaDoorW.PrintWords Go.Proofs.YtmlbdkkdejecmaaDoorW.PrintLast Go.Proofs.YtmlbdkkdejecmaaDoorW.PrintMore
attribute [local go_sem] Oper.semAt_some
open Go.Maps Go.WideMaps
theorem cell_int {m : Nat} {v : Value} {ls : List Lit} (h : Tryd.prog.keyLits (m + 1) 3 [v] = some ls) : ∃ x, v = .int .i64 x := by
  cases v <;> simp [Program.keyLits, Tryd.underlying3] at h
  obtain ⟨⟨rfl, _⟩, _⟩ := h
  exact ⟨_, rfl⟩
theorem key_inv (key : Value) (l : Lit) (h : keyOf Tryd.prog 61 key = some l) : ∃ x : Int × Int × Int, key = kv x.1 x.2.1 x.2.2 := by
  have hpos : 0 < Tryd.prog.types.size := of_decide_eq_true (by kernel_rfl)
  obtain ⟨m, hm⟩ : ∃ m, Tryd.prog.types.size = m + 1 := ⟨Tryd.prog.types.size - 1, by omega⟩
  unfold keyOf at h
  simp only [arrK.hu] at h
  split at h
  · rename_i hf
    cases key <;> simp [Value.formed, arrK.hu, arrK.size] at hf
    rename_i cs
    obtain ⟨_, hs⟩ := hf
    obtain ⟨l3⟩ := cs
    match l3, hs with
    | [a, b, c], _ =>
      obtain ⟨ls, h1, _⟩ := Option.map_eq_some_iff.mp h
      rw [hm] at h1
      unfold Program.keyLits at h1
      simp only [arrK.hu, Value.cells, arrK.size, arrK.one] at h1
      rw [if_pos (show [a, b, c].length = 3 from rfl), show List.range 3 = [0, 1, 2] from rfl] at h1
      obtain ⟨ys, h2, _⟩ := Option.map_eq_some_iff.mp h1
      simp only [List.mapM_cons, List.mapM_nil, bind, Option.bind_eq_some_iff, pure, Option.some.injEq] at h2
      obtain ⟨y1, k1, y2, ⟨z2, k2, y3, ⟨z3, k3, _⟩, _⟩, _⟩ := h2
      simp at k1 k2 k3
      obtain ⟨x1, rfl⟩ := cell_int k1
      obtain ⟨x2, rfl⟩ := cell_int k2
      obtain ⟨x3, rfl⟩ := cell_int k3
      exact ⟨(x1, x2, x3), rfl⟩
  · cases h
theorem val_inv (v : Value) (y : DataW Unit × List MemPlace) (h : plainElem Tryd.prog 3 v = some y) : ∃ c, v = .int .i64 c := by
  cases v <;> simp [plainElem, Tryd.underlying3] at h
  obtain ⟨⟨rfl, _⟩, _⟩ := h
  exact ⟨_, rfl⟩
theorem val_at {c : Int} {y : DataW Unit × List MemPlace} (h : plainElem Tryd.prog 3 (.int .i64 c) = some y) : y.1 = .lit (.int .i64 c) := by
  simp [plainElem, Tryd.underlying3] at h
  rw [← h.2]
/-- Amid the look: what is not left has been met. -/
structure Met (Da : DataW Unit) (Sa : Nat → Nat → Prop) (Fa Fb : Nat → Nat → Int) (left : Lit → Bool) : Prop where
  sub : ∀ l, left l = true → has Da l = true
  met : ∀ i j : Nat, Sa i j → left (kl 65 i j) = false → Fb i j = Fa i j
theorem Met.start {Da : DataW Unit} {Sa : Nat → Nat → Prop} {Fa Fb : Nat → Nat → Int} (h : Rep Da Sa Fa) : Met Da Sa Fa Fb (has Da) := ⟨fun l hl => hl, fun i j hs hl => by rw [h.pres i j hs] at hl; cases hl⟩
theorem Met.step {Da : DataW Unit} {Sa : Nat → Nat → Prop} {Fa Fb : Nat → Nat → Int} {left : Lit → Bool} (hR : Rep Da Sa Fa) (h : Met Da Sa Fa Fb left) {a b : Nat} (ha : a ≤ 1000) (hb : b ≤ 1000) (he : Fb a b = Fa a b) : Met Da Sa Fa Fb (fun z => left z && !z.sameKey (kl 65 a b)) := by
  refine ⟨fun l hl => h.sub l (by simp at hl; exact hl.1), fun i j hs hl => ?_⟩
  have hbd := hR.bnd i j hs
  cases hlf : left (kl 65 i j) with
  | false => exact h.met i j hs hlf
  | true =>
    rw [hlf] at hl
    have hsk : (kl 65 (i : Int) (j : Int)).sameKey (kl 65 a b) = true := by simpa using hl
    have hk : WideAt.IsKeyLit (kl 65 a b) := lawK.key (key_of sm65 (smN ha) (smN hb))
    have e := (WideAt.sameKey_iff hk).mp hsk
    obtain ⟨_, h2, h3⟩ := kl_inj sm65 (smN hbd.1) (smN hbd.2) sm65 (smN ha) (smN hb) e
    obtain rfl : i = a := by omega
    obtain rfl : j = b := by omega
    exact he
set_option maxRecDepth 100000 in
set_option maxHeartbeats 8000000 in
theorem same.calls {ba bb na nb : Nat} {Da Db : DataW Unit} {Sa Sb : Nat → Nat → Prop} {Fa Fb : Nat → Nat → Int} (hRa : Rep Da Sa Fa) (hRb : Rep Db Sb Fb) (w : World) (hA : w.ownsMap Tryd.prog 61 (plainElem Tryd.prog 3) ba na Da) (hB : w.ownsMap Tryd.prog 61 (plainElem Tryd.prog 3) bb nb Db) :
    Calls Tryd.prog 26 #[.map (some ba), .map (some bb)] w fun e w' => (∃ r : Bool, e = .returned (.bool r) ∧ (r = true → ∀ i j : Nat, Sa i j → Fb i j = Fa i j) ∧ (r = false → ∃ i j : Nat, Sa i j ∧ Fb i j ≠ Fa i j)) ∧ Below w.heap.size w w' := by
  have hu61 := Tryd.underlying61
  have HA := Aside0.mk hA
  have HB := Aside0.mk hB
  have HRA := Aside0.mk hRa
  have HRB := Aside0.mk hRb
  clear hA hB hRa hRb
  go_enter Tryd.func26, Tryd.ntmps26
  go_wp2_with (first | (at_range; refine wpList_range_own _ rfl _ 58 rfl 61 3 lawK Tryd.underlying58 (plainElem Tryd.prog 3) ba na Da rfl HA.out ?_; intro w0 hrg0 hg0 hs0; have HRG := Aside0.mk hrg0; have HG := Aside0.mk hg0; have HSZ := Aside0.mk hs0; clear hrg0 hg0 hs0) | fail)
  go_frame
  have HB0 : Aside0 (Below w.heap.size w w0) := ⟨(Below.refl _ _).grown HG.out (Nat.le_refl _) (fun k e => by cases e)⟩
  go_loopw [6] (fun v6 W => ∃ (left : Lit → Bool) (cnt : Nat), Aside0 (W.ranges Tryd.prog 61 (plainElem Tryd.prog 3) ba w.heap.size na Da left cnt) ∧ Aside0 (Met Da Sa Fa Fb left) ∧ Aside0 (Below w.heap.size w W)) (fun _ W => W.rangeLeft ba w.heap.size)
  case atStart => exact ⟨_, _, HRG, ⟨Met.start HRA.out⟩, HB0⟩
  case round =>
    clear HRG HG HSZ HB0
    obtain ⟨left, cnt, HRG, HM, HW⟩ := hrel
    go_wp2_with (first | (at_next; refine wpList_next_ranges (α := Int × Int × Int) (β := Int) _ rfl _ rfl 61 lawK (plainElem Tryd.prog 3) (fun x => kv x.1 x.2.1 x.2.2) (fun c => .int .i64 c) key_inv val_inv ba w.heap.size na Da left cnt rfl HRG.out ?_ ?_) | fail)
    · intro hc0 hl0
      have HL0 := Aside0.mk hl0
      clear hl0 hc0
      go_wp2_with fail
      go_ret
      exact ⟨⟨true, rfl, fun _ i j hs => HM.out.met i j hs (HL0.out _), fun h => by cases h⟩, HW.out⟩
    · intro p i j c kl0 y1 y2 w1 cnt1 hkey hlk hval hat hrg hlt hg hsz hen
      obtain ⟨a, b, ha, hb, hS, rfl⟩ := HRA.out.keys kl0 (HM.out.sub kl0 hlk)
      have hkv := lawK.inj hkey (key_of sm65 (smN ha) (smN hb))
      unfold kv at hkv
      simp at hkv
      obtain ⟨rfl, rfl, rfl⟩ := hkv
      have hc : c = Fa a b := by
        have h1 := hat (.lit (.int .i64 0))
        rw [HRA.out.look a b ha hb] at h1
        have h2 := val_at hval
        dsimp only at h2
        rw [h2] at h1
        injection h1 with e1
        injection e1 with _ e2
        exact e2.symm
      subst hc
      unfold kv at hen
      have HRG1 := Aside0.mk hrg
      have HLT := Aside0.mk hlt
      have HW1 : Aside0 (Below w.heap.size w w1) := ⟨HW.out.grown hg HW.out.size (fun k e => by cases e; exact Nat.le_refl _)⟩
      have HO := Aside0.mk (owns_below HB.out HW1.out)
      have HL := Aside0.mk (HRB.out.look a b ha hb)
      have HK := Aside0.mk (key_of sm65 (smN ha) (smN hb))
      have HRL := Aside0.mk (HRG.out.left_eq)
      have HRL1 := Aside0.mk (HRG1.out.left_eq)
      unfold kv at HK
      clear hkey hlk hval hat hrg hlt hg hsz
      by_cases hq : Fb a b = Fa a b
      · have HM1 := Aside0.mk (HM.out.step HRA.out ha hb hq)
        have hqb : (Fb a b != Fa a b) = false := by rw [hq]; simp
        have hqn : (Fb a b = Fa a b) = True := eq_true hq
        go_wp2_with (first | (at_lookup; refine wpList_lookup_own_int _ rfl _ _ 58 rfl 61 3 .i64 lawK Tryd.underlying58 Tryd.underlying3 (zero3 _) bb nb Db rfl (by repeat (first | exact HO.out | apply World.ownsMap.alloc | apply World.ownsMap.drew)) (.agg #[.int .i64 65, .int .i64 (a : Int), .int .i64 (b : Int)]) (kl 65 (a : Int) (b : Int)) rfl HK.out ?_; intro c_ hat _; (obtain rfl : Fb a b = c_ := by injection HL.out.symm.trans hat with e1; injection e1)) | fail)
        refine ⟨⟨_, cnt1, ⟨HRG1.out.alloc _⟩, HM1, ⟨below_alloc HW1.out _⟩⟩, ?_⟩
        rw [(HRG1.out.alloc _).left_eq, HRL.out]
        exact HLT.out
      · have hqb : (Fb a b != Fa a b) = true := by simp [hq]
        have hqn : (Fb a b = Fa a b) = False := eq_false hq
        have HQ := Aside0.mk hq
        clear hq
        go_wp2_with (first | (at_lookup; refine wpList_lookup_own_int _ rfl _ _ 58 rfl 61 3 .i64 lawK Tryd.underlying58 Tryd.underlying3 (zero3 _) bb nb Db rfl (by repeat (first | exact HO.out | apply World.ownsMap.alloc | apply World.ownsMap.drew)) (.agg #[.int .i64 65, .int .i64 (a : Int), .int .i64 (b : Int)]) (kl 65 (a : Int) (b : Int)) rfl HK.out ?_; intro c_ hat _; (obtain rfl : Fb a b = c_ := by injection HL.out.symm.trans hat with e1; injection e1)) | fail)
        go_ret
        exact ⟨⟨false, rfl, (fun h => by cases h), fun _ => ⟨a, b, hS, HQ.out⟩⟩, by repeat (first | exact HW1.out | apply below_alloc | apply pw_below_drewN | apply below_drew1)⟩
end Go.Proofs.YtmlbdkkdejecmaaDoor.X
