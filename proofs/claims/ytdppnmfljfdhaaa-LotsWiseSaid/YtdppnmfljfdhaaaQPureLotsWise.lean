/- Wise returns the least price of a plan for some items, as the reference's search over all bounds, or the documented error: no conditions but the sizes that the arguments have. -/
import Derived.Test.YtdppnmfljfdhaaaQMRWiseB
import Derived.Test.YtdppnmfljfdhaaaQXcomfitlaw02LotsWise
set_option linter.unusedVariables false
set_option linter.unusedSimpArgs false
namespace Go.Proofs.Ytdppnmfljfdhaaa.Pure
open Go.RowKit Go.Proofs.Ytdppnmfljfdhaaa.X Go.Proofs.YtdppnmfljfdhaaaW.PrintWords Go.Proofs.YtdppnmfljfdhaaaW.PrintLast Go.Proofs.YtdppnmfljfdhaaaW.PrintMore
section
variable {t : T8}
theorem rd_single (P : Int) (b : Nat) : rd [P] (b : Int) = if b = 0 then P else 0 := by
  unfold rd
  rcases b with _ | b
  · simp
  · simp
theorem part_bd (hO : t.Ok) (n : Nat) (hn : n ≤ 6) : 0 ≤ t.py * t.bo ^ n ∧ t.py * t.bo ^ n * t.go ^ n ≤ 106993205379072 ∧ 0 ≤ (t.po - t.py) * t.go ^ n ∧ (t.po - t.py) * t.go ^ n * t.bo ^ n ≤ 106993205379072 ∧ t.py * t.bo ^ n ≤ 106993205379072 ∧ (t.po - t.py) * t.go ^ n ≤ 106993205379072 := by
  have hg := hO.g
  have hb := hO.b
  have hw := hO.w
  have pg := pow_pos' t.go hg.1 n
  have pb := pow_pos' t.bo hb.1 n
  have hW := whole_bound (go := t.go) (bo := t.bo) n hn hg hb hw
  have hp : 0 ≤ t.go ^ n * t.bo ^ n := Int.mul_nonneg (by omega) (by omega)
  have a1 : t.py * (t.go ^ n * t.bo ^ n) ≤ t.po * (t.go ^ n * t.bo ^ n) := Int.mul_le_mul_of_nonneg_right hw.2.2.2 hp
  have a2 : (t.po - t.py) * (t.go ^ n * t.bo ^ n) ≤ t.po * (t.go ^ n * t.bo ^ n) := Int.mul_le_mul_of_nonneg_right (by have := hw.2.2.1; omega) hp
  rw [← Int.mul_assoc t.po] at a1 a2
  have u0 : 0 ≤ t.py * t.bo ^ n := Int.mul_nonneg hw.2.2.1 (by omega)
  have v0 : 0 ≤ (t.po - t.py) * t.go ^ n := Int.mul_nonneg (by have := hw.2.2.2; omega) (by omega)
  have u1 : t.py * t.bo ^ n * t.go ^ n = t.py * (t.go ^ n * t.bo ^ n) := by rw [Int.mul_assoc, Int.mul_comm (t.bo ^ n)]
  have v1 : (t.po - t.py) * t.go ^ n * t.bo ^ n = (t.po - t.py) * (t.go ^ n * t.bo ^ n) := by rw [Int.mul_assoc]
  have u2 : t.py * t.bo ^ n * 1 ≤ t.py * t.bo ^ n * t.go ^ n := Int.mul_le_mul_of_nonneg_left pg u0
  have v2 : (t.po - t.py) * t.go ^ n * 1 ≤ (t.po - t.py) * t.go ^ n * t.bo ^ n := Int.mul_le_mul_of_nonneg_left pb v0
  rw [Int.mul_one] at u2 v2
  refine ⟨u0, by omega, v0, by omega, by omega, by omega⟩
theorem first_in (hO : t.Ok) (d : Nat) (hd : d + 1 ≤ 6) : t.In d 0 [t.py * t.bo ^ (d + 1)] [(t.po - t.py) * t.go ^ (d + 1)] 0 := by
  obtain ⟨h1, h2, h3, h4, _, _⟩ := part_bd hO (d + 1) hd
  refine ⟨rfl, rfl, ⟨⟨fun b => if b = 0 then 1 else 0, t.py * t.bo ^ (d + 1), (t.po - t.py) * t.go ^ (d + 1), fun b => ?_, h1, h3, fun b hb => ?_, fun b => ?_, fun b => ?_⟩⟩, ?_, ?_, Int.le_refl _, ?_⟩
  · dsimp only; split <;> omega
  · exact if_neg (by omega)
  · dsimp only
    rw [rd_single]
    by_cases c : b = 0
    · subst c; simp
    · rw [if_neg c, if_neg c, Int.zero_mul]
  · dsimp only
    rw [rd_single]
    by_cases c : b = 0
    · subst c; simp
    · rw [if_neg c, if_neg c, Int.zero_mul]
  · rw [sI, sI, Int.zero_add]; exact h2
  · rw [sI, sI, Int.zero_add]; exact h4
  · simp
theorem first_V (hO : t.Ok) (d : Nat) : t.V d 1 (fun b => rd [t.py * t.bo ^ (d + 1)] (b : Int)) (fun b => rd [(t.po - t.py) * t.go ^ (d + 1)] (b : Int)) = t.wI (d + 1) (d + 1) 0 0 := by
  rw [T8.wI_top (d + 1) (by omega), show d + 1 - 1 = d by omega]
  generalize t.py * t.bo ^ (d + 1) = U
  generalize (t.po - t.py) * t.go ^ (d + 1) = V
  unfold T8.V T8.C
  simp only [sI, Int.zero_add]
  have r0 : ∀ P : Int, rd [P] ((0 : Nat) : Int) = P := fun P => by rw [rd_single]; rfl
  have r1 : ∀ P : Int, rd [P] ((1 : Nat) : Int) = 0 := fun P => by rw [rd_single]; rfl
  unfold nxX
  simp only [r0, r1, if_pos, Int.zero_mul, Int.add_zero, Int.zero_add, if_neg (show ¬ (1 : Nat) = 0 by omega), show (1 : Nat) - 1 = 0 from rfl]
  rw [Int.mul_assoc U, Int.mul_assoc V, Int.mul_comm t.go, Int.mul_comm t.bo, ← Int.pow_succ, ← Int.pow_succ, Int.add_assoc (U * t.go ^ (d + 1) + V * t.bo ^ (d + 1))]
theorem ref_Wise_ev (hO : t.Ok) (n : Nat) (hn : n ≤ 6) (hn1 : 1 ≤ n) (hm : t.gy * t.bo ≤ t.by_ * t.go) : Ev (fun k => comfitref02_Wise.f k n t.gy t.go t.by_ t.bo t.py t.po t.tk t.lv) (t.wA n) := by
  obtain ⟨d, rfl⟩ : ∃ d, n = d + 1 := ⟨n - 1, by omega⟩
  have hW := whole_bound (go := t.go) (bo := t.bo) (d + 1) hn hO.g hO.b hO.w
  have ht := hO.top (d + 1) hn hn1
  have hp := part_bd hO (d + 1) hn
  have bg := pow_bound t.go hO.g.1 hO.g.2.1 (d + 1) (by omega)
  have bb := pow_bound t.bo hO.b.1 hO.b.2.1 (d + 1) (by omega)
  have pg := ref_power_ev t.go ((d + 1 : Nat) : Int) (by omega) (by omega)
  have pb := ref_power_ev t.bo ((d + 1 : Nat) : Int) (by omega) (by omega)
  rw [Int.toNat_natCast, w_small (by omega) (by omega)] at pg pb
  have hr := tells hO hm d 0 _ _ 0 (-1) (first_in hO d hn) (by omega)
  rw [Int.zero_add, show (0 : Nat) + 1 = 1 from rfl, first_V hO d, show bm (-1) (t.wI (d + 1) (d + 1) 0 0) = t.wI (d + 1) (d + 1) 0 0 from if_pos (by omega), show 1 + d = d + 1 by omega] at hr
  have e1 : wrap64 (t.py * t.bo ^ (d + 1)) = t.py * t.bo ^ (d + 1) := w_small hp.1 (by omega)
  have e2 : wrap64 (wrap64 (t.po - t.py) * t.go ^ (d + 1)) = (t.po - t.py) * t.go ^ (d + 1) := by
    have hw := hO.w
    rw [w_small (z := t.po - t.py) (by have := hw.2.2.2; omega) (by have := hw.2.2.1; have := hw.2.1; omega), w_small hp.2.2.1 (by omega)]
  have e3 : wrap64 (wrap64 (t.po * t.go ^ (d + 1)) * t.bo ^ (d + 1)) = t.po * t.go ^ (d + 1) * t.bo ^ (d + 1) := by
    have hx : 0 ≤ t.po * t.go ^ (d + 1) := Int.mul_nonneg (by have := hO.w.1; omega) (by omega)
    have hy : t.po * t.go ^ (d + 1) * 1 ≤ t.po * t.go ^ (d + 1) * t.bo ^ (d + 1) := Int.mul_le_mul_of_nonneg_left bb.1 hx
    rw [Int.mul_one] at hy
    rw [w_small (z := t.po * t.go ^ (d + 1)) hx (by omega), w_small (by omega) (by omega)]
  have hf := ref_frac_ev (t.wI (d + 1) (d + 1) 0 0) (t.po * t.go ^ (d + 1) * t.bo ^ (d + 1)) (by omega) (by omega) (by omega) (by omega)
  refine Ev.cast (v := ((t.wA (d + 1)).1, (t.wA (d + 1)).2)) ?_ rfl
  show Ev (fun k => (comfitref02_power.f k t.go ((d + 1 : Nat) : Int)).bind fun t144 => ((comfitref02_power.f k t.bo ((d + 1 : Nat) : Int)).bind fun t145 => ((comfitref02_wise.f k ((d + 1 : Nat) : Int) 1 t.gy t.go t.by_ t.bo (([wrap64 (t.py * t145)] : List Int)) (([wrap64 ((wrap64 (t.po - t.py)) * t144)] : List Int)) 0 t.tk t.lv (-1) 0).bind fun t153 => ((comfitref02_frac.f k t153 (wrap64 ((wrap64 (t.po * t144)) * t145))).bind fun bt154 => (some (bt154.1, bt154.2)))))) _
  refine Ev.bind pg (Ev.bind pb ?_)
  rw [e1, e2, e3]
  exact Ev.bind hr (Ev.bind hf (Ev.const rfl))
theorem Wise_bad {n gy go by_ bo wy wo tk lv : Int} (h : ¬ (1 ≤ n ∧ n ≤ 6 ∧ okC gy go ∧ okC by_ bo ∧ okC wy wo ∧ okW tk lv ∧ wrap64 (gy * bo) ≤ wrap64 (by_ * go))) : Ev (fun k => lots_Wise.f k n gy go by_ bo wy wo tk lv) (0, 0, 2) := by
  have hj : Ev (fun k => lots_Wise.j0 k n true gy go by_ bo wy wo tk lv) (0, 0, 2) := Ev.succ (g := fun _ => some (0, 0, 2)) (Ev.const rfl) (fun k => by rw [lots_Wise.j0, if_pos rfl])
  unfold lots_Wise.f
  by_cases h1 : n < 1
  · exact Ev.ifPos h1 hj
  · refine Ev.ifNeg h1 ?_
    by_cases h2 : n > 6
    · exact Ev.ifPos h2 hj
    · refine Ev.ifNeg h2 ?_
      rw [test_ok]
      simp only [Option.bind_some]
      by_cases h3 : okC gy go ∧ okC by_ bo ∧ okC wy wo ∧ okW tk lv
      · rw [decide_eq_true h3, most_ok]
        simp only [Option.bind_some]
        refine Ev.ifPos trivial ?_
        have h4 : ¬ wrap64 (gy * bo) ≤ wrap64 (by_ * go) := fun h4 => h ⟨by omega, by omega, h3.1, h3.2.1, h3.2.2.1, h3.2.2.2, h4⟩
        rw [decide_eq_false h4]
        exact hj
      · rw [decide_eq_false h3]
        exact Ev.ifNeg (by decide) hj
end
theorem LotsWise (n gy go by_ bo wy wo tk lv : Int) (_ : (Lit.int .i64 n).wf = true) (_ : (Lit.int .i64 gy).wf = true) (_ : (Lit.int .i64 go).wf = true) (_ : (Lit.int .i64 by_).wf = true) (_ : (Lit.int .i64 bo).wf = true) (_ : (Lit.int .i64 wy).wf = true) (_ : (Lit.int .i64 wo).wf = true) (_ : (Lit.int .i64 tk).wf = true) (_ : (Lit.int .i64 lv).wf = true) : ∃ k, comfitlaw02_LotsWise.f k n gy go by_ bo wy wo tk lv = some true := by
  refine Ev.get (g := fun k => comfitlaw02_LotsWise.f k n gy go by_ bo wy wo tk lv) ?_
  have hnone : comfitlaw02_none.f 0 0 = some true := by decide +kernel
  have hj : Ev (fun k => comfitlaw02_LotsWise.j0 k n tk lv 2 true gy go by_ bo wy wo 0 0) true := by
    refine Ev.succ (g := fun k => (comfitlaw02_awake.f k).bind fun t222 => (some t222)) (Ev.bind awake_ev (Ev.const rfl)) (fun k => ?_)
    rw [comfitlaw02_LotsWise.j0, if_pos rfl, hnone]
    simp only [Option.bind_some, if_true]
  unfold comfitlaw02_LotsWise.f comfitlaw02_chance.f
  simp only [Option.bind_some]
  by_cases h : 1 ≤ n ∧ n ≤ 6 ∧ okC gy go ∧ okC by_ bo ∧ okC wy wo ∧ okW tk lv ∧ wrap64 (gy * bo) ≤ wrap64 (by_ * go)
  · obtain ⟨h1, h2, hg, hb, hw, hc, hm⟩ := h
    obtain ⟨m, rfl⟩ := Int.eq_ofNat_of_zero_le (show 0 ≤ n by omega)
    have hO : T8.Ok ⟨gy, go, by_, bo, wy, wo, tk, lv⟩ := ⟨hg, hb, hw, hc⟩
    have hW := Wise_ev hO m (by omega) (by omega) hm
    have hm2 : gy * bo ≤ by_ * go := by
      have a := mul_b hg.2.2.1 (show gy ≤ 12 by have := hg.2.1; have := hg.2.2.2; omega) (show 0 ≤ bo by have := hb.1; omega) hb.2.1
      have b := mul_b hb.2.2.1 (show by_ ≤ 12 by have := hb.2.1; have := hb.2.2.2; omega) (show 0 ≤ go by have := hg.1; omega) hg.2.1
      rw [w_in (n := gy * bo) (by omega) (by omega), w_in (n := by_ * go) (by omega) (by omega)] at hm
      exact hm
    have hR := ref_Wise_ev hO m (by omega) (by omega) hm2
    refine Ev.bind hW (Ev.ifNeg (by omega) (Ev.ifNeg (by omega) ?_))
    rw [Is_ok, Is_ok, Is_ok, Cost_ok, decide_eq_true hg, decide_eq_true hb, decide_eq_true hw, decide_eq_true hc]
    simp only [Option.bind_some, if_true]
    rw [decide_eq_false (Int.not_lt.mpr hm)]
    refine Ev.succ (g := fun k => (comfitref02_Wise.f k m gy go by_ bo wy wo tk lv).bind fun bt515 => (if ((T8.wA ⟨gy, go, by_, bo, wy, wo, tk, lv⟩ m).1 == bt515.1 && ((T8.wA ⟨gy, go, by_, bo, wy, wo, tk, lv⟩ m).2 == bt515.2)) = true then (if (0 : Int) = 0 then ((comfitlaw02_awake.f k).bind fun t517 => (some t517)) else (some false)) else (some false))) ?_ (fun k => by rw [comfitlaw02_LotsWise.j0, if_neg (by decide)])
    exact Ev.bind hR (Ev.ifPos (by simp) (Ev.ifPos rfl (Ev.bind awake_ev (Ev.const rfl))))
  · refine Ev.bind (Wise_bad h) ?_
    by_cases h1 : n < 1
    · exact Ev.ifPos h1 hj
    · refine Ev.ifNeg h1 ?_
      by_cases h2 : n > 6
      · exact Ev.ifPos h2 hj
      · refine Ev.ifNeg h2 ?_
        rw [Is_ok, Is_ok, Is_ok, Cost_ok]
        simp only [Option.bind_some]
        by_cases hg : okC gy go
        · rw [decide_eq_true hg]
          refine Ev.ifPos rfl ?_
          by_cases hb : okC by_ bo
          · rw [decide_eq_true hb]
            refine Ev.ifPos rfl ?_
            by_cases hw : okC wy wo
            · rw [decide_eq_true hw]
              refine Ev.ifPos rfl ?_
              by_cases hc : okW tk lv
              · rw [decide_eq_true hc]
                refine Ev.ifPos rfl ?_
                have hm : wrap64 (gy * bo) > wrap64 (by_ * go) := Int.not_le.mp (fun hm => h ⟨by omega, by omega, hg, hb, hw, hc, hm⟩)
                rw [decide_eq_true hm]
                exact hj
              · rw [decide_eq_false hc]; exact Ev.ifNeg (by decide) hj
            · rw [decide_eq_false hw]; exact Ev.ifNeg (by decide) hj
          · rw [decide_eq_false hb]; exact Ev.ifNeg (by decide) hj
        · rw [decide_eq_false hg]; exact Ev.ifNeg (by decide) hj
end Go.Proofs.Ytdppnmfljfdhaaa.Pure
