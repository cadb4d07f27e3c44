/- Plain laws: what a plan's price is, the program's and the reference's. -/
import Derived.Test.YtdppnmfljfdhaaaQMChance
import Derived.Test.YtdppnmfljfdhaaaQHChances
import Derived.Test.YtdppnmfljfdhaaaQXlotsPrice
import Derived.Test.YtdppnmfljfdhaaaQX0
import Derived.Test.YtdppnmfljfdhaaaQXR
set_option linter.unusedVariables false
set_option linter.unusedSimpArgs false
namespace Go.Proofs.Ytdppnmfljfdhaaa.Pure
open Go.RowKit Go.Proofs.Ytdppnmfljfdhaaa.X Go.Proofs.YtdppnmfljfdhaaaW.PrintWords Go.Proofs.YtdppnmfljfdhaaaW.PrintLast Go.Proofs.YtdppnmfljfdhaaaW.PrintMore

/-- The number of an end that leaves the lot. -/
def ofLeft (e : S81) : Int := if e.f2 = 1 then 0 else 1
section
variable {l0 l1 : List Int} {y o : Int}
theorem all_ended (h : Ok l0 l1) : sI (fun k => ended l0 l1 y o k * o ^ (l0.length - k - 1)) l0.length = o ^ l0.length := by
  have h1 : sI (fun k => ended l0 l1 y o k * o ^ (l0.length - k - 1)) l0.length = sI (fun k => gg l0 l1 y o l0.length k - gg l0 l1 y o l0.length (k + 1)) l0.length :=
    sI_congr _ (fun k hk => by rw [gg_step _ _ _ _ _ _ hk])
  rw [h1, sI_tele, gg_zero, gg_last h]
  omega
theorem wL_left (h : Ok l0 l1) (y o : Int) : wL y o l0.length ofLeft (ends l0 l1 l0.length) = o ^ l0.length - sTaken l0 l1 y o := by
  rw [wL_ends l0 l1 y o _ _ h.most _ (Nat.le_refl _), ← all_ended (y := y) (o := o) h]
  unfold sTaken
  rw [← sI_sub]
  refine sI_congr _ (fun k hk => ?_)
  unfold ended
  rw [← sI_mul, ← sI_mul, ← sI_sub]
  refine sI_congr _ (fun b _ => ?_)
  unfold ofLeft eAt
  dsimp only
  by_cases h1 : aft l0 l1 ((k : Int) + 1) b = 1
  · rw [h1]; simp
  · rw [if_neg h1, if_neg h1]
    split <;> simp
end

/-! ### The cost of an end -/
section
variable {gy go by_ bo wy wo tk lv : Int}
def wOI (y o o' part : Int) (n k b : Nat) : Int := part * y ^ b * (o - y) ^ (k - b) * o ^ (n - k) * o' ^ n
theorem wOf_ev (y o y' o' part : Int) (n k b : Nat) (hn : n ≤ 12) (hbk : b ≤ k) (hkn : k ≤ n) (ho : 0 ≤ o ∧ o ≤ 12) (hy : 0 ≤ y ∧ y ≤ o) : Ev (fun r => wOf.f r y o y' o' part k b n) (wrap64 (wOI y o o' part n k b)) := by
  have a1 : wrap64 (o - y) = o - y := w_in (by omega) (by omega)
  have a2 : wrap64 ((k : Int) - b) = ((k - b : Nat) : Int) := by rw [w_in (by omega) (by omega)]; omega
  have a3 : wrap64 ((n : Int) - k) = ((n - k : Nat) : Int) := by rw [w_in (by omega) (by omega)]; omega
  unfold wOf.f
  rw [a1, a2, a3]
  refine Ev.bind (lots_power_ev y b (by omega) (by omega)) (Ev.bind (lots_power_ev (o - y) _ (by omega) (by omega)) (Ev.bind (lots_power_ev o _ (by omega) (by omega)) (Ev.bind (lots_power_ev o' n (by omega) (by omega)) (Ev.const ?_))))
  have key : ∀ a b c d e : Int, wrap64 (wrap64 (wrap64 (wrap64 (a * wrap64 b) * wrap64 c) * wrap64 d) * wrap64 e) = wrap64 (a * b * c * d * e) := fun a b c d e => by rw [w_mulr a b, w_mul (a * b) c, w_mul (a * b * c) d, w_mul (a * b * c * d) e]
  rw [key, show ((b : Int)).toNat = b by omega, show (((k - b : Nat) : Int)).toNat = k - b by omega, show (((n - k : Nat) : Int)).toNat = n - k by omega, show ((n : Int)).toNat = n by omega]
  rfl
def costI (gy go by_ bo wy wo tk lv : Int) (n : Nat) (e : S81) : Int :=
  (wOI gy go bo wy n e.f0.toNat e.f1.toNat + wOI by_ bo go (wo - wy) n e.f0.toNat e.f1.toNat) * e.f0 + (if e.f2 = 1 then wOI by_ bo go (wo - wy) n e.f0.toNat e.f1.toNat * tk else wOI gy go bo wy n e.f0.toNat e.f1.toNat * lv)
theorem cost_ev (n : Nat) (hn : n ≤ 12) (hg : okC gy go) (hb : okC by_ bo) (hw : okC wy wo) (e : S81) (he : Good n e) : Ev (fun r => lots_test_cost.f r gy go by_ bo wy wo tk lv e.f0 e.f1 e.f2 e.f3 n) (wrap64 (costI gy go by_ bo wy wo tk lv n e)) := by
  obtain ⟨k, b, e0, e1, hbk, hkn⟩ := he
  obtain ⟨g1, g2, g3, g4⟩ := hg
  obtain ⟨b1, b2, b3, b4⟩ := hb
  obtain ⟨w1, w2, w3, w4⟩ := hw
  have a1 : wrap64 (wo - wy) = wo - wy := w_in (by omega) (by omega)
  unfold lots_test_cost.f lots_test_weights.f costI
  rw [e0, e1, a1, show ((b : Int)).toNat = b by omega, show ((k : Int)).toNat = k by omega]
  have hu := wOf_ev gy go by_ bo wy n k b hn hbk hkn ⟨by omega, g2⟩ ⟨g3, g4⟩
  have hv := wOf_ev by_ bo gy go (wo - wy) n k b hn hbk hkn ⟨by omega, b2⟩ ⟨b3, b4⟩
  refine Ev.bind (Ev.bind hu (Ev.bind hv (f := fun _ v => some (wrap64 (wOI gy go bo wy n k b), v)) (Ev.const rfl))) ?_
  generalize wOI gy go bo wy n k b = u
  generalize wOI by_ bo go (wo - wy) n k b = v
  by_cases h1 : e.f2 = 1
  · refine Ev.ifPos h1 (Ev.const ?_)
    rw [if_pos h1, w_add u v, w_mull (u + v), w_mull v, w_add]
  · refine Ev.ifNeg h1 (Ev.const ?_)
    rw [if_neg h1, w_add u v, w_mull (u + v), w_mull u, w_add]
def wP (gy go by_ bo wy wo tk lv : Int) (n : Nat) : List S81 → Int
  | [] => 0
  | e :: L => e.f3 * costI gy go by_ bo wy wo tk lv n e + wP gy go by_ bo wy wo tk lv n L
theorem price_one (n : Nat) (e : S81) (he : Good n e) : e.f3 * costI gy go by_ bo wy wo tk lv n e =
    wy * bo ^ n * (wE gy go n ofLooks e + lv * wE gy go n ofLeft e) + (wo - wy) * go ^ n * (wE by_ bo n ofLooks e + tk * wE by_ bo n ofTaken e) := by
  obtain ⟨k, b, e0, e1, hbk, hkn⟩ := he
  unfold costI wE wOI ofLooks ofLeft ofTaken
  rw [e0, e1, show ((b : Int)).toNat = b by omega, show ((k : Int)).toNat = k by omega, show ((k : Int) - b).toNat = k - b by omega]
  generalize gy ^ b = p1
  generalize (go - gy) ^ (k - b) = p2
  generalize go ^ (n - k) = p3
  generalize go ^ n = p4
  generalize by_ ^ b = q1
  generalize (bo - by_) ^ (k - b) = q2
  generalize bo ^ (n - k) = q3
  generalize bo ^ n = q4
  generalize wo - wy = v
  by_cases h1 : e.f2 = 1
  · simp only [if_pos h1]; grind
  · simp only [if_neg h1]; grind
theorem price_sum (n : Nat) : ∀ L : List S81, (∀ e ∈ L, Good n e) → wP gy go by_ bo wy wo tk lv n L =
    wy * bo ^ n * (wL gy go n ofLooks L + lv * wL gy go n ofLeft L) + (wo - wy) * go ^ n * (wL by_ bo n ofLooks L + tk * wL by_ bo n ofTaken L)
  | [], _ => by simp [wP, wL]
  | e :: L, h => by
    have h1 := price_one (gy := gy) (go := go) (by_ := by_) (bo := bo) (wy := wy) (wo := wo) (tk := tk) (lv := lv) n e (h e (List.mem_cons_self))
    have h2 := price_sum n L (fun e' he' => h e' (List.mem_cons_of_mem _ he'))
    simp only [wP, wL]
    rw [h1, h2]
    generalize wy * bo ^ n = A
    generalize (wo - wy) * go ^ n = B
    grind
/-- The price's numerator. -/
def sP (l0 l1 : List Int) (gy go by_ bo wy wo tk lv : Int) : Int :=
  wy * bo ^ l0.length * (sLooks l0 l1 gy go + lv * (go ^ l0.length - sTaken l0 l1 gy go)) + (wo - wy) * go ^ l0.length * (sLooks l0 l1 by_ bo + tk * sTaken l0 l1 by_ bo)
theorem price_ends {l0 l1 : List Int} (h : Ok l0 l1) : wP gy go by_ bo wy wo tk lv l0.length (ends l0 l1 l0.length) = sP l0 l1 gy go by_ bo wy wo tk lv := by
  rw [price_sum _ _ (ends_good l0 l1 _ _ (Nat.le_refl _)), wL_looks h, wL_looks h, wL_left h, wL_taken _ _ _ _ h.most]
  rfl
def okW (tk lv : Int) : Prop := 0 ≤ tk ∧ tk ≤ 100 ∧ 0 ≤ lv ∧ lv ≤ 100
instance (tk lv : Int) : Decidable (okW tk lv) := by unfold okW; infer_instance
theorem pow6 (o : Int) (h1 : 1 ≤ o) (h : o ≤ 12) (n : Nat) (hn : n ≤ 6) : 1 ≤ o ^ n ∧ o ^ n ≤ 2985984 := by
  refine ⟨pow_pos' o h1 n, Int.le_trans (pow_le12 o (by omega) h n) ?_⟩
  have h : (12 : Nat) ^ n ≤ 12 ^ 6 := Nat.pow_le_pow_right (by omega) hn
  have e : ((12 ^ n : Nat) : Int) = (12 : Int) ^ n := by push_cast; rfl
  rw [← e]
  have : (12 : Nat) ^ 6 = 2985984 := by decide
  omega
theorem mul_le_of {a b c d : Int} (h0 : 0 ≤ a) (h1 : a ≤ c) (h2 : 0 ≤ b) (h3 : b ≤ d) : 0 ≤ a * b ∧ a * b ≤ c * d :=
  ⟨Int.mul_nonneg h0 h2, Int.le_trans (Int.mul_le_mul_of_nonneg_right h1 h2) (Int.mul_le_mul_of_nonneg_left h3 (by omega))⟩
theorem part_bound (w B A L x y' : Int) (hw : 0 ≤ w) (hw1 : w ≤ 12) (hB : 1 ≤ B) (hB1 : B ≤ 2985984) (hA : 1 ≤ A) (hA1 : A ≤ 2985984) (hL : 0 ≤ L) (hL1 : L ≤ 6 * A) (hx : 0 ≤ x) (hx1 : x ≤ 100) (hy : 0 ≤ y') (hy1 : y' ≤ A) : 0 ≤ w * B * (L + x * y') ∧ w * B * (L + x * y') ≤ 11341279770181632 := by
  have h1 := mul_le_of hw hw1 (show 0 ≤ B by omega) hB1
  have h2 := mul_le_of hx hx1 hy hy1
  have h3 := mul_le_of (d := 316514304) h1.1 h1.2 (show 0 ≤ L + x * y' by omega) (by omega)
  omega
theorem sP_bound {l0 l1 : List Int} (h : Ok l0 l1) (hn : l0.length ≤ 6) (hg : okC gy go) (hb : okC by_ bo) (hw : okC wy wo) (hc : okW tk lv) : 0 ≤ sP l0 l1 gy go by_ bo wy wo tk lv ∧ sP l0 l1 gy go by_ bo wy wo tk lv ≤ 22682559540363264 := by
  obtain ⟨g1, g2, g3, g4⟩ := hg
  obtain ⟨b1, b2, b3, b4⟩ := hb
  obtain ⟨w1, w2, w3, w4⟩ := hw
  obtain ⟨c1, c2, c3, c4⟩ := hc
  have pg := pow6 go g1 g2 l0.length hn
  have pb := pow6 bo b1 b2 l0.length hn
  have tg := sTaken_bound h g3 g4
  have tb := sTaken_bound h b3 b4
  have lg := sLooks_bound h g3 g4
  have lb := sLooks_bound h b3 b4
  have mg : (l0.length : Int) * go ^ l0.length ≤ 6 * go ^ l0.length := Int.mul_le_mul_of_nonneg_right (by omega) (by omega)
  have mb : (l0.length : Int) * bo ^ l0.length ≤ 6 * bo ^ l0.length := Int.mul_le_mul_of_nonneg_right (by omega) (by omega)
  have h1 := part_bound wy (bo ^ l0.length) (go ^ l0.length) (sLooks l0 l1 gy go) lv (go ^ l0.length - sTaken l0 l1 gy go) w3 (by omega) pb.1 pb.2 pg.1 pg.2 (by omega) (by omega) c3 c4 (by omega) (by omega)
  have h2 := part_bound (wo - wy) (go ^ l0.length) (bo ^ l0.length) (sLooks l0 l1 by_ bo) tk (sTaken l0 l1 by_ bo) (by omega) (by omega) pg.1 pg.2 pb.1 pb.2 (by omega) (by omega) c1 c2 (by omega) (by omega)
  unfold sP
  omega
theorem whole_bound (n : Nat) (hn : n ≤ 6) (hg : okC gy go) (hb : okC by_ bo) (hw : okC wy wo) : 1 ≤ wo * go ^ n * bo ^ n ∧ wo * go ^ n * bo ^ n ≤ 106993205379072 := by
  have pg := pow6 go hg.1 hg.2.1 n hn
  have pb := pow6 bo hb.1 hb.2.1 n hn
  have h1 := mul_le_of (show 0 ≤ wo by have := hw.1; omega) hw.2.1 (show 0 ≤ go ^ n by omega) pg.2
  have h2 := mul_le_of h1.1 h1.2 (show 0 ≤ bo ^ n by omega) pb.2
  have h3 : 0 < wo * go ^ n * bo ^ n := Int.mul_pos (Int.mul_pos (by have := hw.1; omega) (by omega)) (by omega)
  omega
theorem whole_ev (n : Nat) (hn : n ≤ 12) : Ev (fun r => lots_test_whole.f r gy go by_ bo wy wo tk lv n) (wrap64 (wo * go ^ n * bo ^ n)) := by
  unfold lots_test_whole.f
  refine Ev.bind (lots_power_ev go n (by omega) (by omega)) (Ev.bind (lots_power_ev bo n (by omega) (by omega)) (Ev.const ?_))
  rw [show ((n : Int)).toNat = n by omega, w_mulr wo, w_mul]
theorem price_go (n : Nat) (hn : n ≤ 12) (hg : okC gy go) (hb : okC by_ bo) (hw : okC wy wo) (L : List S81) (hL : ∀ e ∈ L, Good n e) (hl : L.length < 1000) (R : Int × Int × Int)
    (hR : Ev (fun k => (lots_test_whole.f k gy go by_ bo wy wo tk lv n).bind fun t532 => ((lots_frac.f k (wrap64 (wP gy go by_ bo wy wo tk lv n L)) t532).bind fun bt533 => (some (bt533.1, bt533.2, (0 : Int))))) R) :
    ∀ d i : Nat, i + d = L.length → ∀ s : Int, s + wP gy go by_ bo wy wo tk lv n (L.drop i) = wP gy go by_ bo wy wo tk lv n L → Ev (fun k => lots_Price.l0 k n (wrap64 s) L L.length i gy go by_ bo wy wo tk lv) R := by
  intro d
  induction d with
  | zero =>
    intro i hi s hs
    rw [List.drop_eq_nil_of_le (by omega)] at hs
    simp only [wP, Int.add_zero] at hs
    rw [hs]
    exact Ev.succ hR (fun k => by rw [lots_Price.l0, if_neg (by omega)])
  | succ d ih =>
    intro i hi s hs
    have hlt : i < L.length := by omega
    have hd : L.drop i = rd_T81 L i :: L.drop (i + 1) := by rw [List.drop_eq_getElem_cons hlt]; simp [rd_T81, hlt]
    have hm : rd_T81 L i ∈ L := by simp only [rd_T81, Int.toNat_natCast, List.getD_eq_getElem?_getD, List.getElem?_eq_getElem hlt]; exact List.getElem_mem hlt
    rw [hd] at hs
    simp only [wP] at hs
    have e2 : wrap64 ((i : Int) + 1) = ((i + 1 : Nat) : Int) := by rw [w_in (by omega) (by omega)]; omega
    have hI := ih (i + 1) (by omega) (s + (rd_T81 L i).f3 * costI gy go by_ bo wy wo tk lv n (rd_T81 L i)) (by omega)
    refine Ev.succ (g := fun k => (lots_test_cost.f k gy go by_ bo wy wo tk lv (rd_T81 L i).f0 (rd_T81 L i).f1 (rd_T81 L i).f2 (rd_T81 L i).f3 n).bind fun t531 => lots_Price.l0 k n (wrap64 ((wrap64 s) + (wrap64 (((rd_T81 L i).f3) * t531)))) L L.length (wrap64 ((i : Int) + 1)) gy go by_ bo wy wo tk lv) ?_ (fun k => by
      rw [lots_Price.l0, if_pos (by omega), if_pos (by omega), if_pos (by omega)])
    refine Ev.bind (cost_ev n hn hg hb hw _ (hL _ hm)) ?_
    rw [w_mulr, w_add, e2]
    exact hI
theorem test_ok : lots_test_valid.f gy go by_ bo wy wo tk lv = some (decide (okC gy go ∧ okC by_ bo ∧ okC wy wo ∧ okW tk lv)) := by
  unfold lots_test_valid.f lots_chances.f
  simp only [Option.bind_some, List.all_cons, List.all_nil, Bool.and_true]
  have e : ∀ y o : Int, okCb y o = decide (okC y o) := fun y o => rfl
  rw [e, e, e]
  by_cases h1 : okC gy go ∧ okC by_ bo ∧ okC wy wo
  · obtain ⟨h1, h2, h3⟩ := h1
    rw [decide_eq_true h1, decide_eq_true h2, decide_eq_true h3]
    simp only [Bool.and_true, if_true]
    unfold mn mx okW
    by_cases h4 : 0 ≤ tk ∧ tk ≤ 100 ∧ 0 ≤ lv ∧ lv ≤ 100
    · rw [if_pos (by split <;> omega), decide_eq_true (by split <;> omega), decide_eq_true ⟨h1, h2, h3, h4⟩]
    · rw [decide_eq_false (p := okC gy go ∧ _) (fun h => h4 h.2.2.2)]
      repeat' split
      all_goals first
        | rfl
        | (simp only [Option.some.injEq]; apply decide_eq_false; omega)
  · rw [if_neg, decide_eq_false (fun h => h1 ⟨h.1, h.2.1, h.2.2.1⟩)]
    simp only [Bool.and_eq_true, decide_eq_true_eq]
    exact h1
theorem Cost_ok (tk lv : Int) : comfitref02_Cost.f tk lv = some (decide (okW tk lv)) := by
  unfold comfitref02_Cost.f okW
  repeat' split
  all_goals simp only [Option.some.injEq]
  all_goals first
    | (symm; apply decide_eq_false; omega)
    | (apply decide_eq_decide.2; omega)
theorem ends_length (l0 l1 : List Int) (n : Nat) (hn : n ≤ 12) : (ends l0 l1 n).length < 1000 := by
  have hK : ∀ k m : Nat, (enK l0 l1 k m).length ≤ m := by
    intro k m
    induction m with
    | zero => simp [enK]
    | succ m ih =>
      rw [enK_succ]
      split
      · rw [List.length_append, List.length_singleton]; omega
      · omega
  have h : ∀ k : Nat, k ≤ 12 → (ends l0 l1 k).length ≤ k * 14 := by
    intro k
    induction k with
    | zero => intro _; simp [ends]
    | succ k ih =>
      intro hk
      have := ih (by omega)
      have := hK k (k + 2)
      show (ends l0 l1 k ++ enK l0 l1 k (k + 2)).length ≤ _
      rw [List.length_append]
      omega
  have := h n hn
  omega
def priceA (l0 l1 : List Int) (gy go by_ bo wy wo tk lv : Int) : Int × Int := fr (Rat.divInt (sP l0 l1 gy go by_ bo wy wo tk lv) (wo * go ^ l0.length * bo ^ l0.length))
theorem Price_ev {l0 l1 : List Int} (h : Ok l0 l1) (hn : l0.length ≤ 6) (hg : okC gy go) (hb : okC by_ bo) (hw : okC wy wo) (hc : okW tk lv) : Ev (fun k => lots_Price.f k l0 l1 gy go by_ bo wy wo tk lv) ((priceA l0 l1 gy go by_ bo wy wo tk lv).1, (priceA l0 l1 gy go by_ bo wy wo tk lv).2, 0) := by
  have hs := sP_bound h hn hg hb hw hc
  have hW := whole_bound l0.length hn hg hb hw
  have hm := h.most
  unfold lots_Price.f
  refine Ev.bind (valid_ev l0 l1) ?_
  rw [(okP_iff l0 l1).2 h, test_ok, decide_eq_true ⟨hg, hb, hw, hc⟩]
  refine Ev.ifPos rfl ?_
  simp only [Option.bind_some, if_true]
  rw [decide_eq_false (by omega)]
  refine Ev.succ (g := fun k => lots_Price.l0 k l0.length (wrap64 0) (ends l0 l1 l0.length) ((ends l0 l1 l0.length).length : Int) ((0 : Nat) : Int) gy go by_ bo wy wo tk lv) ?_ (fun k => by
    rw [lots_Price.j0, if_neg (by decide)]
    unfold lots_Plan_ends.f
    rw [if_pos ⟨h.same, hm⟩, w_zero]
    rfl)
  refine price_go l0.length hm hg hb hw _ (ends_good l0 l1 _ _ (Nat.le_refl _)) (ends_length l0 l1 _ hm) _ ?_ _ 0 (Nat.zero_add _) 0 (by rw [List.drop_zero, Int.zero_add])
  refine Ev.bind (whole_ev l0.length hm) ?_
  rw [price_ends h, w_in (n := sP _ _ _ _ _ _ _ _ _ _) (by omega) (by omega), w_in (n := wo * _ * _) (by omega) (by omega)]
  exact Ev.bind (lots_frac_ev _ _ (by omega) (by omega) (by omega) (by omega)) (Ev.const rfl)
theorem Price_no {l0 l1 : List Int} (h : ¬ (okP l0 l1 = true ∧ l0.length ≤ 6 ∧ okC gy go ∧ okC by_ bo ∧ okC wy wo ∧ okW tk lv)) : Ev (fun k => lots_Price.f k l0 l1 gy go by_ bo wy wo tk lv) (0, 0, 2) := by
  have hj : Ev (fun k => lots_Price.j0 k l0.length true l0 l1 gy go by_ bo wy wo tk lv) (0, 0, 2) :=
    Ev.succ (g := fun _ => some (0, 0, 2)) (Ev.const rfl) (fun k => by rw [lots_Price.j0, if_pos rfl])
  unfold lots_Price.f
  refine Ev.bind (valid_ev l0 l1) ?_
  rw [test_ok]
  simp only [Option.bind_some]
  cases ho : okP l0 l1 with
  | false => exact Ev.ifNeg (by decide) hj
  | true =>
    refine Ev.ifPos rfl ?_
    by_cases ht : okC gy go ∧ okC by_ bo ∧ okC wy wo ∧ okW tk lv
    · rw [decide_eq_true ht]
      refine Ev.ifPos rfl ?_
      rw [decide_eq_true (Int.not_le.1 (fun hh => h ⟨ho, by omega, ht⟩))]
      exact hj
    · rw [decide_eq_false ht]
      exact Ev.ifNeg (by decide) hj
end
end Go.Proofs.Ytdppnmfljfdhaaa.Pure
