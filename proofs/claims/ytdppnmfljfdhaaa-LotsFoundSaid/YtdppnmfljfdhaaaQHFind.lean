/- What Find's call leaves: told by the results of the plans' chances. -/
import Derived.Test.YtdppnmfljfdhaaaQHTwice
import Derived.Test.YtdppnmfljfdhaaaQHTaken
import Derived.Test.YtdppnmfljfdhaaaQHSingle
import Derived.Test.YtdppnmfljfdhaaaQHChances
set_option linter.unusedVariables false
set_option linter.unusedSimpArgs false
namespace Go.Proofs.Ytdppnmfljfdhaaa.X
open Go.RowKit Go.Proofs.YtdppnmfljfdhaaaW.PrintWords Go.Proofs.YtdppnmfljfdhaaaW.PrintLast Go.Proofs.YtdppnmfljfdhaaaW.PrintMore
attribute [local go_sem] max2_int min2_int max_two min_two max_three min_three max_four min_four
attribute [local go_sem] Oper.semAt_some

/-- The first plan of n items, from c on, that C tells of. -/
def fC (C : Nat → Nat → Bool) (n : Nat) : Nat → Nat → Option (Nat × Nat)
  | 0, _ => none
  | d + 1, c => if C n c = true then some (n, c) else fC C n d (c + 1)
/-- The first plan of at least n items. -/
def fN (C : Nat → Nat → Bool) : Nat → Nat → Option (Nat × Nat)
  | 0, _ => none
  | d + 1, n => match fC C n n 0 with
    | some r => some r
    | none => fN C d (n + 1)
/-- A plan is good enough. -/
def fOk (x y : Int × Int) (ry ro ay ao : Int) : Bool := decide (wrap64 (wrap64 (x.2 - x.1) * ro) ≤ wrap64 (ry * x.2)) && decide (wrap64 (y.1 * ao) ≤ wrap64 (ay * y.2))
/-- What is still looked for, amid the plans of n items. -/
def fMid (C : Nat → Nat → Bool) (n c : Nat) : Option (Nat × Nat) := match fC C n (n - c) c with
    | some r => some r
    | none => fN C (12 - n) (n + 1)
theorem fN_out (C : Nat → Nat → Bool) (n : Nat) (h : 13 ≤ n) : fN C (13 - n) n = none := by rw [show 13 - n = 0 by omega]; rfl
theorem fN_step (C : Nat → Nat → Bool) (n : Nat) (h : n ≤ 12) : fN C (13 - n) n = fMid C n 0 := by rw [show 13 - n = (12 - n) + 1 by omega]; rfl
theorem fMid_out (C : Nat → Nat → Bool) (n : Nat) : fMid C n n = fN C (13 - (n + 1)) (n + 1) := by unfold fMid; rw [Nat.sub_self, show 13 - (n + 1) = 12 - n by omega]; rfl
theorem fMid_yes (C : Nat → Nat → Bool) (n c : Nat) (h : c < n) (hc : C n c = true) : fMid C n c = some (n, c) := by unfold fMid; rw [show n - c = (n - (c + 1)) + 1 by omega, fC, if_pos hc]
theorem fMid_no (C : Nat → Nat → Bool) (n c : Nat) (h : c < n) (hc : C n c = false) : fMid C n c = fMid C n (c + 1) := by unfold fMid; rw [show n - c = (n - (c + 1)) + 1 by omega, fC, if_neg (by rw [hc]; decide)]
theorem meas_n (n : Nat) (x : Int) (hx : x = ((n + 1 : Nat) : Int)) (h : n ≤ 12) : 13 - (intOf (.int .i64 x)).toNat < 13 - (intOf (.int .i64 (n : Int))).toNat := by
  subst hx
  simp only [intOf, Int.toNat_natCast]
  omega
theorem meas_c (n j : Nat) (x : Int) (hx : x = ((j + 1 : Nat) : Int)) (h : j < n) : n - (intOf (.int .i64 x)).toNat < n - (intOf (.int .i64 (j : Int))).toNat := by
  subst hx
  simp only [intOf, Int.toNat_natCast]
  omega
/-- The four chances, in a row. -/
theorem row4 {w0 W : World} {g : Nat} {a b c d e f p q : Int} (hb : Box w0 g #[.int .i64 a, .int .i64 b, .int .i64 c, .int .i64 d, .int .i64 e, .int .i64 f, .int .i64 p, .int .i64 q] 34 W) : Kd.C k34 W (some ⟨g, 0, none⟩) 4 [⟨a, b⟩, ⟨c, d⟩, ⟨e, f⟩, ⟨p, q⟩] := by
  refine ⟨rfl, by decide, fun _ => ⟨_, rfl, fun j x hj => ?_⟩⟩
  have hc : ∀ i u, ([.int .i64 a, .int .i64 b, .int .i64 c, .int .i64 d, .int .i64 e, .int .i64 f, .int .i64 p, .int .i64 q] : List Value)[i]? = some u → W.cell? (Addr.add ⟨g, 0, none⟩ i) = some u := by
    intro i u hu
    rw [add_plain]
    exact hb.cell i (by simpa using hu)
  match j, hj with
  | 0, hj =>
    obtain rfl : (⟨a, b⟩ : S34) = x := by simpa using hj
    refine ⟨_, rfl, k34_mk W ⟨a, b⟩, fun i u hu => hc _ _ ?_⟩
    match i, hu with
    | 0, hu => exact hu
    | 1, hu => exact hu
  | 1, hj =>
    obtain rfl : (⟨c, d⟩ : S34) = x := by simpa using hj
    refine ⟨_, rfl, k34_mk W ⟨c, d⟩, fun i u hu => hc _ _ ?_⟩
    match i, hu with
    | 0, hu => exact hu
    | 1, hu => exact hu
  | 2, hj =>
    obtain rfl : (⟨e, f⟩ : S34) = x := by simpa using hj
    refine ⟨_, rfl, k34_mk W ⟨e, f⟩, fun i u hu => hc _ _ ?_⟩
    match i, hu with
    | 0, hu => exact hu
    | 1, hu => exact hu
  | 3, hj =>
    obtain rfl : (⟨p, q⟩ : S34) = x := by simpa using hj
    refine ⟨_, rfl, k34_mk W ⟨p, q⟩, fun i u hu => hc _ _ ?_⟩
    match i, hu with
    | 0, hu => exact hu
    | 1, hu => exact hu
/-- What Find tells: r1, r2 and the error. -/
def FindIs (k : Nat) (gy go by_ bo ry ro ay ao r1 r2 e : Int) : Prop := (lots_chances.f [⟨gy, go⟩, ⟨by_, bo⟩, ⟨ry, ro⟩, ⟨ay, ao⟩] = some false ∧ r1 = 0 ∧ r2 = 0 ∧ e = 2) ∨
  (lots_chances.f [⟨gy, go⟩, ⟨by_, bo⟩, ⟨ry, ro⟩, ⟨ay, ao⟩] = some true ∧ ∃ X Y : Nat → Nat → Int × Int, (∀ n c : Nat, 1 ≤ n → n ≤ 12 → c < n → lots_single.f n c = some (singleT n c, singleL n c) ∧ lots_Taken.f k (singleT n c) (singleL n c) gy go = some ((X n c).1, (X n c).2, 0) ∧ lots_Taken.f k (singleT n c) (singleL n c) by_ bo = some ((Y n c).1, (Y n c).2, 0)) ∧
    ((∃ a b : Nat, fN (fun n c => fOk (X n c) (Y n c) ry ro ay ao) 12 1 = some (a, b) ∧ r1 = a ∧ r2 = b ∧ e = 0) ∨ (fN (fun n c => fOk (X n c) (Y n c) ry ro ay ao) 12 1 = none ∧ r1 = 0 ∧ r2 = 0 ∧ e = 4)))
set_option maxRecDepth 100000 in
set_option maxHeartbeats 16000000 in
theorem lots_Find.calls (k : Nat) (gy go by_ bo ry ro ay ao r1 r2 e0 : Int) (w : World) (h : FindIs k gy go by_ bo ry ro ay ao r1 r2 e0) :
    Calls Try.prog 50 #[.agg #[.int .i64 gy, .int .i64 go], .agg #[.int .i64 by_, .int .i64 bo], .agg #[.int .i64 ry, .int .i64 ro], .agg #[.int .i64 ay, .int .i64 ao]] w fun e w' => e = .returned (.tuple #[.agg #[.int .i64 r1, .int .i64 r2], .int .i64 e0]) ∧ Below w.heap.size w w' := by
  have hu34 := Try.underlying34
  have hu28 := Try.underlying28
  have hu32 := Try.underlying32
  have hu67 := Try.underlying67
  have HH := Aside0.mk h
  clear h
  have HB := Aside0.mk (below_alloc (below_alloc (below_alloc (below_alloc (below_alloc (Below.refl w.heap.size w) (.cells #[.int .i64 gy, .int .i64 go] 34)) (.cells #[.int .i64 by_, .int .i64 bo] 34)) (.cells #[.int .i64 ry, .int .i64 ro] 34)) (.cells #[.int .i64 ay, .int .i64 ao] 34)) (.cells #[.int .i64 0, .int .i64 0] 67))
  have B4 := Aside0.mk (((((Box.new (Below.refl w.heap.size w) #[.int .i64 gy, .int .i64 go] 34).alloc (.cells #[.int .i64 by_, .int .i64 bo] 34)).alloc (.cells #[.int .i64 ry, .int .i64 ro] 34)).alloc (.cells #[.int .i64 ay, .int .i64 ao] 34)).alloc (.cells #[.int .i64 0, .int .i64 0] 67))
  have B5 := Aside0.mk ((((Box.new (below_alloc (Below.refl w.heap.size w) (.cells #[.int .i64 gy, .int .i64 go] 34)) #[.int .i64 by_, .int .i64 bo] 34).alloc (.cells #[.int .i64 ry, .int .i64 ro] 34)).alloc (.cells #[.int .i64 ay, .int .i64 ao] 34)).alloc (.cells #[.int .i64 0, .int .i64 0] 67))
  have B6 := Aside0.mk (((Box.new (below_alloc (below_alloc (Below.refl w.heap.size w) (.cells #[.int .i64 gy, .int .i64 go] 34)) (.cells #[.int .i64 by_, .int .i64 bo] 34)) #[.int .i64 ry, .int .i64 ro] 34).alloc (.cells #[.int .i64 ay, .int .i64 ao] 34)).alloc (.cells #[.int .i64 0, .int .i64 0] 67))
  have B7 := Aside0.mk ((Box.new (below_alloc (below_alloc (below_alloc (Below.refl w.heap.size w) (.cells #[.int .i64 gy, .int .i64 go] 34)) (.cells #[.int .i64 by_, .int .i64 bo] 34)) (.cells #[.int .i64 ry, .int .i64 ro] 34)) #[.int .i64 ay, .int .i64 ao] 34).alloc (.cells #[.int .i64 0, .int .i64 0] 67))
  have B8 := Aside0.mk (Box.new (below_alloc (below_alloc (below_alloc (below_alloc (Below.refl w.heap.size w) (.cells #[.int .i64 gy, .int .i64 go] 34)) (.cells #[.int .i64 by_, .int .i64 bo] 34)) (.cells #[.int .i64 ry, .int .i64 ro] 34)) (.cells #[.int .i64 ay, .int .i64 ao] 34)) #[.int .i64 0, .int .i64 0] 67)
  simp only [World.size_alloc] at B5 B6 B7 B8
  have fB40_ := B4.out.cell 0 rfl
  have fB41_ := B4.out.cell 1 rfl
  have fB50_ := B5.out.cell 0 rfl
  have fB51_ := B5.out.cell 1 rfl
  have fB60_ := B6.out.cell 0 rfl
  have fB61_ := B6.out.cell 1 rfl
  have fB70_ := B7.out.cell 0 rfl
  have fB71_ := B7.out.cell 1 rfl
  go_enter Try.func50, Try.ntmps50
  go_wp2_with fail
  have BR := Aside0.mk (Box.new HB.out #[.int .i64 gy, .int .i64 go, .int .i64 by_, .int .i64 bo, .int .i64 ry, .int .i64 ro, .int .i64 ay, .int .i64 ao] 34)
  have HBA := Aside0.mk (below_alloc (Below.refl ((((((w.alloc (.cells #[.int .i64 gy, .int .i64 go] 34)).alloc (.cells #[.int .i64 by_, .int .i64 bo] 34)).alloc (.cells #[.int .i64 ry, .int .i64 ro] 34)).alloc (.cells #[.int .i64 ay, .int .i64 ao] 34)).alloc (.cells #[.int .i64 0, .int .i64 0] 67))).heap.size (((((w.alloc (.cells #[.int .i64 gy, .int .i64 go] 34)).alloc (.cells #[.int .i64 by_, .int .i64 bo] 34)).alloc (.cells #[.int .i64 ry, .int .i64 ro] 34)).alloc (.cells #[.int .i64 ay, .int .i64 ao] 34)).alloc (.cells #[.int .i64 0, .int .i64 0] 67))) (.cells #[.int .i64 gy, .int .i64 go, .int .i64 by_, .int .i64 bo, .int .i64 ry, .int .i64 ro, .int .i64 ay, .int .i64 ao] 34))
  have HC := Aside0.mk (row4 BR.out)
  clear BR
  simp only [World.size_alloc] at HC
  obtain ⟨okc, hch⟩ : ∃ okc, lots_chances.f [⟨gy, go⟩, ⟨by_, bo⟩, ⟨ry, ro⟩, ⟨ay, ao⟩] = some okc := ⟨_, rfl⟩
  have HCH := Aside0.mk hch
  clear hch
  refine (lots_chances.calls _ 4 [⟨gy, go⟩, ⟨by_, bo⟩, ⟨ry, ro⟩, ⟨ay, ao⟩] okc _ HC.out (Nat.le_refl 4) HCH.out).mono ?_
  rintro e w1 ⟨rfl, hb⟩
  have hb1 := below_step HBA.out hb
  clear fB40_ fB41_ fB50_ fB51_ fB60_ fB61_ fB70_ fB71_
  replace B4 := Aside0.mk (B4.out.below hb1)
  replace B5 := Aside0.mk (B5.out.below hb1)
  replace B6 := Aside0.mk (B6.out.below hb1)
  replace B7 := Aside0.mk (B7.out.below hb1)
  replace B8 := Aside0.mk (B8.out.below hb1)
  replace HB := Aside0.mk (below_step HB.out hb1)
  clear hb hb1 HBA HC
  have g8_ := B8.out.1
  cases okc with
  | false =>
    obtain ⟨rfl, rfl, rfl⟩ : r1 = 0 ∧ r2 = 0 ∧ e0 = 2 := by
      rcases HH.out with ⟨h1, h2⟩ | ⟨h1, h2⟩
      · exact h2
      · have := HCH.out.symm.trans h1; simp at this
    clear HH
    have c80 := B8.out.cell 0 rfl
    have c81 := B8.out.cell 1 rfl
    have f80 := B8.out.frozen 0
    have f81 := B8.out.frozen 1
    go_wp2_with fail
    refine bodyPost_ret (results_ct rfl _ _ (w.heap.size + 1 + 1 + 1 + 1) 67 #[.int .i64 0, .int .i64 0] (0, 0) _ rfl ((B8.out.put 0 _).put 1 _).2 Try.underlying67 rfl (by kernel_rfl)) rfl ⟨rfl, below_set' (below_set' HB.out g8_ _) g8_ _⟩
  | true =>
    obtain ⟨X, Y, hXY, hres⟩ : ∃ X Y : Nat → Nat → Int × Int, (∀ n c : Nat, 1 ≤ n → n ≤ 12 → c < n → lots_single.f n c = some (singleT n c, singleL n c) ∧ lots_Taken.f k (singleT n c) (singleL n c) gy go = some ((X n c).1, (X n c).2, 0) ∧ lots_Taken.f k (singleT n c) (singleL n c) by_ bo = some ((Y n c).1, (Y n c).2, 0)) ∧
      ((∃ a b : Nat, fN (fun n c => fOk (X n c) (Y n c) ry ro ay ao) 12 1 = some (a, b) ∧ r1 = a ∧ r2 = b ∧ e0 = 0) ∨ (fN (fun n c => fOk (X n c) (Y n c) ry ro ay ao) 12 1 = none ∧ r1 = 0 ∧ r2 = 0 ∧ e0 = 4)) := by
      rcases HH.out with ⟨h1, h2⟩ | ⟨h1, h2⟩
      · have := HCH.out.symm.trans h1; simp at this
      · exact h2
    have HXY := Aside0.mk hXY
    have HRES := Aside0.mk hres
    clear hXY hres HH HCH
    generalize hCd : (fun n c => fOk (X n c) (Y n c) ry ro ay ao) = Cd at HRES
    have HCD := Aside0.mk hCd
    clear hCd
    go_wp2_with fail
    go_loopw [10] (fun v10 W => ∃ n : Nat, v10 = .int .i64 (n : Int) ∧ 1 ≤ n ∧ n ≤ 13 ∧ Aside0 (fN Cd (13 - n) n = fN Cd 12 1) ∧ Aside0 (Below w1.heap.size w1 W)) (fun v10 _ => 13 - (intOf v10).toNat)
    case atStart => exact ⟨1, rfl, by omega, by omega, ⟨rfl⟩, ⟨Below.refl _ _⟩⟩
    case round =>
      obtain ⟨n, rfl, hn1, hn13, HF, HW⟩ := hrel
      by_cases hn : n ≤ 12
      · have hnb : decide ((n : Int) ≤ 12) = true := decide_eq_true (by omega)
        have HF2 : Aside0 (fMid Cd n 0 = fN Cd 12 1) := ⟨(fN_step Cd n hn).symm.trans HF.out⟩
        clear HF
        go_wp2_with fail
        clear hnb
        go_loopw [30] (fun v30 W => ∃ c : Nat, v30 = .int .i64 (c : Int) ∧ c ≤ n ∧ Aside0 (fMid Cd n c = fN Cd 12 1) ∧ Aside0 (Below w1.heap.size w1 W)) (fun v30 _ => n - (intOf v30).toNat)
        case atStart => exact ⟨0, rfl, by omega, HF2, HW⟩
        case round =>
          clear HF2 HW
          obtain ⟨c, rfl, hc, HM, HW⟩ := hrel
          replace B4 := Aside0.mk (B4.out.below HW.out)
          replace B5 := Aside0.mk (B5.out.below HW.out)
          replace B6 := Aside0.mk (B6.out.below HW.out)
          replace B7 := Aside0.mk (B7.out.below HW.out)
          replace B8 := Aside0.mk (B8.out.below HW.out)
          replace HB := Aside0.mk (below_step HB.out HW.out)
          by_cases hcn : c < n
          · have hcb : decide ((c : Int) < (n : Int)) = true := decide_eq_true (by omega)
            have hcp : ((c : Int) < (n : Int)) = True := eq_true (by omega)
            obtain ⟨hs, ht1, ht2⟩ := HXY.out n c hn1 hn hcn
            have HT1 := Aside0.mk ht1
            have HT2 := Aside0.mk ht2
            clear ht1 ht2
            go_wp2_with fail
            refine (lots_single.calls (n : Int) (c : Int) _ _ _ hs).mono ?_
            rintro e w3 ⟨v1, v2, rfl, ho0, ho1, hb⟩
            obtain ⟨A5, c5, rfl⟩ := Kd.R_slice ho0
            obtain ⟨A6, c6, rfl⟩ := Kd.R_slice ho1
            have HR0 := Aside0.mk (Kd.R_reads' ho0).2
            have HR1 := Aside0.mk (Kd.R_reads' ho1).2
            clear ho0 ho1 hs hcb hcp
            generalize singleT (n : Int) (c : Int) = T at HR0 HT1 HT2 ⊢
            generalize singleL (n : Int) (c : Int) = L at HR1 HT1 HT2 ⊢
            have HCc : Aside0 (Cd n c = fOk (X n c) (Y n c) ry ro ay ao) := ⟨by rw [← HCD.out]⟩
            generalize X n c = x at HT1 HCc
            generalize Y n c = y at HT2 HCc
            obtain ⟨x1, x2⟩ := x
            obtain ⟨y1, y2⟩ := y
            replace B4 := Aside0.mk (B4.out.below hb)
            replace B5 := Aside0.mk (B5.out.below hb)
            replace B6 := Aside0.mk (B6.out.below hb)
            replace B7 := Aside0.mk (B7.out.below hb)
            replace B8 := Aside0.mk (B8.out.below hb)
            replace HB := Aside0.mk (below_step HB.out hb)
            replace HW := Aside0.mk (below_step HW.out hb)
            clear hb
            have BPn := Aside0.mk (Box.new HB.out #[.slice none 0 0, .slice none 0 0] 32)
            have z0_ := BPn.out.cell 0 rfl
            have z1_ := BPn.out.cell 1 rfl
            have y0_ := BPn.out.frozen 0
            have y1_ := BPn.out.frozen 1
            have HN := Aside0.mk (box2 HB.out (.slice A5 T.length c5) (.slice A6 L.length c6) 32)
            have kB4_ := B4.out.below HN.out.1
            have fB40_ := kB4_.cell 0 rfl
            have fB41_ := kB4_.cell 1 rfl
            clear kB4_
            go_wp2_with fail
            refine (lots_Taken.calls k A5 c5 T A6 c6 L gy go x1 x2 0 _ (Kd.C_below HR0.out.2 HN.out.1) HR0.out.1 (Kd.C_below HR1.out.2 HN.out.1) HR1.out.1 HT1.out).mono ?_
            rintro e w4 ⟨rfl, hb⟩
            have hb4 := below_step HN.out.1 hb
            have B12 := Aside0.mk (HN.out.2.below hb)
            clear z0_ z1_ y0_ y1_ BPn HN hb
            clear fB40_ fB41_
            replace B4 := Aside0.mk (B4.out.below hb4)
            replace B5 := Aside0.mk (B5.out.below hb4)
            replace B6 := Aside0.mk (B6.out.below hb4)
            replace B7 := Aside0.mk (B7.out.below hb4)
            replace B8 := Aside0.mk (B8.out.below hb4)
            replace HR0 := Aside0.mk (And.intro HR0.out.1 (Kd.C_below HR0.out.2 hb4))
            replace HR1 := Aside0.mk (And.intro HR1.out.1 (Kd.C_below HR1.out.2 hb4))
            replace HB := Aside0.mk (below_step HB.out hb4)
            replace HW := Aside0.mk (below_step HW.out hb4)
            clear hb4 HT1
            have BXn := Aside0.mk (Box.new HB.out #[.int .i64 0, .int .i64 0] 28)
            have z0_ := BXn.out.cell 0 rfl
            have z1_ := BXn.out.cell 1 rfl
            have y0_ := BXn.out.frozen 0
            have y1_ := BXn.out.frozen 1
            have HN := Aside0.mk (box2 HB.out (.int .i64 x1) (.int .i64 x2) 28)
            have kB5_ := B5.out.below HN.out.1
            have fB50_ := kB5_.cell 0 rfl
            have fB51_ := kB5_.cell 1 rfl
            clear kB5_
            have kB12_ := B12.out.below HN.out.1
            have fB120_ := kB12_.cell 0 rfl
            have fB121_ := kB12_.cell 1 rfl
            clear kB12_
            go_wp2_with fail
            refine (lots_Taken.calls k A5 c5 T A6 c6 L by_ bo y1 y2 0 _ (Kd.C_below HR0.out.2 HN.out.1) HR0.out.1 (Kd.C_below HR1.out.2 HN.out.1) HR1.out.1 HT2.out).mono ?_
            rintro e w5 ⟨rfl, hb⟩
            have hb4 := below_step HN.out.1 hb
            have B13 := Aside0.mk (HN.out.2.below hb)
            clear z0_ z1_ y0_ y1_ BXn HN hb
            clear fB50_ fB51_ fB120_ fB121_
            replace B4 := Aside0.mk (B4.out.below hb4)
            replace B5 := Aside0.mk (B5.out.below hb4)
            replace B6 := Aside0.mk (B6.out.below hb4)
            replace B7 := Aside0.mk (B7.out.below hb4)
            replace B8 := Aside0.mk (B8.out.below hb4)
            replace HB := Aside0.mk (below_step HB.out hb4)
            replace HW := Aside0.mk (below_step HW.out hb4)
            clear hb4 HT2 HR0 HR1 B12
            have BYn := Aside0.mk (Box.new HB.out #[.int .i64 0, .int .i64 0] 28)
            have z0_ := BYn.out.cell 0 rfl
            have z1_ := BYn.out.cell 1 rfl
            have y0_ := BYn.out.frozen 0
            have y1_ := BYn.out.frozen 1
            have HN := Aside0.mk (box2 HB.out (.int .i64 y1) (.int .i64 y2) 28)
            have kB6_ := B6.out.below HN.out.1
            have fB60_ := kB6_.cell 0 rfl
            have fB61_ := kB6_.cell 1 rfl
            clear kB6_
            have kB7_ := B7.out.below HN.out.1
            have fB70_ := kB7_.cell 0 rfl
            have fB71_ := kB7_.cell 1 rfl
            clear kB7_
            have kB13_ := B13.out.below HN.out.1
            have fB130_ := kB13_.cell 0 rfl
            have fB131_ := kB13_.cell 1 rfl
            clear kB13_
            have fy0_ := HN.out.2.cell 0 rfl
            have fy1_ := HN.out.2.cell 1 rfl
            have k8_ := B8.out.below HN.out.1
            have c80 := k8_.cell 0 rfl
            have c81 := k8_.cell 1 rfl
            have f80 := k8_.frozen 0
            have f81 := k8_.frozen 1
            have HBN := Aside0.mk (below_step HB.out HN.out.1)
            have HWN := Aside0.mk (below_step HW.out HN.out.1)
            have HWR : Aside0 (wrap64 ((c : Int) + 1) = ((c + 1 : Nat) : Int)) := ⟨by unfold wrap64; omega⟩
            by_cases h1 : wrap64 (wrap64 (x2 - x1) * ro) ≤ wrap64 (ry * x2)
            · have h1b := decide_eq_true h1
              by_cases h2 : wrap64 (y1 * ao) ≤ wrap64 (ay * y2)
              · as_aux_lemma =>
                have h2b := decide_eq_true h2
                have hCt : Cd n c = true := by rw [HCc.out]; unfold fOk; dsimp only; rw [h1b, h2b]; rfl
                have hM := (fMid_yes Cd n c hcn hCt).symm.trans HM.out
                obtain ⟨rfl, rfl, rfl⟩ : r1 = (n : Int) ∧ r2 = (c : Int) ∧ e0 = 0 := by
                  rcases HRES.out with ⟨a, b, ha, hr⟩ | ⟨ha, hr⟩
                  · rw [← hM] at ha
                    injection ha with ha
                    injection ha with ha hb
                    subst ha
                    subst hb
                    exact hr
                  · rw [← hM] at ha
                    exact absurd ha (by simp)
                clear hM HRES HM HCc HCD HXY
                go_wp2_with fail
                refine bodyPost_ret (results_ct rfl _ _ (w.heap.size + 1 + 1 + 1 + 1) 67 #[.int .i64 (n : Int), .int .i64 (c : Int)] (0, 0) _ rfl ((k8_.put 0 _).put 1 _).2 Try.underlying67 rfl (by kernel_rfl)) rfl ⟨rfl, below_set' (below_set' HBN.out g8_ _) g8_ _⟩
              · as_aux_lemma =>
                have h2b := decide_eq_false h2
                have HM2 : Aside0 (fMid Cd n (c + 1) = fN Cd 12 1) := ⟨(fMid_no Cd n c hcn (by rw [HCc.out]; unfold fOk; dsimp only; rw [h2b, Bool.and_false])).symm.trans HM.out⟩
                go_wp2_with fail
                exact ⟨⟨c + 1, by first | rw [HWR.out] | (congr 1 <;> omega), hcn, HM2, HWN⟩, meas_c n c _ (by first | exact HWR.out | omega) hcn⟩
            · as_aux_lemma =>
              have h1b := decide_eq_false h1
              have HM2 : Aside0 (fMid Cd n (c + 1) = fN Cd 12 1) := ⟨(fMid_no Cd n c hcn (by rw [HCc.out]; unfold fOk; dsimp only; rw [h1b, Bool.false_and])).symm.trans HM.out⟩
              go_wp2_with fail
              exact ⟨⟨c + 1, by first | rw [HWR.out] | (congr 1 <;> omega), hcn, HM2, HWN⟩, meas_c n c _ (by first | exact HWR.out | omega) hcn⟩
          · as_aux_lemma =>
            have hcb : decide ((c : Int) < (n : Int)) = false := decide_eq_false (by omega)
            have hcp : ((c : Int) < (n : Int)) = False := eq_false (by omega)
            obtain rfl : c = n := by omega
            have HF3 : Aside0 (fN Cd (13 - (c + 1)) (c + 1) = fN Cd 12 1) := ⟨(fMid_out Cd c).symm.trans HM.out⟩
            have HWR : Aside0 (wrap64 ((c : Int) + 1) = ((c + 1 : Nat) : Int)) := ⟨by unfold wrap64; omega⟩
            go_wp2_with fail
            exact ⟨⟨c + 1, by first | rw [HWR.out] | (congr 1 <;> omega), by omega, by omega, HF3, HW⟩, meas_n c _ (by first | exact HWR.out | omega) hn⟩
      · as_aux_lemma =>
        have hnb : decide ((n : Int) ≤ 12) = false := decide_eq_false (by omega)
        have hF := (fN_out Cd n (by omega)).symm.trans HF.out
        obtain ⟨rfl, rfl, rfl⟩ : r1 = 0 ∧ r2 = 0 ∧ e0 = 4 := by
          rcases HRES.out with ⟨a, b, ha, hr⟩ | ⟨ha, hr⟩
          · rw [← hF] at ha
            exact absurd ha (by simp)
          · exact hr
        replace B8 := Aside0.mk (B8.out.below HW.out)
        replace HB := Aside0.mk (below_step HB.out HW.out)
        have c80 := B8.out.cell 0 rfl
        have c81 := B8.out.cell 1 rfl
        have f80 := B8.out.frozen 0
        have f81 := B8.out.frozen 1
        clear hF HF HRES
        go_wp2_with fail
        refine bodyPost_ret (results_ct rfl _ _ (w.heap.size + 1 + 1 + 1 + 1) 67 #[.int .i64 0, .int .i64 0] (0, 0) _ rfl ((B8.out.put 0 _).put 1 _).2 Try.underlying67 rfl (by kernel_rfl)) rfl ⟨rfl, below_set' (below_set' HB.out g8_ _) g8_ _⟩
end Go.Proofs.Ytdppnmfljfdhaaa.X
