/- What a call of the reference's Find leaves: told by the results of the plans' chances. -/
import Derived.Test.YtdppnmfljfdhaaaQHFind
import Derived.Test.YtdppnmfljfdhaaaQXcomfitref02Single
import Derived.Test.YtdppnmfljfdhaaaQXcomfitref02Taken
set_option linter.unusedVariables false
set_option linter.unusedSimpArgs false
namespace Go.Proofs.Ytdppnmfljfdhaaa.X
open Go.RowKit Go.Proofs.YtdppnmfljfdhaaaW.PrintWords Go.Proofs.YtdppnmfljfdhaaaW.PrintLast Go.Proofs.YtdppnmfljfdhaaaW.PrintMore
attribute [local go_sem] max2_int min2_int max_two min_two max_three min_three max_four min_four
attribute [local go_sem] Oper.semAt_some

/-- What the reference's Find tells: r1, r2 and the error. -/
def RFindIs (k : Nat) (gy go by_ bo ry ro ay ao r1 r2 e : Int) : Prop := ∃ X Y : Nat → Nat → Int × Int, (∀ n c : Nat, 1 ≤ n → n ≤ 12 → c < n → comfitref02_Single.f k n c = some (singleT n c, singleL n c) ∧ comfitref02_Taken.f k (singleT n c) (singleL n c) gy go = some ((X n c).1, (X n c).2) ∧ comfitref02_Taken.f k (singleT n c) (singleL n c) by_ bo = some ((Y n c).1, (Y n c).2)) ∧
    ((∃ a b : Nat, fN (fun n c => fOk (X n c) (Y n c) ry ro ay ao) 12 1 = some (a, b) ∧ r1 = a ∧ r2 = b ∧ e = 0) ∨ (fN (fun n c => fOk (X n c) (Y n c) ry ro ay ao) 12 1 = none ∧ r1 = 0 ∧ r2 = 0 ∧ e = 4))
/-- Three variables of two cells, and what lay before. -/
def C3 (g : Nat) (u0 u1 : Value) (g' : Nat) (u2 u3 : Value) (g2 : Nat) (u4 u5 : Value) (w w7 W : World) : Prop := W.cell? ⟨g, 0, none⟩ = some u0 ∧ W.cell? ⟨g, 1, none⟩ = some u1 ∧ W.cell? ⟨g', 0, none⟩ = some u2 ∧ W.cell? ⟨g', 1, none⟩ = some u3 ∧
  W.cell? ⟨g2, 0, none⟩ = some u4 ∧ W.cell? ⟨g2, 1, none⟩ = some u5 ∧ Below w.heap.size w W ∧ Below w7.heap.size w7 W
section
variable {g g' g2 : Nat} {u0 u1 u2 u3 u4 u5 : Value} {w w7 W W1 : World}
theorem cell_keep3 {a : Addr} {u : Value} (h : W.cell? a = some u) (hb : Below W.heap.size W W1) : W1.cell? a = some u := (hb.cell (World.block_lt_of_cell? W _ h)).trans h
theorem C3.below (h : C3 g u0 u1 g' u2 u3 g2 u4 u5 w w7 W) (hb : Below W.heap.size W W1) : C3 g u0 u1 g' u2 u3 g2 u4 u5 w w7 W1 := by
  obtain ⟨h0, h1, h2, h3, h4, h5, h6, h7⟩ := h
  exact ⟨cell_keep3 h0 hb, cell_keep3 h1 hb, cell_keep3 h2 hb, cell_keep3 h3 hb, cell_keep3 h4 hb, cell_keep3 h5 hb, below_step h6 hb, below_step h7 hb⟩
theorem c3_of {t0 t1 t2 : TypeId} {x0 x1 x2 : World} (h0 : Box x0 g #[u0, u1] t0 W) (h1 : Box x1 g' #[u2, u3] t1 W) (h2 : Box x2 g2 #[u4, u5] t2 W) (hb : Below w.heap.size w W) (hw : Below W.heap.size W W1) : C3 g u0 u1 g' u2 u3 g2 u4 u5 w W W1 :=
  ⟨(h0.below hw).cell 0 rfl, (h0.below hw).cell 1 rfl, (h1.below hw).cell 0 rfl, (h1.below hw).cell 1 rfl, (h2.below hw).cell 0 rfl, (h2.below hw).cell 1 rfl, below_step hb hw, hw⟩
end
def rfiT.T8 : Bool × List (List Nat × List Nat) := (true, [([], []), ([], []), ([0, 1], [0, 1]), ([], []), ([], []), ([3, 4, 2], [3, 4]), ([], []), ([], []), ([6, 2, 5, 0, 1, 2, 6, 7], [2, 6]), ([7, 5, 8, 0, 1, 2, 3, 4, 5, 6, 7, 8], [5, 7])])
def rfiT.B8 : List Nat := [0, 0, 3, 0, 0, 31, 0, 0, 255, 511]
theorem rfiT.tab8 : rtab .any (opsOf Try.f51 8) = rfiT.T8 := by kernel_rfl
theorem rfiT.bits8 : waitsOk rfiT.T8.2 rfiT.B8 = true := by kernel_rfl
set_option maxRecDepth 100000 in
set_option maxHeartbeats 16000000 in
theorem comfitref02_Find.calls (k : Nat) (gy go by_ bo ry ro ay ao r1 r2 e0 : Int) (w : World) (h : RFindIs k gy go by_ bo ry ro ay ao r1 r2 e0) :
    Calls Try.prog 51 #[.agg #[.int .i64 gy, .int .i64 go], .agg #[.int .i64 by_, .int .i64 bo], .agg #[.int .i64 ry, .int .i64 ro], .agg #[.int .i64 ay, .int .i64 ao]] w fun e w' => e = .returned (.tuple #[.agg #[.int .i64 r1, .int .i64 r2], .int .i64 e0]) ∧ Below w.heap.size w w' := by
  have hu26 := Try.underlying26
  have hu28 := Try.underlying28
  have hu24 := Try.underlying24
  have hu67 := Try.underlying67
  have HH := Aside0.mk h
  clear h
  have HB := Aside0.mk (below_alloc (below_alloc (below_alloc (below_alloc (below_alloc (Below.refl w.heap.size w) (.cells #[.int .i64 gy, .int .i64 go] 26)) (.cells #[.int .i64 by_, .int .i64 bo] 26)) (.cells #[.int .i64 ry, .int .i64 ro] 26)) (.cells #[.int .i64 ay, .int .i64 ao] 26)) (.cells #[.int .i64 0, .int .i64 0] 67))
  have B4 := Aside0.mk (((((Box.new (Below.refl w.heap.size w) #[.int .i64 gy, .int .i64 go] 26).alloc (.cells #[.int .i64 by_, .int .i64 bo] 26)).alloc (.cells #[.int .i64 ry, .int .i64 ro] 26)).alloc (.cells #[.int .i64 ay, .int .i64 ao] 26)).alloc (.cells #[.int .i64 0, .int .i64 0] 67))
  have B5 := Aside0.mk ((((Box.new (below_alloc (Below.refl w.heap.size w) (.cells #[.int .i64 gy, .int .i64 go] 26)) #[.int .i64 by_, .int .i64 bo] 26).alloc (.cells #[.int .i64 ry, .int .i64 ro] 26)).alloc (.cells #[.int .i64 ay, .int .i64 ao] 26)).alloc (.cells #[.int .i64 0, .int .i64 0] 67))
  have B6 := Aside0.mk (((Box.new (below_alloc (below_alloc (Below.refl w.heap.size w) (.cells #[.int .i64 gy, .int .i64 go] 26)) (.cells #[.int .i64 by_, .int .i64 bo] 26)) #[.int .i64 ry, .int .i64 ro] 26).alloc (.cells #[.int .i64 ay, .int .i64 ao] 26)).alloc (.cells #[.int .i64 0, .int .i64 0] 67))
  have B7 := Aside0.mk ((Box.new (below_alloc (below_alloc (below_alloc (Below.refl w.heap.size w) (.cells #[.int .i64 gy, .int .i64 go] 26)) (.cells #[.int .i64 by_, .int .i64 bo] 26)) (.cells #[.int .i64 ry, .int .i64 ro] 26)) #[.int .i64 ay, .int .i64 ao] 26).alloc (.cells #[.int .i64 0, .int .i64 0] 67))
  have B8 := Aside0.mk (Box.new (below_alloc (below_alloc (below_alloc (below_alloc (Below.refl w.heap.size w) (.cells #[.int .i64 gy, .int .i64 go] 26)) (.cells #[.int .i64 by_, .int .i64 bo] 26)) (.cells #[.int .i64 ry, .int .i64 ro] 26)) (.cells #[.int .i64 ay, .int .i64 ao] 26)) #[.int .i64 0, .int .i64 0] 67)
  simp only [World.size_alloc] at B5 B6 B7 B8
  go_enter Try.func51, Try.ntmps51
  obtain ⟨X, Y, hXY, hres⟩ := HH.out
  clear HH
  have g8_ := B8.out.1
  have HXY := Aside0.mk hXY
  have HRES := Aside0.mk hres
  clear hXY hres
  generalize hCd : (fun n c => fOk (X n c) (Y n c) ry ro ay ao) = Cd at HRES
  have HCD := Aside0.mk hCd
  clear hCd
  go_wp2_with fail
  generalize (World.alloc _ (.cells #[.int .i64 0, .int .i64 0] 67)) = w1 at B4 B5 B6 B7 B8 HB ⊢
  go_loopw [10] (fun v10 W => ∃ n : Nat, v10 = .int .i64 (n : Int) ∧ 1 ≤ n ∧ n ≤ 13 ∧ Aside0 (fN Cd (13 - n) n = fN Cd 12 1) ∧ Aside0 (Below w1.heap.size w1 W)) (fun v10 _ => 13 - (intOf v10).toNat)
  case atStart => exact ⟨1, rfl, by omega, by omega, ⟨rfl⟩, ⟨Below.refl _ _⟩⟩
  case round =>
    obtain ⟨n, rfl, hn1, hn13, HF, HW⟩ := hrel
    by_cases hn : n ≤ 12
    · have hnb : decide ((n : Int) ≤ 12) = true := decide_eq_true (by omega)
      have HF2 : Aside0 (fMid Cd n 0 = fN Cd 12 1) := ⟨(fN_step Cd n hn).symm.trans HF.out⟩
      clear HF
      go_wp2_with fail
      clear hnb
      go_loopw [20] (fun v20 W => ∃ c : Nat, v20 = .int .i64 (c : Int) ∧ c ≤ n ∧ Aside0 (fMid Cd n c = fN Cd 12 1) ∧ Aside0 (Below w1.heap.size w1 W)) (fun v20 _ => n - (intOf v20).toNat)
      case atStart => exact ⟨0, rfl, by omega, HF2, HW⟩
      case round =>
        clear HF2 HW
        obtain ⟨c, rfl, hc, HM, HW⟩ := hrel
        replace B4 := Aside0.mk (B4.out.below HW.out)
        replace B5 := Aside0.mk (B5.out.below HW.out)
        replace B6 := Aside0.mk (B6.out.below HW.out)
        replace B7 := Aside0.mk (B7.out.below HW.out)
        replace B8 := Aside0.mk (B8.out.below HW.out)
        replace HB := Aside0.mk (below_step HB.out HW.out)
        by_cases hcn : c < n
        · have hcb : decide ((c : Int) < (n : Int)) = true := decide_eq_true (by omega)
          have hcp : ((c : Int) < (n : Int)) = True := eq_true (by omega)
          obtain ⟨hs, ht1, ht2⟩ := HXY.out n c hn1 hn hcn
          have HT1 := Aside0.mk ht1
          have HT2 := Aside0.mk ht2
          clear ht1 ht2
          go_wp2_with fail
          refine (comfitref02_Single.calls k (n : Int) (c : Int) _ _ _ hs).mono ?_
          rintro e w3 ⟨v1, v2, rfl, ho0, ho1, hb⟩
          obtain ⟨A5, c5, rfl⟩ := Kd.R_slice ho0
          obtain ⟨A6, c6, rfl⟩ := Kd.R_slice ho1
          have HR0 := Aside0.mk (Kd.R_reads' ho0).2
          have HR1 := Aside0.mk (Kd.R_reads' ho1).2
          clear ho0 ho1 hs hcb hcp
          generalize singleT (n : Int) (c : Int) = T at HR0 HT1 HT2 ⊢
          generalize singleL (n : Int) (c : Int) = L at HR1 HT1 HT2 ⊢
          have HCc : Aside0 (Cd n c = fOk (X n c) (Y n c) ry ro ay ao) := ⟨by rw [← HCD.out]⟩
          generalize X n c = x at HT1 HCc
          generalize Y n c = y at HT2 HCc
          obtain ⟨x1, x2⟩ := x
          obtain ⟨y1, y2⟩ := y
          replace B4 := Aside0.mk (B4.out.below hb)
          replace B5 := Aside0.mk (B5.out.below hb)
          replace B6 := Aside0.mk (B6.out.below hb)
          replace B7 := Aside0.mk (B7.out.below hb)
          replace B8 := Aside0.mk (B8.out.below hb)
          replace HB := Aside0.mk (below_step HB.out hb)
          replace HW := Aside0.mk (below_step HW.out hb)
          clear hb
          have BPn := Aside0.mk (Box.new HB.out #[.slice none 0 0, .slice none 0 0] 24)
          have z0_ := BPn.out.cell 0 rfl
          have z1_ := BPn.out.cell 1 rfl
          have y0_ := BPn.out.frozen 0
          have y1_ := BPn.out.frozen 1
          have HN := Aside0.mk (box2 HB.out (.slice A5 T.length c5) (.slice A6 L.length c6) 24)
          go_wp2_with fail
          have B12 := Aside0.mk HN.out.2
          have hba := HN.out.1
          clear z0_ z1_ y0_ y1_ BPn HN
          generalize (w3.alloc _) = w6 at B12 hba ⊢
          replace B4 := Aside0.mk (B4.out.below hba)
          replace B5 := Aside0.mk (B5.out.below hba)
          replace B6 := Aside0.mk (B6.out.below hba)
          replace B7 := Aside0.mk (B7.out.below hba)
          replace B8 := Aside0.mk (B8.out.below hba)
          replace HR0 := Aside0.mk (And.intro HR0.out.1 (Kd.C_below HR0.out.2 hba))
          replace HR1 := Aside0.mk (And.intro HR1.out.1 (Kd.C_below HR1.out.2 hba))
          replace HB := Aside0.mk (below_step HB.out hba)
          replace HW := Aside0.mk (below_step HW.out hba)
          clear hba
          refine start_ (n := 10) (S := C3 w3.heap.size (.slice A5 T.length c5) (.slice A6 L.length c6) w.heap.size (.int .i64 gy) (.int .i64 go) (w.heap.size + 1) (.int .i64 by_) (.int .i64 bo) w w6) (ds := []) #[false, false, false, false, false, false, false, false, false, false] (by kernel_rfl) rfl rfl (c3_of B12.out B4.out B5.out HB.out (below_drew (Below.refl _ _))) (fun hHeld => ?_)
          refine with_tabW rfiT.tab8 rfiT.bits8 (fun HT_ HW_ => ?_)
          generalize (World.drew _) = w7 at hHeld ⊢
          refine take_ (i := 0) (N := some 26) (v := ?_) (a' := ?_) #[true, false, false, false, false, false, false, false, false, false] rfl rfl (take_ofW HT_.out HW_.out (by kernel_rfl)) (fun _ _ _ h => h) (Or.inl ⟨by rfl, ?_⟩) hHeld ?_ ?_
          rotate_left
          · rintro w' ⟨s0, s1, s2, s3, s4, s5, s6, s7⟩
            go_simp
            with_reducible rfl
          rotate_left
          · simp only [Act.put, List.setIfInBounds_toArray, List.set_cons_zero, List.set_cons_succ, i64_w, i32_w]
            rfl
          refine take_ (i := 1) (N := some 27) (v := ?_) (a' := ?_) #[true, true, false, false, false, false, false, false, false, false] rfl rfl (take_ofW HT_.out HW_.out (by kernel_rfl)) (fun _ _ _ h => h) (Or.inl ⟨by rfl, ?_⟩) hHeld ?_ ?_
          rotate_left
          · rintro w' ⟨s0, s1, s2, s3, s4, s5, s6, s7⟩
            go_simp
            with_reducible rfl
          rotate_left
          · simp only [Act.put, List.setIfInBounds_toArray, List.set_cons_zero, List.set_cons_succ, i64_w, i32_w]
            rfl
          refine take_ (i := 3) (N := some 29) (v := ?_) (a' := ?_) #[true, true, false, true, false, false, false, false, false, false] rfl rfl (take_ofW HT_.out HW_.out (by kernel_rfl)) (fun _ _ _ h => h) (Or.inl ⟨by rfl, ?_⟩) hHeld ?_ ?_
          rotate_left
          · rintro w' ⟨s0, s1, s2, s3, s4, s5, s6, s7⟩
            go_simp
            with_reducible rfl
          rotate_left
          · simp only [Act.put, List.setIfInBounds_toArray, List.set_cons_zero, List.set_cons_succ, i64_w, i32_w]
            rfl
          refine take_ (i := 4) (N := some 30) (v := ?_) (a' := ?_) #[true, true, false, true, true, false, false, false, false, false] rfl rfl (take_ofW HT_.out HW_.out (by kernel_rfl)) (fun _ _ _ h => h) (Or.inl ⟨by rfl, ?_⟩) hHeld ?_ ?_
          rotate_left
          · rintro w' ⟨s0, s1, s2, s3, s4, s5, s6, s7⟩
            go_simp
            with_reducible rfl
          rotate_left
          · simp only [Act.put, List.setIfInBounds_toArray, List.set_cons_zero, List.set_cons_succ, i64_w, i32_w]
            rfl
          refine join_ (σ := Nat × Nat) 2 #[true, true, true, true, true, true, true, true, false, false] (fun s_ => [(28, .agg #[.int .i64 x1, .int .i64 x2]), (31, .agg #[.int .i64 y1, .int .i64 y2]), (13, .pointer (some ⟨s_.1, 0, none⟩)), (14, .pointer (some ⟨s_.2, 0, none⟩))]) (fun s_ w' => C3 w3.heap.size (.slice A5 T.length c5) (.slice A6 L.length c6) w.heap.size (.int .i64 gy) (.int .i64 go) (w.heap.size + 1) (.int .i64 by_) (.int .i64 bo) w w6 w' ∧ Box w6 s_.1 #[.int .i64 0, .int .i64 0] 28 w' ∧ Box w6 s_.2 #[.int .i64 0, .int .i64 0] 28 w' ∧ s_.1 ≠ s_.2) ?_ ?_
          rotate_left
          · intro hCont
            refine three_ (i := 2) (j := 6) (k := 7) (Ni := some 28) (Nj := some 13) (Nk := some 14) #[true, true, true, true, true, false, false, false, false, false] #[true, true, false, true, true, false, true, false, false, false] #[true, true, false, true, true, false, false, true, false, false] rfl rfl rfl rfl rfl rfl (three_of HT_.out (by kernel_rfl)) (by decide) (by decide) (by decide) (fun K hK => ?_) (fun K hK => ?_) (fun K hK => ?_)
            · skip
              refine goes_ Try.func27 (by kernel_rfl) rfl #[.agg #[.slice A5 T.length c5, .slice A6 L.length c6], .agg #[.int .i64 gy, .int .i64 go]] (by rfl) rfl rfl (by (try simp only [List.map_toArray, List.map_cons, List.map_nil]); first | done | rfl | (simp only [List.length_drop, List.length_take]; rfl)) ?_
              refine (comfitref02_Taken.calls k A5 c5 T A6 c6 L gy go x1 x2 _ (Kd.C_below HR0.out.2 hHeld.2.2.2.2.2.2.2) HR0.out.1 (Kd.C_below HR1.out.2 hHeld.2.2.2.2.2.2.2) HR1.out.1 HT1.out).mono ?_
              rintro e wr1 ⟨rfl, hb⟩
              refine ⟨_, rfl, ?_⟩
              refine hK.out _ _ (C3.below hHeld hb) (fun hHeld => ?_)
              clear hK K hb
              refine norm_ (a' := ?_) ?_ ?_
              rotate_left
              · show Act.put _ (some 28) _ = _
                simp only [Act.put, List.setIfInBounds_toArray, List.set_cons_zero, List.set_cons_succ, i64_w, i32_w]
                rfl
              refine three_ (i := 5) (j := 6) (k := 7) (Ni := some 31) (Nj := some 13) (Nk := some 14) #[true, true, true, true, true, true, false, false, false, false] #[true, true, true, true, true, false, true, false, false, false] #[true, true, true, true, true, false, false, true, false, false] rfl rfl rfl rfl rfl rfl (three_of HT_.out (by kernel_rfl)) (by decide) (by decide) (by decide) (fun K hK => ?_) (fun K hK => ?_) (fun K hK => ?_)
              · skip
                refine goes_ Try.func27 (by kernel_rfl) rfl #[.agg #[.slice A5 T.length c5, .slice A6 L.length c6], .agg #[.int .i64 by_, .int .i64 bo]] (by rfl) rfl rfl (by (try simp only [List.map_toArray, List.map_cons, List.map_nil]); first | done | rfl | (simp only [List.length_drop, List.length_take]; rfl)) ?_
                refine (comfitref02_Taken.calls k A5 c5 T A6 c6 L by_ bo y1 y2 _ (Kd.C_below HR0.out.2 hHeld.2.2.2.2.2.2.2) HR0.out.1 (Kd.C_below HR1.out.2 hHeld.2.2.2.2.2.2.2) HR1.out.1 HT2.out).mono ?_
                rintro e wr2 ⟨rfl, hb⟩
                refine ⟨_, rfl, ?_⟩
                refine hK.out _ _ (C3.below hHeld hb) (fun hHeld => ?_)
                clear hK K hb
                refine norm_ (a' := ?_) ?_ ?_
                rotate_left
                · show Act.put _ (some 31) _ = _
                  simp only [Act.put, List.setIfInBounds_toArray, List.set_cons_zero, List.set_cons_succ, i64_w, i32_w]
                  rfl
                refine two_ (i := 6) (j := 7) (Ni := some 13) (Nj := some 14) #[true, true, true, true, true, true, true, false, false, false] #[true, true, true, true, true, true, false, true, false, false] rfl rfl rfl rfl (two_of HT_.out (by kernel_rfl)) (by decide) (by decide) (fun K hK => ?_) (fun K hK => ?_)
                · skip
                  refine box_step ?hg (N := 13) ?hd (cs := #[.int .i64 0, .int .i64 0]) (t := 28) ?hr ?_; (case hd => rfl); (case hg => rfl); (case hr => first | (go_simp; done) | (go_simp; rfl))
                  intro gx hg wr3 hbox hb
                  have HX : Aside0 (Box w6 gx #[.int .i64 0, .int .i64 0] 28 _) := ⟨⟨by rw [hg]; exact hHeld.2.2.2.2.2.2.2.size, hbox⟩⟩
                  clear hg hbox
                  refine hK.out _ _ (C3.below hHeld hb) (fun hHeld => ?_)
                  clear hK K hb
                  refine norm_ (a' := ?_) ?_ ?_
                  rotate_left
                  · show Act.put _ (some 13) _ = _
                    simp only [Act.put, List.setIfInBounds_toArray, List.set_cons_zero, List.set_cons_succ, i64_w, i32_w]
                    rfl
                  refine one_ (i := 7) (N := some 14) #[true, true, true, true, true, true, true, true, false, false] rfl rfl (one_of HT_.out (by kernel_rfl)) (by decide) (fun K hK => ?_)
                  refine box_step ?hg (N := 14) ?hd (cs := #[.int .i64 0, .int .i64 0]) (t := 28) ?hr ?_; (case hd => rfl); (case hg => rfl); (case hr => first | (go_simp; done) | (go_simp; rfl))
                  intro gz hg wr4 hbox hb
                  have HNE := Aside0.mk (show gx ≠ gz by rw [hg]; exact Nat.ne_of_lt HX.out.lt)
                  replace HX := Aside0.mk (HX.out.below hb)
                  have HZ : Aside0 (Box w6 gz #[.int .i64 0, .int .i64 0] 28 _) := ⟨⟨by rw [hg]; exact hHeld.2.2.2.2.2.2.2.size, hbox⟩⟩
                  clear hg hbox
                  refine hK.out _ _ (C3.below hHeld hb) (fun hHeld => ?_)
                  clear hK K hb
                  refine norm_ (a' := ?_) ?_ ?_
                  rotate_left
                  · show Act.put _ (some 14) _ = _
                    simp only [Act.put, List.setIfInBounds_toArray, List.set_cons_zero, List.set_cons_succ, i64_w, i32_w]
                    rfl
                  exact norm_ (by simp only [putAll, Act.put, List.setIfInBounds_toArray, List.set_cons_zero, List.set_cons_succ]) (hCont (gx, gz) _ ⟨hHeld, HX.out, HZ.out, HNE.out⟩)
                · skip
                  refine box_step ?hg (N := 14) ?hd (cs := #[.int .i64 0, .int .i64 0]) (t := 28) ?hr ?_; (case hd => rfl); (case hg => rfl); (case hr => first | (go_simp; done) | (go_simp; rfl))
                  intro gz hg wr5 hbox hb
                  have HZ : Aside0 (Box w6 gz #[.int .i64 0, .int .i64 0] 28 _) := ⟨⟨by rw [hg]; exact hHeld.2.2.2.2.2.2.2.size, hbox⟩⟩
                  clear hg hbox
                  refine hK.out _ _ (C3.below hHeld hb) (fun hHeld => ?_)
                  clear hK K hb
                  refine norm_ (a' := ?_) ?_ ?_
                  rotate_left
                  · show Act.put _ (some 14) _ = _
                    simp only [Act.put, List.setIfInBounds_toArray, List.set_cons_zero, List.set_cons_succ, i64_w, i32_w]
                    rfl
                  refine one_ (i := 6) (N := some 13) #[true, true, true, true, true, true, true, true, false, false] rfl rfl (one_of HT_.out (by kernel_rfl)) (by decide) (fun K hK => ?_)
                  refine box_step ?hg (N := 13) ?hd (cs := #[.int .i64 0, .int .i64 0]) (t := 28) ?hr ?_; (case hd => rfl); (case hg => rfl); (case hr => first | (go_simp; done) | (go_simp; rfl))
                  intro gx hg wr6 hbox hb
                  have HNE := Aside0.mk (show gx ≠ gz by rw [hg]; exact Nat.ne_of_gt HZ.out.lt)
                  replace HZ := Aside0.mk (HZ.out.below hb)
                  have HX : Aside0 (Box w6 gx #[.int .i64 0, .int .i64 0] 28 _) := ⟨⟨by rw [hg]; exact hHeld.2.2.2.2.2.2.2.size, hbox⟩⟩
                  clear hg hbox
                  refine hK.out _ _ (C3.below hHeld hb) (fun hHeld => ?_)
                  clear hK K hb
                  refine norm_ (a' := ?_) ?_ ?_
                  rotate_left
                  · show Act.put _ (some 13) _ = _
                    simp only [Act.put, List.setIfInBounds_toArray, List.set_cons_zero, List.set_cons_succ, i64_w, i32_w]
                    rfl
                  exact norm_ (by simp only [putAll, Act.put, List.setIfInBounds_toArray, List.set_cons_zero, List.set_cons_succ]) (hCont (gx, gz) _ ⟨hHeld, HX.out, HZ.out, HNE.out⟩)
              · skip
                refine box_step ?hg (N := 13) ?hd (cs := #[.int .i64 0, .int .i64 0]) (t := 28) ?hr ?_; (case hd => rfl); (case hg => rfl); (case hr => first | (go_simp; done) | (go_simp; rfl))
                intro gx hg wr7 hbox hb
                have HX : Aside0 (Box w6 gx #[.int .i64 0, .int .i64 0] 28 _) := ⟨⟨by rw [hg]; exact hHeld.2.2.2.2.2.2.2.size, hbox⟩⟩
                clear hg hbox
                refine hK.out _ _ (C3.below hHeld hb) (fun hHeld => ?_)
                clear hK K hb
                refine norm_ (a' := ?_) ?_ ?_
                rotate_left
                · show Act.put _ (some 13) _ = _
                  simp only [Act.put, List.setIfInBounds_toArray, List.set_cons_zero, List.set_cons_succ, i64_w, i32_w]
                  rfl
                refine two_ (i := 5) (j := 7) (Ni := some 31) (Nj := some 14) #[true, true, true, true, true, true, true, false, false, false] #[true, true, true, true, true, false, true, true, false, false] rfl rfl rfl rfl (two_of HT_.out (by kernel_rfl)) (by decide) (by decide) (fun K hK => ?_) (fun K hK => ?_)
                · skip
                  refine goes_ Try.func27 (by kernel_rfl) rfl #[.agg #[.slice A5 T.length c5, .slice A6 L.length c6], .agg #[.int .i64 by_, .int .i64 bo]] (by rfl) rfl rfl (by (try simp only [List.map_toArray, List.map_cons, List.map_nil]); first | done | rfl | (simp only [List.length_drop, List.length_take]; rfl)) ?_
                  refine (comfitref02_Taken.calls k A5 c5 T A6 c6 L by_ bo y1 y2 _ (Kd.C_below HR0.out.2 hHeld.2.2.2.2.2.2.2) HR0.out.1 (Kd.C_below HR1.out.2 hHeld.2.2.2.2.2.2.2) HR1.out.1 HT2.out).mono ?_
                  rintro e wr8 ⟨rfl, hb⟩
                  refine ⟨_, rfl, ?_⟩
                  replace HX := Aside0.mk (HX.out.below hb)
                  refine hK.out _ _ (C3.below hHeld hb) (fun hHeld => ?_)
                  clear hK K hb
                  refine norm_ (a' := ?_) ?_ ?_
                  rotate_left
                  · show Act.put _ (some 31) _ = _
                    simp only [Act.put, List.setIfInBounds_toArray, List.set_cons_zero, List.set_cons_succ, i64_w, i32_w]
                    rfl
                  refine one_ (i := 7) (N := some 14) #[true, true, true, true, true, true, true, true, false, false] rfl rfl (one_of HT_.out (by kernel_rfl)) (by decide) (fun K hK => ?_)
                  refine box_step ?hg (N := 14) ?hd (cs := #[.int .i64 0, .int .i64 0]) (t := 28) ?hr ?_; (case hd => rfl); (case hg => rfl); (case hr => first | (go_simp; done) | (go_simp; rfl))
                  intro gz hg wr9 hbox hb
                  have HNE := Aside0.mk (show gx ≠ gz by rw [hg]; exact Nat.ne_of_lt HX.out.lt)
                  replace HX := Aside0.mk (HX.out.below hb)
                  have HZ : Aside0 (Box w6 gz #[.int .i64 0, .int .i64 0] 28 _) := ⟨⟨by rw [hg]; exact hHeld.2.2.2.2.2.2.2.size, hbox⟩⟩
                  clear hg hbox
                  refine hK.out _ _ (C3.below hHeld hb) (fun hHeld => ?_)
                  clear hK K hb
                  refine norm_ (a' := ?_) ?_ ?_
                  rotate_left
                  · show Act.put _ (some 14) _ = _
                    simp only [Act.put, List.setIfInBounds_toArray, List.set_cons_zero, List.set_cons_succ, i64_w, i32_w]
                    rfl
                  exact norm_ (by simp only [putAll, Act.put, List.setIfInBounds_toArray, List.set_cons_zero, List.set_cons_succ]) (hCont (gx, gz) _ ⟨hHeld, HX.out, HZ.out, HNE.out⟩)
                · skip
                  refine box_step ?hg (N := 14) ?hd (cs := #[.int .i64 0, .int .i64 0]) (t := 28) ?hr ?_; (case hd => rfl); (case hg => rfl); (case hr => first | (go_simp; done) | (go_simp; rfl))
                  intro gz hg wr10 hbox hb
                  have HNE := Aside0.mk (show gx ≠ gz by rw [hg]; exact Nat.ne_of_lt HX.out.lt)
                  replace HX := Aside0.mk (HX.out.below hb)
                  have HZ : Aside0 (Box w6 gz #[.int .i64 0, .int .i64 0] 28 _) := ⟨⟨by rw [hg]; exact hHeld.2.2.2.2.2.2.2.size, hbox⟩⟩
                  clear hg hbox
                  refine hK.out _ _ (C3.below hHeld hb) (fun hHeld => ?_)
                  clear hK K hb
                  refine norm_ (a' := ?_) ?_ ?_
                  rotate_left
                  · show Act.put _ (some 14) _ = _
                    simp only [Act.put, List.setIfInBounds_toArray, List.set_cons_zero, List.set_cons_succ, i64_w, i32_w]
                    rfl
                  refine one_ (i := 5) (N := some 31) #[true, true, true, true, true, true, true, true, false, false] rfl rfl (one_of HT_.out (by kernel_rfl)) (by decide) (fun K hK => ?_)
                  refine goes_ Try.func27 (by kernel_rfl) rfl #[.agg #[.slice A5 T.length c5, .slice A6 L.length c6], .agg #[.int .i64 by_, .int .i64 bo]] (by rfl) rfl rfl (by (try simp only [List.map_toArray, List.map_cons, List.map_nil]); first | done | rfl | (simp only [List.length_drop, List.length_take]; rfl)) ?_
                  refine (comfitref02_Taken.calls k A5 c5 T A6 c6 L by_ bo y1 y2 _ (Kd.C_below HR0.out.2 hHeld.2.2.2.2.2.2.2) HR0.out.1 (Kd.C_below HR1.out.2 hHeld.2.2.2.2.2.2.2) HR1.out.1 HT2.out).mono ?_
                  rintro e wr11 ⟨rfl, hb⟩
                  refine ⟨_, rfl, ?_⟩
                  replace HX := Aside0.mk (HX.out.below hb)
                  replace HZ := Aside0.mk (HZ.out.below hb)
                  refine hK.out _ _ (C3.below hHeld hb) (fun hHeld => ?_)
                  clear hK K hb
                  refine norm_ (a' := ?_) ?_ ?_
                  rotate_left
                  · show Act.put _ (some 31) _ = _
                    simp only [Act.put, List.setIfInBounds_toArray, List.set_cons_zero, List.set_cons_succ, i64_w, i32_w]
                    rfl
                  exact norm_ (by simp only [putAll, Act.put, List.setIfInBounds_toArray, List.set_cons_zero, List.set_cons_succ]) (hCont (gx, gz) _ ⟨hHeld, HX.out, HZ.out, HNE.out⟩)
              · skip
                refine box_step ?hg (N := 14) ?hd (cs := #[.int .i64 0, .int .i64 0]) (t := 28) ?hr ?_; (case hd => rfl); (case hg => rfl); (case hr => first | (go_simp; done) | (go_simp; rfl))
                intro gz hg wr12 hbox hb
                have HZ : Aside0 (Box w6 gz #[.int .i64 0, .int .i64 0] 28 _) := ⟨⟨by rw [hg]; exact hHeld.2.2.2.2.2.2.2.size, hbox⟩⟩
                clear hg hbox
                refine hK.out _ _ (C3.below hHeld hb) (fun hHeld => ?_)
                clear hK K hb
                refine norm_ (a' := ?_) ?_ ?_
                rotate_left
                · show Act.put _ (some 14) _ = _
                  simp only [Act.put, List.setIfInBounds_toArray, List.set_cons_zero, List.set_cons_succ, i64_w, i32_w]
                  rfl
                refine two_ (i := 5) (j := 6) (Ni := some 31) (Nj := some 13) #[true, true, true, true, true, true, false, true, false, false] #[true, true, true, true, true, false, true, true, false, false] rfl rfl rfl rfl (two_of HT_.out (by kernel_rfl)) (by decide) (by decide) (fun K hK => ?_) (fun K hK => ?_)
                · skip
                  refine goes_ Try.func27 (by kernel_rfl) rfl #[.agg #[.slice A5 T.length c5, .slice A6 L.length c6], .agg #[.int .i64 by_, .int .i64 bo]] (by rfl) rfl rfl (by (try simp only [List.map_toArray, List.map_cons, List.map_nil]); first | done | rfl | (simp only [List.length_drop, List.length_take]; rfl)) ?_
                  refine (comfitref02_Taken.calls k A5 c5 T A6 c6 L by_ bo y1 y2 _ (Kd.C_below HR0.out.2 hHeld.2.2.2.2.2.2.2) HR0.out.1 (Kd.C_below HR1.out.2 hHeld.2.2.2.2.2.2.2) HR1.out.1 HT2.out).mono ?_
                  rintro e wr13 ⟨rfl, hb⟩
                  refine ⟨_, rfl, ?_⟩
                  replace HZ := Aside0.mk (HZ.out.below hb)
                  refine hK.out _ _ (C3.below hHeld hb) (fun hHeld => ?_)
                  clear hK K hb
                  refine norm_ (a' := ?_) ?_ ?_
                  rotate_left
                  · show Act.put _ (some 31) _ = _
                    simp only [Act.put, List.setIfInBounds_toArray, List.set_cons_zero, List.set_cons_succ, i64_w, i32_w]
                    rfl
                  refine one_ (i := 6) (N := some 13) #[true, true, true, true, true, true, true, true, false, false] rfl rfl (one_of HT_.out (by kernel_rfl)) (by decide) (fun K hK => ?_)
                  refine box_step ?hg (N := 13) ?hd (cs := #[.int .i64 0, .int .i64 0]) (t := 28) ?hr ?_; (case hd => rfl); (case hg => rfl); (case hr => first | (go_simp; done) | (go_simp; rfl))
                  intro gx hg wr14 hbox hb
                  have HNE := Aside0.mk (show gx ≠ gz by rw [hg]; exact Nat.ne_of_gt HZ.out.lt)
                  replace HZ := Aside0.mk (HZ.out.below hb)
                  have HX : Aside0 (Box w6 gx #[.int .i64 0, .int .i64 0] 28 _) := ⟨⟨by rw [hg]; exact hHeld.2.2.2.2.2.2.2.size, hbox⟩⟩
                  clear hg hbox
                  refine hK.out _ _ (C3.below hHeld hb) (fun hHeld => ?_)
                  clear hK K hb
                  refine norm_ (a' := ?_) ?_ ?_
                  rotate_left
                  · show Act.put _ (some 13) _ = _
                    simp only [Act.put, List.setIfInBounds_toArray, List.set_cons_zero, List.set_cons_succ, i64_w, i32_w]
                    rfl
                  exact norm_ (by simp only [putAll, Act.put, List.setIfInBounds_toArray, List.set_cons_zero, List.set_cons_succ]) (hCont (gx, gz) _ ⟨hHeld, HX.out, HZ.out, HNE.out⟩)
                · skip
                  refine box_step ?hg (N := 13) ?hd (cs := #[.int .i64 0, .int .i64 0]) (t := 28) ?hr ?_; (case hd => rfl); (case hg => rfl); (case hr => first | (go_simp; done) | (go_simp; rfl))
                  intro gx hg wr15 hbox hb
                  have HNE := Aside0.mk (show gx ≠ gz by rw [hg]; exact Nat.ne_of_gt HZ.out.lt)
                  replace HZ := Aside0.mk (HZ.out.below hb)
                  have HX : Aside0 (Box w6 gx #[.int .i64 0, .int .i64 0] 28 _) := ⟨⟨by rw [hg]; exact hHeld.2.2.2.2.2.2.2.size, hbox⟩⟩
                  clear hg hbox
                  refine hK.out _ _ (C3.below hHeld hb) (fun hHeld => ?_)
                  clear hK K hb
                  refine norm_ (a' := ?_) ?_ ?_
                  rotate_left
                  · show Act.put _ (some 13) _ = _
                    simp only [Act.put, List.setIfInBounds_toArray, List.set_cons_zero, List.set_cons_succ, i64_w, i32_w]
                    rfl
                  refine one_ (i := 5) (N := some 31) #[true, true, true, true, true, true, true, true, false, false] rfl rfl (one_of HT_.out (by kernel_rfl)) (by decide) (fun K hK => ?_)
                  refine goes_ Try.func27 (by kernel_rfl) rfl #[.agg #[.slice A5 T.length c5, .slice A6 L.length c6], .agg #[.int .i64 by_, .int .i64 bo]] (by rfl) rfl rfl (by (try simp only [List.map_toArray, List.map_cons, List.map_nil]); first | done | rfl | (simp only [List.length_drop, List.length_take]; rfl)) ?_
                  refine (comfitref02_Taken.calls k A5 c5 T A6 c6 L by_ bo y1 y2 _ (Kd.C_below HR0.out.2 hHeld.2.2.2.2.2.2.2) HR0.out.1 (Kd.C_below HR1.out.2 hHeld.2.2.2.2.2.2.2) HR1.out.1 HT2.out).mono ?_
                  rintro e wr16 ⟨rfl, hb⟩
                  refine ⟨_, rfl, ?_⟩
                  replace HX := Aside0.mk (HX.out.below hb)
                  replace HZ := Aside0.mk (HZ.out.below hb)
                  refine hK.out _ _ (C3.below hHeld hb) (fun hHeld => ?_)
                  clear hK K hb
                  refine norm_ (a' := ?_) ?_ ?_
                  rotate_left
                  · show Act.put _ (some 31) _ = _
                    simp only [Act.put, List.setIfInBounds_toArray, List.set_cons_zero, List.set_cons_succ, i64_w, i32_w]
                    rfl
                  exact norm_ (by simp only [putAll, Act.put, List.setIfInBounds_toArray, List.set_cons_zero, List.set_cons_succ]) (hCont (gx, gz) _ ⟨hHeld, HX.out, HZ.out, HNE.out⟩)
            · skip
              refine box_step ?hg (N := 13) ?hd (cs := #[.int .i64 0, .int .i64 0]) (t := 28) ?hr ?_; (case hd => rfl); (case hg => rfl); (case hr => first | (go_simp; done) | (go_simp; rfl))
              intro gx hg wr17 hbox hb
              have HX : Aside0 (Box w6 gx #[.int .i64 0, .int .i64 0] 28 _) := ⟨⟨by rw [hg]; exact hHeld.2.2.2.2.2.2.2.size, hbox⟩⟩
              clear hg hbox
              refine hK.out _ _ (C3.below hHeld hb) (fun hHeld => ?_)
              clear hK K hb
              refine norm_ (a' := ?_) ?_ ?_
              rotate_left
              · show Act.put _ (some 13) _ = _
                simp only [Act.put, List.setIfInBounds_toArray, List.set_cons_zero, List.set_cons_succ, i64_w, i32_w]
                rfl
              refine two_ (i := 2) (j := 7) (Ni := some 28) (Nj := some 14) #[true, true, true, true, true, false, true, false, false, false] #[true, true, false, true, true, false, true, true, false, false] rfl rfl rfl rfl (two_of HT_.out (by kernel_rfl)) (by decide) (by decide) (fun K hK => ?_) (fun K hK => ?_)
              · skip
                refine goes_ Try.func27 (by kernel_rfl) rfl #[.agg #[.slice A5 T.length c5, .slice A6 L.length c6], .agg #[.int .i64 gy, .int .i64 go]] (by rfl) rfl rfl (by (try simp only [List.map_toArray, List.map_cons, List.map_nil]); first | done | rfl | (simp only [List.length_drop, List.length_take]; rfl)) ?_
                refine (comfitref02_Taken.calls k A5 c5 T A6 c6 L gy go x1 x2 _ (Kd.C_below HR0.out.2 hHeld.2.2.2.2.2.2.2) HR0.out.1 (Kd.C_below HR1.out.2 hHeld.2.2.2.2.2.2.2) HR1.out.1 HT1.out).mono ?_
                rintro e wr18 ⟨rfl, hb⟩
                refine ⟨_, rfl, ?_⟩
                replace HX := Aside0.mk (HX.out.below hb)
                refine hK.out _ _ (C3.below hHeld hb) (fun hHeld => ?_)
                clear hK K hb
                refine norm_ (a' := ?_) ?_ ?_
                rotate_left
                · show Act.put _ (some 28) _ = _
                  simp only [Act.put, List.setIfInBounds_toArray, List.set_cons_zero, List.set_cons_succ, i64_w, i32_w]
                  rfl
                refine two_ (i := 5) (j := 7) (Ni := some 31) (Nj := some 14) #[true, true, true, true, true, true, true, false, false, false] #[true, true, true, true, true, false, true, true, false, false] rfl rfl rfl rfl (two_of HT_.out (by kernel_rfl)) (by decide) (by decide) (fun K hK => ?_) (fun K hK => ?_)
                · skip
                  refine goes_ Try.func27 (by kernel_rfl) rfl #[.agg #[.slice A5 T.length c5, .slice A6 L.length c6], .agg #[.int .i64 by_, .int .i64 bo]] (by rfl) rfl rfl (by (try simp only [List.map_toArray, List.map_cons, List.map_nil]); first | done | rfl | (simp only [List.length_drop, List.length_take]; rfl)) ?_
                  refine (comfitref02_Taken.calls k A5 c5 T A6 c6 L by_ bo y1 y2 _ (Kd.C_below HR0.out.2 hHeld.2.2.2.2.2.2.2) HR0.out.1 (Kd.C_below HR1.out.2 hHeld.2.2.2.2.2.2.2) HR1.out.1 HT2.out).mono ?_
                  rintro e wr19 ⟨rfl, hb⟩
                  refine ⟨_, rfl, ?_⟩
                  replace HX := Aside0.mk (HX.out.below hb)
                  refine hK.out _ _ (C3.below hHeld hb) (fun hHeld => ?_)
                  clear hK K hb
                  refine norm_ (a' := ?_) ?_ ?_
                  rotate_left
                  · show Act.put _ (some 31) _ = _
                    simp only [Act.put, List.setIfInBounds_toArray, List.set_cons_zero, List.set_cons_succ, i64_w, i32_w]
                    rfl
                  refine one_ (i := 7) (N := some 14) #[true, true, true, true, true, true, true, true, false, false] rfl rfl (one_of HT_.out (by kernel_rfl)) (by decide) (fun K hK => ?_)
                  refine box_step ?hg (N := 14) ?hd (cs := #[.int .i64 0, .int .i64 0]) (t := 28) ?hr ?_; (case hd => rfl); (case hg => rfl); (case hr => first | (go_simp; done) | (go_simp; rfl))
                  intro gz hg wr20 hbox hb
                  have HNE := Aside0.mk (show gx ≠ gz by rw [hg]; exact Nat.ne_of_lt HX.out.lt)
                  replace HX := Aside0.mk (HX.out.below hb)
                  have HZ : Aside0 (Box w6 gz #[.int .i64 0, .int .i64 0] 28 _) := ⟨⟨by rw [hg]; exact hHeld.2.2.2.2.2.2.2.size, hbox⟩⟩
                  clear hg hbox
                  refine hK.out _ _ (C3.below hHeld hb) (fun hHeld => ?_)
                  clear hK K hb
                  refine norm_ (a' := ?_) ?_ ?_
                  rotate_left
                  · show Act.put _ (some 14) _ = _
                    simp only [Act.put, List.setIfInBounds_toArray, List.set_cons_zero, List.set_cons_succ, i64_w, i32_w]
                    rfl
                  exact norm_ (by simp only [putAll, Act.put, List.setIfInBounds_toArray, List.set_cons_zero, List.set_cons_succ]) (hCont (gx, gz) _ ⟨hHeld, HX.out, HZ.out, HNE.out⟩)
                · skip
                  refine box_step ?hg (N := 14) ?hd (cs := #[.int .i64 0, .int .i64 0]) (t := 28) ?hr ?_; (case hd => rfl); (case hg => rfl); (case hr => first | (go_simp; done) | (go_simp; rfl))
                  intro gz hg wr21 hbox hb
                  have HNE := Aside0.mk (show gx ≠ gz by rw [hg]; exact Nat.ne_of_lt HX.out.lt)
                  replace HX := Aside0.mk (HX.out.below hb)
                  have HZ : Aside0 (Box w6 gz #[.int .i64 0, .int .i64 0] 28 _) := ⟨⟨by rw [hg]; exact hHeld.2.2.2.2.2.2.2.size, hbox⟩⟩
                  clear hg hbox
                  refine hK.out _ _ (C3.below hHeld hb) (fun hHeld => ?_)
                  clear hK K hb
                  refine norm_ (a' := ?_) ?_ ?_
                  rotate_left
                  · show Act.put _ (some 14) _ = _
                    simp only [Act.put, List.setIfInBounds_toArray, List.set_cons_zero, List.set_cons_succ, i64_w, i32_w]
                    rfl
                  refine one_ (i := 5) (N := some 31) #[true, true, true, true, true, true, true, true, false, false] rfl rfl (one_of HT_.out (by kernel_rfl)) (by decide) (fun K hK => ?_)
                  refine goes_ Try.func27 (by kernel_rfl) rfl #[.agg #[.slice A5 T.length c5, .slice A6 L.length c6], .agg #[.int .i64 by_, .int .i64 bo]] (by rfl) rfl rfl (by (try simp only [List.map_toArray, List.map_cons, List.map_nil]); first | done | rfl | (simp only [List.length_drop, List.length_take]; rfl)) ?_
                  refine (comfitref02_Taken.calls k A5 c5 T A6 c6 L by_ bo y1 y2 _ (Kd.C_below HR0.out.2 hHeld.2.2.2.2.2.2.2) HR0.out.1 (Kd.C_below HR1.out.2 hHeld.2.2.2.2.2.2.2) HR1.out.1 HT2.out).mono ?_
                  rintro e wr22 ⟨rfl, hb⟩
                  refine ⟨_, rfl, ?_⟩
                  replace HX := Aside0.mk (HX.out.below hb)
                  replace HZ := Aside0.mk (HZ.out.below hb)
                  refine hK.out _ _ (C3.below hHeld hb) (fun hHeld => ?_)
                  clear hK K hb
                  refine norm_ (a' := ?_) ?_ ?_
                  rotate_left
                  · show Act.put _ (some 31) _ = _
                    simp only [Act.put, List.setIfInBounds_toArray, List.set_cons_zero, List.set_cons_succ, i64_w, i32_w]
                    rfl
                  exact norm_ (by simp only [putAll, Act.put, List.setIfInBounds_toArray, List.set_cons_zero, List.set_cons_succ]) (hCont (gx, gz) _ ⟨hHeld, HX.out, HZ.out, HNE.out⟩)
              · skip
                refine box_step ?hg (N := 14) ?hd (cs := #[.int .i64 0, .int .i64 0]) (t := 28) ?hr ?_; (case hd => rfl); (case hg => rfl); (case hr => first | (go_simp; done) | (go_simp; rfl))
                intro gz hg wr23 hbox hb
                have HNE := Aside0.mk (show gx ≠ gz by rw [hg]; exact Nat.ne_of_lt HX.out.lt)
                replace HX := Aside0.mk (HX.out.below hb)
                have HZ : Aside0 (Box w6 gz #[.int .i64 0, .int .i64 0] 28 _) := ⟨⟨by rw [hg]; exact hHeld.2.2.2.2.2.2.2.size, hbox⟩⟩
                clear hg hbox
                refine hK.out _ _ (C3.below hHeld hb) (fun hHeld => ?_)
                clear hK K hb
                refine norm_ (a' := ?_) ?_ ?_
                rotate_left
                · show Act.put _ (some 14) _ = _
                  simp only [Act.put, List.setIfInBounds_toArray, List.set_cons_zero, List.set_cons_succ, i64_w, i32_w]
                  rfl
                refine one_ (i := 2) (N := some 28) #[true, true, true, true, true, false, true, true, false, false] rfl rfl (one_of HT_.out (by kernel_rfl)) (by decide) (fun K hK => ?_)
                refine goes_ Try.func27 (by kernel_rfl) rfl #[.agg #[.slice A5 T.length c5, .slice A6 L.length c6], .agg #[.int .i64 gy, .int .i64 go]] (by rfl) rfl rfl (by (try simp only [List.map_toArray, List.map_cons, List.map_nil]); first | done | rfl | (simp only [List.length_drop, List.length_take]; rfl)) ?_
                refine (comfitref02_Taken.calls k A5 c5 T A6 c6 L gy go x1 x2 _ (Kd.C_below HR0.out.2 hHeld.2.2.2.2.2.2.2) HR0.out.1 (Kd.C_below HR1.out.2 hHeld.2.2.2.2.2.2.2) HR1.out.1 HT1.out).mono ?_
                rintro e wr24 ⟨rfl, hb⟩
                refine ⟨_, rfl, ?_⟩
                replace HX := Aside0.mk (HX.out.below hb)
                replace HZ := Aside0.mk (HZ.out.below hb)
                refine hK.out _ _ (C3.below hHeld hb) (fun hHeld => ?_)
                clear hK K hb
                refine norm_ (a' := ?_) ?_ ?_
                rotate_left
                · show Act.put _ (some 28) _ = _
                  simp only [Act.put, List.setIfInBounds_toArray, List.set_cons_zero, List.set_cons_succ, i64_w, i32_w]
                  rfl
                refine one_ (i := 5) (N := some 31) #[true, true, true, true, true, true, true, true, false, false] rfl rfl (one_of HT_.out (by kernel_rfl)) (by decide) (fun K hK => ?_)
                refine goes_ Try.func27 (by kernel_rfl) rfl #[.agg #[.slice A5 T.length c5, .slice A6 L.length c6], .agg #[.int .i64 by_, .int .i64 bo]] (by rfl) rfl rfl (by (try simp only [List.map_toArray, List.map_cons, List.map_nil]); first | done | rfl | (simp only [List.length_drop, List.length_take]; rfl)) ?_
                refine (comfitref02_Taken.calls k A5 c5 T A6 c6 L by_ bo y1 y2 _ (Kd.C_below HR0.out.2 hHeld.2.2.2.2.2.2.2) HR0.out.1 (Kd.C_below HR1.out.2 hHeld.2.2.2.2.2.2.2) HR1.out.1 HT2.out).mono ?_
                rintro e wr25 ⟨rfl, hb⟩
                refine ⟨_, rfl, ?_⟩
                replace HX := Aside0.mk (HX.out.below hb)
                replace HZ := Aside0.mk (HZ.out.below hb)
                refine hK.out _ _ (C3.below hHeld hb) (fun hHeld => ?_)
                clear hK K hb
                refine norm_ (a' := ?_) ?_ ?_
                rotate_left
                · show Act.put _ (some 31) _ = _
                  simp only [Act.put, List.setIfInBounds_toArray, List.set_cons_zero, List.set_cons_succ, i64_w, i32_w]
                  rfl
                exact norm_ (by simp only [putAll, Act.put, List.setIfInBounds_toArray, List.set_cons_zero, List.set_cons_succ]) (hCont (gx, gz) _ ⟨hHeld, HX.out, HZ.out, HNE.out⟩)
            · skip
              refine box_step ?hg (N := 14) ?hd (cs := #[.int .i64 0, .int .i64 0]) (t := 28) ?hr ?_; (case hd => rfl); (case hg => rfl); (case hr => first | (go_simp; done) | (go_simp; rfl))
              intro gz hg wr26 hbox hb
              have HZ : Aside0 (Box w6 gz #[.int .i64 0, .int .i64 0] 28 _) := ⟨⟨by rw [hg]; exact hHeld.2.2.2.2.2.2.2.size, hbox⟩⟩
              clear hg hbox
              refine hK.out _ _ (C3.below hHeld hb) (fun hHeld => ?_)
              clear hK K hb
              refine norm_ (a' := ?_) ?_ ?_
              rotate_left
              · show Act.put _ (some 14) _ = _
                simp only [Act.put, List.setIfInBounds_toArray, List.set_cons_zero, List.set_cons_succ, i64_w, i32_w]
                rfl
              refine two_ (i := 2) (j := 6) (Ni := some 28) (Nj := some 13) #[true, true, true, true, true, false, false, true, false, false] #[true, true, false, true, true, false, true, true, false, false] rfl rfl rfl rfl (two_of HT_.out (by kernel_rfl)) (by decide) (by decide) (fun K hK => ?_) (fun K hK => ?_)
              · skip
                refine goes_ Try.func27 (by kernel_rfl) rfl #[.agg #[.slice A5 T.length c5, .slice A6 L.length c6], .agg #[.int .i64 gy, .int .i64 go]] (by rfl) rfl rfl (by (try simp only [List.map_toArray, List.map_cons, List.map_nil]); first | done | rfl | (simp only [List.length_drop, List.length_take]; rfl)) ?_
                refine (comfitref02_Taken.calls k A5 c5 T A6 c6 L gy go x1 x2 _ (Kd.C_below HR0.out.2 hHeld.2.2.2.2.2.2.2) HR0.out.1 (Kd.C_below HR1.out.2 hHeld.2.2.2.2.2.2.2) HR1.out.1 HT1.out).mono ?_
                rintro e wr27 ⟨rfl, hb⟩
                refine ⟨_, rfl, ?_⟩
                replace HZ := Aside0.mk (HZ.out.below hb)
                refine hK.out _ _ (C3.below hHeld hb) (fun hHeld => ?_)
                clear hK K hb
                refine norm_ (a' := ?_) ?_ ?_
                rotate_left
                · show Act.put _ (some 28) _ = _
                  simp only [Act.put, List.setIfInBounds_toArray, List.set_cons_zero, List.set_cons_succ, i64_w, i32_w]
                  rfl
                refine two_ (i := 5) (j := 6) (Ni := some 31) (Nj := some 13) #[true, true, true, true, true, true, false, true, false, false] #[true, true, true, true, true, false, true, true, false, false] rfl rfl rfl rfl (two_of HT_.out (by kernel_rfl)) (by decide) (by decide) (fun K hK => ?_) (fun K hK => ?_)
                · skip
                  refine goes_ Try.func27 (by kernel_rfl) rfl #[.agg #[.slice A5 T.length c5, .slice A6 L.length c6], .agg #[.int .i64 by_, .int .i64 bo]] (by rfl) rfl rfl (by (try simp only [List.map_toArray, List.map_cons, List.map_nil]); first | done | rfl | (simp only [List.length_drop, List.length_take]; rfl)) ?_
                  refine (comfitref02_Taken.calls k A5 c5 T A6 c6 L by_ bo y1 y2 _ (Kd.C_below HR0.out.2 hHeld.2.2.2.2.2.2.2) HR0.out.1 (Kd.C_below HR1.out.2 hHeld.2.2.2.2.2.2.2) HR1.out.1 HT2.out).mono ?_
                  rintro e wr28 ⟨rfl, hb⟩
                  refine ⟨_, rfl, ?_⟩
                  replace HZ := Aside0.mk (HZ.out.below hb)
                  refine hK.out _ _ (C3.below hHeld hb) (fun hHeld => ?_)
                  clear hK K hb
                  refine norm_ (a' := ?_) ?_ ?_
                  rotate_left
                  · show Act.put _ (some 31) _ = _
                    simp only [Act.put, List.setIfInBounds_toArray, List.set_cons_zero, List.set_cons_succ, i64_w, i32_w]
                    rfl
                  refine one_ (i := 6) (N := some 13) #[true, true, true, true, true, true, true, true, false, false] rfl rfl (one_of HT_.out (by kernel_rfl)) (by decide) (fun K hK => ?_)
                  refine box_step ?hg (N := 13) ?hd (cs := #[.int .i64 0, .int .i64 0]) (t := 28) ?hr ?_; (case hd => rfl); (case hg => rfl); (case hr => first | (go_simp; done) | (go_simp; rfl))
                  intro gx hg wr29 hbox hb
                  have HNE := Aside0.mk (show gx ≠ gz by rw [hg]; exact Nat.ne_of_gt HZ.out.lt)
                  replace HZ := Aside0.mk (HZ.out.below hb)
                  have HX : Aside0 (Box w6 gx #[.int .i64 0, .int .i64 0] 28 _) := ⟨⟨by rw [hg]; exact hHeld.2.2.2.2.2.2.2.size, hbox⟩⟩
                  clear hg hbox
                  refine hK.out _ _ (C3.below hHeld hb) (fun hHeld => ?_)
                  clear hK K hb
                  refine norm_ (a' := ?_) ?_ ?_
                  rotate_left
                  · show Act.put _ (some 13) _ = _
                    simp only [Act.put, List.setIfInBounds_toArray, List.set_cons_zero, List.set_cons_succ, i64_w, i32_w]
                    rfl
                  exact norm_ (by simp only [putAll, Act.put, List.setIfInBounds_toArray, List.set_cons_zero, List.set_cons_succ]) (hCont (gx, gz) _ ⟨hHeld, HX.out, HZ.out, HNE.out⟩)
                · skip
                  refine box_step ?hg (N := 13) ?hd (cs := #[.int .i64 0, .int .i64 0]) (t := 28) ?hr ?_; (case hd => rfl); (case hg => rfl); (case hr => first | (go_simp; done) | (go_simp; rfl))
                  intro gx hg wr30 hbox hb
                  have HNE := Aside0.mk (show gx ≠ gz by rw [hg]; exact Nat.ne_of_gt HZ.out.lt)
                  replace HZ := Aside0.mk (HZ.out.below hb)
                  have HX : Aside0 (Box w6 gx #[.int .i64 0, .int .i64 0] 28 _) := ⟨⟨by rw [hg]; exact hHeld.2.2.2.2.2.2.2.size, hbox⟩⟩
                  clear hg hbox
                  refine hK.out _ _ (C3.below hHeld hb) (fun hHeld => ?_)
                  clear hK K hb
                  refine norm_ (a' := ?_) ?_ ?_
                  rotate_left
                  · show Act.put _ (some 13) _ = _
                    simp only [Act.put, List.setIfInBounds_toArray, List.set_cons_zero, List.set_cons_succ, i64_w, i32_w]
                    rfl
                  refine one_ (i := 5) (N := some 31) #[true, true, true, true, true, true, true, true, false, false] rfl rfl (one_of HT_.out (by kernel_rfl)) (by decide) (fun K hK => ?_)
                  refine goes_ Try.func27 (by kernel_rfl) rfl #[.agg #[.slice A5 T.length c5, .slice A6 L.length c6], .agg #[.int .i64 by_, .int .i64 bo]] (by rfl) rfl rfl (by (try simp only [List.map_toArray, List.map_cons, List.map_nil]); first | done | rfl | (simp only [List.length_drop, List.length_take]; rfl)) ?_
                  refine (comfitref02_Taken.calls k A5 c5 T A6 c6 L by_ bo y1 y2 _ (Kd.C_below HR0.out.2 hHeld.2.2.2.2.2.2.2) HR0.out.1 (Kd.C_below HR1.out.2 hHeld.2.2.2.2.2.2.2) HR1.out.1 HT2.out).mono ?_
                  rintro e wr31 ⟨rfl, hb⟩
                  refine ⟨_, rfl, ?_⟩
                  replace HX := Aside0.mk (HX.out.below hb)
                  replace HZ := Aside0.mk (HZ.out.below hb)
                  refine hK.out _ _ (C3.below hHeld hb) (fun hHeld => ?_)
                  clear hK K hb
                  refine norm_ (a' := ?_) ?_ ?_
                  rotate_left
                  · show Act.put _ (some 31) _ = _
                    simp only [Act.put, List.setIfInBounds_toArray, List.set_cons_zero, List.set_cons_succ, i64_w, i32_w]
                    rfl
                  exact norm_ (by simp only [putAll, Act.put, List.setIfInBounds_toArray, List.set_cons_zero, List.set_cons_succ]) (hCont (gx, gz) _ ⟨hHeld, HX.out, HZ.out, HNE.out⟩)
              · skip
                refine box_step ?hg (N := 13) ?hd (cs := #[.int .i64 0, .int .i64 0]) (t := 28) ?hr ?_; (case hd => rfl); (case hg => rfl); (case hr => first | (go_simp; done) | (go_simp; rfl))
                intro gx hg wr32 hbox hb
                have HNE := Aside0.mk (show gx ≠ gz by rw [hg]; exact Nat.ne_of_gt HZ.out.lt)
                replace HZ := Aside0.mk (HZ.out.below hb)
                have HX : Aside0 (Box w6 gx #[.int .i64 0, .int .i64 0] 28 _) := ⟨⟨by rw [hg]; exact hHeld.2.2.2.2.2.2.2.size, hbox⟩⟩
                clear hg hbox
                refine hK.out _ _ (C3.below hHeld hb) (fun hHeld => ?_)
                clear hK K hb
                refine norm_ (a' := ?_) ?_ ?_
                rotate_left
                · show Act.put _ (some 13) _ = _
                  simp only [Act.put, List.setIfInBounds_toArray, List.set_cons_zero, List.set_cons_succ, i64_w, i32_w]
                  rfl
                refine one_ (i := 2) (N := some 28) #[true, true, true, true, true, false, true, true, false, false] rfl rfl (one_of HT_.out (by kernel_rfl)) (by decide) (fun K hK => ?_)
                refine goes_ Try.func27 (by kernel_rfl) rfl #[.agg #[.slice A5 T.length c5, .slice A6 L.length c6], .agg #[.int .i64 gy, .int .i64 go]] (by rfl) rfl rfl (by (try simp only [List.map_toArray, List.map_cons, List.map_nil]); first | done | rfl | (simp only [List.length_drop, List.length_take]; rfl)) ?_
                refine (comfitref02_Taken.calls k A5 c5 T A6 c6 L gy go x1 x2 _ (Kd.C_below HR0.out.2 hHeld.2.2.2.2.2.2.2) HR0.out.1 (Kd.C_below HR1.out.2 hHeld.2.2.2.2.2.2.2) HR1.out.1 HT1.out).mono ?_
                rintro e wr33 ⟨rfl, hb⟩
                refine ⟨_, rfl, ?_⟩
                replace HX := Aside0.mk (HX.out.below hb)
                replace HZ := Aside0.mk (HZ.out.below hb)
                refine hK.out _ _ (C3.below hHeld hb) (fun hHeld => ?_)
                clear hK K hb
                refine norm_ (a' := ?_) ?_ ?_
                rotate_left
                · show Act.put _ (some 28) _ = _
                  simp only [Act.put, List.setIfInBounds_toArray, List.set_cons_zero, List.set_cons_succ, i64_w, i32_w]
                  rfl
                refine one_ (i := 5) (N := some 31) #[true, true, true, true, true, true, true, true, false, false] rfl rfl (one_of HT_.out (by kernel_rfl)) (by decide) (fun K hK => ?_)
                refine goes_ Try.func27 (by kernel_rfl) rfl #[.agg #[.slice A5 T.length c5, .slice A6 L.length c6], .agg #[.int .i64 by_, .int .i64 bo]] (by rfl) rfl rfl (by (try simp only [List.map_toArray, List.map_cons, List.map_nil]); first | done | rfl | (simp only [List.length_drop, List.length_take]; rfl)) ?_
                refine (comfitref02_Taken.calls k A5 c5 T A6 c6 L by_ bo y1 y2 _ (Kd.C_below HR0.out.2 hHeld.2.2.2.2.2.2.2) HR0.out.1 (Kd.C_below HR1.out.2 hHeld.2.2.2.2.2.2.2) HR1.out.1 HT2.out).mono ?_
                rintro e wr34 ⟨rfl, hb⟩
                refine ⟨_, rfl, ?_⟩
                replace HX := Aside0.mk (HX.out.below hb)
                replace HZ := Aside0.mk (HZ.out.below hb)
                refine hK.out _ _ (C3.below hHeld hb) (fun hHeld => ?_)
                clear hK K hb
                refine norm_ (a' := ?_) ?_ ?_
                rotate_left
                · show Act.put _ (some 31) _ = _
                  simp only [Act.put, List.setIfInBounds_toArray, List.set_cons_zero, List.set_cons_succ, i64_w, i32_w]
                  rfl
                exact norm_ (by simp only [putAll, Act.put, List.setIfInBounds_toArray, List.set_cons_zero, List.set_cons_succ]) (hCont (gx, gz) _ ⟨hHeld, HX.out, HZ.out, HNE.out⟩)
          rintro ⟨gx, gz⟩ wt ⟨hHeld, hbx, hbz, hne⟩
          have HX := Aside0.mk hbx
          have HZ := Aside0.mk hbz
          have HNE := Aside0.mk hne
          have HNE' := Aside0.mk (Ne.symm hne)
          clear hbx hbz hne
          refine norm_ (a' := ?_) ?_ ?_
          rotate_left
          · simp only [putAll, Act.put, List.setIfInBounds_toArray, List.set_cons_zero, List.set_cons_succ]
            rfl
          refine one_ (i := 8) (N := none) #[true, true, true, true, true, true, true, true, true, false] rfl rfl (one_of HT_.out (by kernel_rfl)) (by decide) (fun K hK => ?_)
          have hs0_ := HX.out.cell 0 rfl
          have hs1_ := HX.out.cell 1 rfl
          have fs0_ := HX.out.frozen 0
          have fs1_ := HX.out.frozen 1
          refine skip_ (w1 := ?_) (by rfl) rfl ?_ ?_
          rotate_left
          · go_simp
            rfl
          have HL1 := Aside0.mk (below_set' (below_set' hHeld.2.2.2.2.2.2.2 (p := ⟨gx, 0, none⟩) HX.out.1 (.int .i64 x1)) (p := ⟨gx, 1, none⟩) HX.out.1 (.int .i64 x2))
          refine hK.out _ _ (c3_of B12.out B4.out B5.out HB.out HL1.out) (fun hHeld => ?_)
          clear hK K hHeld hs0_ hs1_ fs0_ fs1_
          replace HX : Aside0 (Box w6 gx #[.int .i64 x1, .int .i64 x2] 28 _) := ⟨(HX.out.put 0 (.int .i64 x1)).put 1 (.int .i64 x2)⟩
          replace HZ := Aside0.mk ((HZ.out.far (p := ⟨gx, 0, none⟩) HNE'.out (.int .i64 x1)).far (p := ⟨gx, 1, none⟩) HNE'.out (.int .i64 x2))
          generalize ((wt.setCell _ _).setCell _ _) = wu at HX HZ HL1 ⊢
          refine one_ (i := 9) (N := none) #[true, true, true, true, true, true, true, true, true, true] rfl rfl (one_of HT_.out (by kernel_rfl)) (by decide) (fun K hK => ?_)
          have hs0_ := HZ.out.cell 0 rfl
          have hs1_ := HZ.out.cell 1 rfl
          have fs0_ := HZ.out.frozen 0
          have fs1_ := HZ.out.frozen 1
          refine skip_ (w1 := ?_) (by rfl) rfl ?_ ?_
          rotate_left
          · go_simp
            rfl
          have HL2 := Aside0.mk (below_set' (below_set' HL1.out (p := ⟨gz, 0, none⟩) HZ.out.1 (.int .i64 y1)) (p := ⟨gz, 1, none⟩) HZ.out.1 (.int .i64 y2))
          refine hK.out _ _ (c3_of B12.out B4.out B5.out HB.out HL2.out) (fun hHeld => ?_)
          clear hK K hHeld hs0_ hs1_ fs0_ fs1_
          replace HZ : Aside0 (Box w6 gz #[.int .i64 y1, .int .i64 y2] 28 _) := ⟨(HZ.out.put 0 (.int .i64 y1)).put 1 (.int .i64 y2)⟩
          replace HX := Aside0.mk ((HX.out.far (p := ⟨gz, 0, none⟩) HNE.out (.int .i64 y1)).far (p := ⟨gz, 1, none⟩) HNE.out (.int .i64 y2))
          generalize ((wu.setCell _ _).setCell _ _) = wv at HX HZ HL2 ⊢
          refine done_ (done_of HT_.out (by kernel_rfl)) ?_
          clear HT_ HW_ HL1
          replace B4 := Aside0.mk (B4.out.below HL2.out)
          replace B5 := Aside0.mk (B5.out.below HL2.out)
          replace B6 := Aside0.mk (B6.out.below HL2.out)
          replace B7 := Aside0.mk (B7.out.below HL2.out)
          replace B8 := Aside0.mk (B8.out.below HL2.out)
          replace HB := Aside0.mk (below_step HB.out HL2.out)
          replace HW := Aside0.mk (below_step HW.out HL2.out)
          clear HL2 HT1 HT2 HR0 HR1 B12
          have BX := HX
          have BZ := HZ
          clear HX HZ
          have fB60_ := B6.out.cell 0 rfl
          have fB61_ := B6.out.cell 1 rfl
          have fB70_ := B7.out.cell 0 rfl
          have fB71_ := B7.out.cell 1 rfl
          have fBX0_ := BX.out.cell 0 rfl
          have fBX1_ := BX.out.cell 1 rfl
          have fBZ0_ := BZ.out.cell 0 rfl
          have fBZ1_ := BZ.out.cell 1 rfl
          have c80 := B8.out.cell 0 rfl
          have c81 := B8.out.cell 1 rfl
          have f80 := B8.out.frozen 0
          have f81 := B8.out.frozen 1
          have k8_ := B8.out
          have HBN := HB
          have HWN := HW
          have HWR : Aside0 (wrap64 ((c : Int) + 1) = ((c + 1 : Nat) : Int)) := ⟨by unfold wrap64; omega⟩
          by_cases h1 : wrap64 (wrap64 (x2 - x1) * ro) ≤ wrap64 (ry * x2)
          · have h1b := decide_eq_true h1
            by_cases h2 : wrap64 (y1 * ao) ≤ wrap64 (ay * y2)
            · as_aux_lemma =>
              have h2b := decide_eq_true h2
              have hCt : Cd n c = true := by rw [HCc.out]; unfold fOk; dsimp only; rw [h1b, h2b]; rfl
              have hM := (fMid_yes Cd n c hcn hCt).symm.trans HM.out
              obtain ⟨rfl, rfl, rfl⟩ : r1 = (n : Int) ∧ r2 = (c : Int) ∧ e0 = 0 := by
                rcases HRES.out with ⟨a, b, ha, hr⟩ | ⟨ha, hr⟩
                · rw [← hM] at ha
                  injection ha with ha
                  injection ha with ha hb
                  subst ha
                  subst hb
                  exact hr
                · rw [← hM] at ha
                  exact absurd ha (by simp)
              clear hM HRES HM HCc HCD HXY
              go_wp2_with fail
              refine bodyPost_ret (results_ct rfl _ _ (w.heap.size + 1 + 1 + 1 + 1) 67 #[.int .i64 (n : Int), .int .i64 (c : Int)] (0, 0) _ rfl ((k8_.put 0 _).put 1 _).2 Try.underlying67 rfl (by kernel_rfl)) rfl ⟨rfl, below_set' (below_set' HBN.out g8_ _) g8_ _⟩
            · as_aux_lemma =>
              have h2b := decide_eq_false h2
              have HM2 : Aside0 (fMid Cd n (c + 1) = fN Cd 12 1) := ⟨(fMid_no Cd n c hcn (by rw [HCc.out]; unfold fOk; dsimp only; rw [h2b, Bool.and_false])).symm.trans HM.out⟩
              go_wp2_with fail
              exact ⟨⟨c + 1, by first | rw [HWR.out] | (congr 1 <;> omega), hcn, HM2, HWN⟩, meas_c n c _ (by first | exact HWR.out | omega) hcn⟩
          · as_aux_lemma =>
            have h1b := decide_eq_false h1
            have HM2 : Aside0 (fMid Cd n (c + 1) = fN Cd 12 1) := ⟨(fMid_no Cd n c hcn (by rw [HCc.out]; unfold fOk; dsimp only; rw [h1b, Bool.false_and])).symm.trans HM.out⟩
            go_wp2_with fail
            exact ⟨⟨c + 1, by first | rw [HWR.out] | (congr 1 <;> omega), hcn, HM2, HWN⟩, meas_c n c _ (by first | exact HWR.out | omega) hcn⟩
        · as_aux_lemma =>
          have hcb : decide ((c : Int) < (n : Int)) = false := decide_eq_false (by omega)
          have hcp : ((c : Int) < (n : Int)) = False := eq_false (by omega)
          obtain rfl : c = n := by omega
          have HF3 : Aside0 (fN Cd (13 - (c + 1)) (c + 1) = fN Cd 12 1) := ⟨(fMid_out Cd c).symm.trans HM.out⟩
          have HWR : Aside0 (wrap64 ((c : Int) + 1) = ((c + 1 : Nat) : Int)) := ⟨by unfold wrap64; omega⟩
          go_wp2_with fail
          exact ⟨⟨c + 1, by first | rw [HWR.out] | (congr 1 <;> omega), by omega, by omega, HF3, HW⟩, meas_n c _ (by first | exact HWR.out | omega) hn⟩
    · as_aux_lemma =>
      have hnb : decide ((n : Int) ≤ 12) = false := decide_eq_false (by omega)
      have hF := (fN_out Cd n (by omega)).symm.trans HF.out
      obtain ⟨rfl, rfl, rfl⟩ : r1 = 0 ∧ r2 = 0 ∧ e0 = 4 := by
        rcases HRES.out with ⟨a, b, ha, hr⟩ | ⟨ha, hr⟩
        · rw [← hF] at ha
          exact absurd ha (by simp)
        · exact hr
      replace B8 := Aside0.mk (B8.out.below HW.out)
      replace HB := Aside0.mk (below_step HB.out HW.out)
      have c80 := B8.out.cell 0 rfl
      have c81 := B8.out.cell 1 rfl
      have f80 := B8.out.frozen 0
      have f81 := B8.out.frozen 1
      clear hF HF HRES
      go_wp2_with fail
      refine bodyPost_ret (results_ct rfl _ _ (w.heap.size + 1 + 1 + 1 + 1) 67 #[.int .i64 0, .int .i64 0] (0, 0) _ rfl ((B8.out.put 0 _).put 1 _).2 Try.underlying67 rfl (by kernel_rfl)) rfl ⟨rfl, below_set' (below_set' HB.out g8_ _) g8_ _⟩
end Go.Proofs.Ytdppnmfljfdhaaa.X
