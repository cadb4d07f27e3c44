/- The contract of tags.Fewer: the machine without the orders that are not reached. -/
import Derived.Test.YtmlbdkkdejecmaaQMReach
import Derived.Maps.OwnSet
import Derived.Maps.OwnOps
import Derived.Laws.EntriesVeiled
import Derived.Carry
set_option linter.unusedVariables false
set_option linter.unusedSimpArgs false
namespace Go.Proofs.Ytmlbdkkdejecmaa.X
open Go.RowKit Go.Proofs.YtmlbdkkdejecmaaW.PrintWords Go.Proofs.YtmlbdkkdejecmaaW.PrintLast Go.Proofs.YtmlbdkkdejecmaaW.PrintMore
attribute [local go_sem] Oper.semAt_some
open Go.Maps in
theorem tidy_of {W : World} {b n : Nat} {D : DataW Unit} (h : W.ownsMap Try.prog 3 (plainElem Try.prog 3) b n D) : Tidy D := World.ownsMap.tidy h lawK
def tags_Fewer.f (l : List S45) : Option (List S45 × Int) := if isM l = true then some (outB (marks l) l l.length, 0) else some ([], 2)
theorem VSt.grown {w0 : World} {base g g4 g1 g5 cap c : Nat} {A : Option Addr} {l : List S45} {B : List Bool} {W W' : World} {row : Option Nat} (h : VSt w0 base g g4 g1 g5 cap A c l B W) (hg : W.grownBy W' row) (h0 : ∀ k, row = some k → w0.heap.size ≤ k) (hn : row ≠ some g ∧ row ≠ some g4 ∧ row ≠ some g1 ∧ row ≠ some g5) : VSt w0 base g g4 g1 g5 cap A c l B W' :=
  ⟨Kd.R_grown h.row hg (fun k e => by rw [e]; exact fun e2 => hn.1 e2.symm), cell_grown_of hg h.c4 (fun e => hn.2.1 e.symm), cell_grown_of hg h.c1 (fun e => hn.2.2.1 e.symm), cell_grown_of hg h.c5 (fun e => hn.2.2.2 e.symm), h.came, h.bel.grown hg h.bel.size (fun k e => h0 k e), h.hb, h.n4, h.n1, h.n5⟩
theorem isM_ok {l : List S45} (h : isM l = true) : ∀ j, j < l.length → 0 ≤ (l.getD j z45).f2 ∧ (l.getD j z45).f2 < l.length ∧ 0 ≤ (l.getD j z45).f3 ∧ (l.getD j z45).f3 < l.length := by
  intro j hj
  unfold isM at h
  simp only [Bool.and_eq_true, Bool.not_eq_true', List.any_eq_false] at h
  have h2 := h.2.2 (l.getD j z45) (by rw [show l.getD j z45 = l[j] by simp [hj]]; exact List.getElem_mem hj)
  generalize l.getD j z45 = x at h2
  unfold badO at h2
  split at h2
  · exact absurd rfl h2
  split at h2
  · exact absurd rfl h2
  split at h2
  · exact absurd rfl h2
  split at h2
  · exact absurd rfl h2
  rename_i a1 a2 a3 a4
  unfold mn at a3
  unfold mx at a4
  omega
theorem Cells.cell_new (W : World) (v : Value) (t : TypeId) : (W.alloc (.cells #[v] t)).cell? ⟨W.heap.size, 0, none⟩ = some v := by
  have h := heap_alloc_new W (.cells #[v] t)
  simp only [World.cell?, h]
  rfl
theorem VSt.start {w0 w2 : World} {base g g1 cap c : Nat} {A : Option Addr} {l : List S45} {n : Nat} (hn : n = l.length) (hr : Kd.R Kd.bool 4 w2 base (fun k => k = g) (.slice (some ⟨g, 0, none⟩) n cap) (List.replicate n false)) (h1 : w2.cell? ⟨g1, 0, none⟩ = some (.slice A l.length c)) (hc : Kd.C k45 w0 A l.length l) (hb : Below w0.heap.size w0 w2) (hg : w0.heap.size ≤ g) (hgl : g < w2.heap.size) (hn1 : g1 ≠ g) :
    VSt w0 base g w2.heap.size g1 (w2.heap.size + 1) cap A c l (List.replicate n false) ((w2.alloc (.cells #[.slice (some ⟨g, 0, none⟩) n cap] 75)).alloc (.cells #[.func (.func 41) #[] #[.pointer (some ⟨w2.heap.size, 0, none⟩), .pointer (some ⟨g1, 0, none⟩), .pointer (some ⟨w2.heap.size + 1, 0, none⟩)]] 76)) := by
  have hg2 : w2.grownBy (w2.alloc (.cells #[.slice (some ⟨g, 0, none⟩) n cap] 75)) none := World.grownBy_alloc _ _ _
  refine ⟨by rw [List.length_replicate]; exact Kd.R_alloc (Kd.R_alloc hr _) _, ?_, ?_, ?_, hc, below_alloc (below_alloc hb _) _, hg, by omega, hn1, by omega⟩
  · rw [List.length_replicate]
    exact cell_grown_of (World.grownBy_alloc _ _ none) (Cells.cell_new _ _ _) (by simp)
  · exact cell_grown_of (World.grownBy_alloc _ _ none) (cell_grown_of (World.grownBy_alloc _ _ none) h1 (by simp)) (by simp)
  · have h := Cells.cell_new (w2.alloc (.cells #[.slice (some ⟨g, 0, none⟩) n cap] 75)) (.func (.func 41) #[] #[.pointer (some ⟨w2.heap.size, 0, none⟩), .pointer (some ⟨g1, 0, none⟩), .pointer (some ⟨w2.heap.size + 1, 0, none⟩)]) 76
    rw [show (w2.alloc (.cells #[.slice (some ⟨g, 0, none⟩) n cap] 75)).heap.size = w2.heap.size + 1 from by simp [World.alloc, -World.alloc_eq]] at h
    exact h
theorem VSt.alloc {w0 : World} {base g g4 g1 g5 cap c : Nat} {A : Option Addr} {l : List S45} {B : List Bool} {W : World} (h : VSt w0 base g g4 g1 g5 cap A c l B W) (o : Obj) : VSt w0 base g g4 g1 g5 cap A c l B (W.alloc o) :=
  h.grown (World.grownBy_alloc W o none) (fun k e => by cases e) ⟨by simp, by simp, by simp, by simp⟩
def okF (a b c d e k : Nat) : Prop := some a ≠ some k ∧ some b ≠ some k ∧ some c ≠ some k ∧ some d ≠ some k ∧ some e ≠ some k
theorem info45' : (Try.prog.info? 45).map (fun i => (i.zero, i.size, i.bytes)) = some (some (.agg #[.int .i64 0, .int .i64 0, .int .i64 0, .int .i64 0]), 4, 32) := by kernel_rfl
theorem info4' : (Try.prog.info? 4).map (fun i => (i.zero, i.size, i.bytes)) = some (some (.bool false), 1, 1) := by kernel_rfl
set_option maxRecDepth 100000 in
set_option maxHeartbeats 16000000 in
theorem tags_Fewer.calls (A0 : Option Addr) (c0 : Nat) (l0 : List S45) (r1 : List S45) (r2 : Int) (w : World) (hr0 : Kd.C k45 w A0 l0.length l0) (hc0 : l0.length ≤ c0) (h : tags_Fewer.f l0 = some (r1, r2)) :
    Calls Try.prog 15 #[.slice A0 l0.length c0] w fun e w' => ∃ v0_ : Value, e = .returned (.tuple #[v0_, .int .i64 r2]) ∧ Kd.R k45 45 w' w.heap.size (fun _ => True) v0_ r1 ∧ Below w.heap.size w w' := by
  have HR0 := Aside0.mk hr0
  have HB := Aside0.mk (below_alloc (Below.refl w.heap.size w) (.cells #[.slice A0 l0.length c0] 42))
  have B1 := Aside0.mk (Box.new (Below.refl w.heap.size w) #[.slice A0 l0.length c0] 42)
  unfold tags_Fewer.f at h
  by_cases hm : isM l0 = true
  · rw [if_pos hm] at h
    have HM : Aside0 (tags_isMachine.f l0 = some true) := ⟨by unfold tags_isMachine.f; rw [hm]⟩
    obtain ⟨rfl, rfl⟩ := Prod.mk.inj (Option.some.inj h)
    have hlen : 1 ≤ l0.length ∧ l0.length ≤ 8 := by unfold isM at hm; simp at hm; exact ⟨hm.1, hm.2.1⟩
    have HL := Aside0.mk hlen
    have HC0 := Aside0.mk hc0
    have HMM := Aside0.mk hm
    clear h hm hr0 hc0 hlen
    have hmm := @run_makeMap Try.prog
    have hlb : decide (0 ≤ (l0.length : Int)) = true := decide_eq_true (by omega)
    go_enter Try.func15, Try.ntmps15
    go_wp2_with fail
    refine (tags_isMachine.calls A0 c0 l0 true _ (Kd.C_below HR0.out HB.out) HC0.out HM.out).mono ?_
    rintro e w1 ⟨rfl, hb⟩
    replace HB := Aside0.mk (below_step HB.out hb)
    replace B1 := Aside0.mk (B1.out.below hb)
    clear hb
    have c1_ := B1.out.cell 0 rfl
    go_wp2_with (first | ((with_reducible refine gate_dst (N := 17) rfl ?_); refine Kd.R_make Kd.bool w1.heap.size 4 rfl (N := 17) rfl 75 _ _ rfl (l0.length : Int) rfl rfl Try.underlying75 (.bool false) 1 info4' rfl (by decide) (by omega) false (ok := fun k => k = w1.heap.size) (okp := fun _ => False) rfl (fun _ hk => hk.elim) rfl (by omega) (by have := HL.out; omega) (Below.refl _ _) (Nat.le_refl _) ?_; intro v17 w2 ho hb hg_ hnew_; clear hg_ hnew_; (obtain ⟨g, cap, rfl, hgb, hgl, _⟩ := Kd.R_form ho (by rw [List.length_replicate]; have := HL.out; omega)); have HO := Aside0.mk ho; have HB2 := Aside0.mk hb; have HG := Aside0.mk hgb; have HGL := Aside0.mk hgl; clear ho hb hgb hgl))
    have hge : g = w1.heap.size := HO.out.1 g rfl
    have hg1 := World.block_lt_of_cell? w1 _ c1_
    have hb1 := HB.out.size
    simp only at hg1
    refine (visit.calls (w0 := w) (base := w1.heap.size) (g := g) (g4 := w2.heap.size) (g1 := w.heap.size) (g5 := w2.heap.size + 1) (cap := cap) (c := c0) (A := A0) (l := l0) (isM_ok HMM.out) (l0.length + 1) (List.replicate l0.length false) 0 _ (by rw [unr_new]; omega) (by simp) (by have := HL.out; omega) (VSt.start rfl (by have := HO.out; simp only [Int.toNat_natCast, List.length_replicate] at this; exact Kd.R_mono this (fun k hk => hk.trans hge.symm)) ((HB2.out.cell hg1).trans c1_) HR0.out (below_step HB.out HB2.out) (by omega) HGL.out (by omega))).mono ?_
    rintro e w5 ⟨⟨rv, rfl⟩, hV⟩
    have HMC := Aside0.mk (fun j => marks_closed (isM_ok HMM.out) (by have := HL.out; omega) j)
    obtain ⟨B, hBe⟩ : ∃ B, marks l0 = B := ⟨_, rfl⟩
    have hBl : B.length = l0.length := by rw [← hBe]; exact marks_len l0
    replace hV : VSt w w1.heap.size g w2.heap.size w.heap.size (w2.heap.size + 1) cap A0 c0 l0 (marks l0) w5 := hV
    rw [hBe] at hV HMC
    have HBE := Aside0.mk hBe
    have HBL := Aside0.mk hBl
    have HGE := Aside0.mk hge
    have c4_ := hV.c4
    have c1b_ := hV.c1
    have c5_ := hV.c5
    rw [hBl] at c4_
    have hm5 := World.block_lt_of_cell? w5 _ c4_
    have hm1 := World.block_lt_of_cell? w5 _ c1b_
    have hmc := World.block_lt_of_cell? w5 _ c5_
    simp only at hm5 hm1 hmc
    have HMB := Aside0.mk (show w.heap.size ≤ w5.heap.size ∧ (some w5.heap.size ≠ some g ∧ some w5.heap.size ≠ some w2.heap.size ∧ some w5.heap.size ≠ some w.heap.size ∧ some w5.heap.size ≠ some (w2.heap.size + 1)) from ⟨by omega, by have := HGL.out; simp only [ne_eq, Option.some.injEq]; omega⟩)
    have HG4 := Aside0.mk (show w.heap.size < w2.heap.size from by have := HGL.out; omega)
    have HV6 := Aside0.mk (hV.grown (World.grownBy_alloc w5 (.map #[] 0) none) (fun k e => by cases e) ⟨by simp, by simp, by simp, by simp⟩)
    have HW6 := Aside0.mk (World.ownsMap_made w5 Try.prog 3 (plainElem (H := Unit) Try.prog 3))
    clear hg1 hb1 hge hBl hBe hV
    go_wp2_with fail
    go_loopw [24] (fun v24 W => ∃ (i : Nat) (D : DataW Unit), v24 = .int .i64 (i : Int) ∧ i ≤ l0.length ∧ Aside0 (NumIs B i D) ∧ Aside0 (W.ownsMap Try.prog 3 (plainElem Try.prog 3) w5.heap.size i D) ∧ Aside0 (VSt w w1.heap.size g w2.heap.size w.heap.size (w2.heap.size + 1) cap A0 c0 l0 B W)) (fun v24 _ => l0.length - (intOf v24).toNat)
    case atStart => exact ⟨0, _, rfl, by omega, ⟨NumIs.start B⟩, HW6, HV6⟩
    case round =>
      clear c4_ c1b_ c5_ c1_ hm5 hm1 hmc
      obtain ⟨i, D, rfl, hi, HN, HM6, HV⟩ := hrel
      by_cases hil : i < l0.length
      · have hib : decide ((i : Int) < (l0.length : Int)) = true := decide_eq_true (by omega)
        have hip : ((i : Int) < (l0.length : Int)) = True := eq_true (by omega)
        have p0_ : (0 ≤ (i : Int)) = True := eq_true (by omega)
        have HWR : Aside0 (wrap64 ((i : Int) + 1) = ((i + 1 : Nat) : Int)) := ⟨by have := HL.out; unfold wrap64; omega⟩
        have hBl := HBL.out
        obtain ⟨hrc, hrf⟩ := Kd.R_celln false HV.out.row (i : Int) (by omega) (by omega)
        simp only [Int.toNat_natCast] at hrc hrf
        have HRD : Aside0 (rdOf false B (i : Int) = hasB B i) := ⟨rfl⟩
        generalize rdOf false B (i : Int) = bv at hrc HRD
        clear hBl
        cases bv with
        | true =>
          have hlen := HM6.out.len Try.underlying77 3
          rw [HN.out.size] at hlen
          go_wp2_with (first | (at_mapUpdate; refine wpList_mapUpdate_own _ rfl _ _ _ 77 rfl 3 3 lawK Try.underlying77 (plainElem Try.prog 3) w5.heap.size i D rfl HM6.out (by have := HL.out; unfold maxLen; omega) (.int .i64 (i : Int)) (.int .i64 (cnt B i : Int)) (.int .i64 (i : Int)) rfl rfl (keyN i (by omega) (by have := HL.out; omega)) (.lit (.int .i64 (cnt B i : Int))) [] (plainElem_int Try.underlying3 (WalkArith.wf_i64 (by have := HL.out; have := cnt_le B i; omega))) ?_; intro w7 hown hgw; have HO7 := Aside0.mk hown; have HG7 := Aside0.mk hgw; clear hown hgw))
          exact ⟨⟨i + 1, _, by first | rw [HWR.out] | (congr 1 <;> omega), hil, ⟨HN.out.yes (tidy_of HM6.out) HRD.out.symm⟩, HO7, ⟨HV.out.grown HG7.out (fun k e => by cases e; exact HMB.out.1) HMB.out.2⟩⟩, meas_i l0.length i _ (by first | exact HWR.out | omega) hil⟩
        | false =>
          go_wp2_with fail
          exact ⟨⟨i + 1, D, by first | rw [HWR.out] | (congr 1 <;> omega), hil, ⟨HN.out.no HRD.out.symm⟩, ⟨HM6.out.mono (by omega)⟩, HV⟩, meas_i l0.length i _ (by first | exact HWR.out | omega) hil⟩
      · have hib : decide ((i : Int) < (l0.length : Int)) = false := decide_eq_false (by omega)
        have hip : ((i : Int) < (l0.length : Int)) = False := eq_false (by omega)
        obtain rfl : i = l0.length := by omega
        have HND := Aside0.mk HN.out.at_
        have c1_ := HV.out.c1
        go_wp2_with fail
        go_loopw [37, 9] (fun v37 v9 W => ∃ (i : Nat), v37 = .int .i64 (i : Int) ∧ i ≤ l0.length ∧ Aside0 (W.ownsMap Try.prog 3 (plainElem Try.prog 3) w5.heap.size l0.length D) ∧ Aside0 (VSt w w1.heap.size g w2.heap.size w.heap.size (w2.heap.size + 1) cap A0 c0 l0 B W) ∧ Aside0 (Kd.R k45 45 W w.heap.size (okF g w2.heap.size w.heap.size (w2.heap.size + 1) w5.heap.size) v9 (outB B l0 i))) (fun v37 _ _ => l0.length - (intOf v37).toNat)
        case atStart => exact ⟨0, rfl, by omega, HM6, HV, ⟨Kd.R_nil _ _ _ _ _⟩⟩
        case round =>
          clear c1_
          clear hib hip
          obtain ⟨i, rfl, hi, HM7, HV7, HO7⟩ := hrel
          by_cases hil : i < l0.length
          · have hib : decide ((i : Int) < (l0.length : Int)) = true := decide_eq_true (by omega)
            have hip : ((i : Int) < (l0.length : Int)) = True := eq_true (by omega)
            have p0_ : (0 ≤ (i : Int)) = True := eq_true (by omega)
            have HWR : Aside0 (wrap64 ((i : Int) + 1) = ((i + 1 : Nat) : Int)) := ⟨by have := HL.out; unfold wrap64; omega⟩
            have hBl := HBL.out
            obtain ⟨hrc, hrf⟩ := Kd.R_celln false HV7.out.row (i : Int) (by omega) (by omega)
            simp only [Int.toNat_natCast] at hrc hrf
            have HRD : Aside0 (rdOf false B (i : Int) = hasB B i) := ⟨rfl⟩
            generalize rdOf false B (i : Int) = bv at hrc HRD
            have q1_ : ((i : Int) < (B.length : Int)) = True := eq_true (by omega)
            clear hBl
            have c4_ := HV7.out.c4
            have c1_ := HV7.out.c1
            rw [HBL.out] at c4_
            have hm4 := World.block_lt_of_cell? _ _ c4_
            have hmr := World.block_lt_of_cell? _ _ hrc
            simp only at hm4 hmr
            obtain ⟨ad, rfl, e0, e1, e2, e3⟩ := at_T45 (Kd.C_below HR0.out HV7.out.bel) (i : Int) (by omega) (by omega)
            simp only [Int.toNat_natCast] at e0 e1 e2 e3
            have HX : Aside0 (rd_T45 l0 (i : Int) = l0.getD i z45) := ⟨rfl⟩
            generalize rd_T45 l0 (i : Int) = x at e0 e1 e2 e3 HX
            have HCL := Aside0.mk (HMC.out i)
            have HFR : Aside0 (∀ k, wr.heap.size ≤ k → okF g w2.heap.size w.heap.size (w2.heap.size + 1) w5.heap.size k) := ⟨by
              have a1 := World.block_lt_of_cell? _ _ HV7.out.c1
              have a4 := World.block_lt_of_cell? _ _ HV7.out.c4
              have a5 := World.block_lt_of_cell? _ _ HV7.out.c5
              have am := HM7.out.lt
              simp only at a1 a4 a5
              intro k hk
              unfold okF
              simp only [ne_eq, Option.some.injEq]
              omega⟩
            have HOK := Aside0.mk (isM_ok HMM.out i hil)
            cases bv with
            | false =>
              go_wp2_with fail
              refine ⟨⟨i + 1, by first | rw [HWR.out] | (congr 1 <;> omega), hil, ⟨by repeat (first | exact HM7.out | apply World.ownsMap.alloc | apply World.ownsMap.drew)⟩, ⟨by repeat (first | exact HV7.out | apply VSt.alloc | apply VSt.drew)⟩, ?_⟩, meas_i l0.length i _ (by first | exact HWR.out | omega) hil⟩
              rw [outB_no HRD.out.symm]
              exact ⟨by repeat (first | exact HO7.out | apply Kd.R_alloc | apply Kd.R_drew)⟩
            | true =>
              have HC := Aside0.mk (HCL.out HRD.out.symm)
              by_cases h0 : x.f0 = 0
              · have h0b : (x.f0 != 0) = false := bne_eq_false_iff_eq.mpr h0
                have h0c : (x.f0 == 0) = true := beq_iff_eq.mpr h0
                have h2b : (x.f0 == 2) = false := beq_eq_false_iff_ne.mpr (by omega)
                have HRN : Aside0 (renum B x = x) := ⟨by unfold renum; rw [if_pos h0, if_neg (by omega)]⟩
                clear h0
                go_wp2_with (first | ((with_reducible refine gate_builtin (b := .append) (xs := #[.tmp 62, .tmp 64]) rfl ?_); at_builtin; refine Kd.R_append k45 (w0 := w) w.heap.size rfl (.tmp 62) (.tmp 64) 42 45 (.agg #[(.int .i64 0), (.int .i64 0), (.int .i64 0), (.int .i64 0)]) 32 rfl Try.underlying42 info45' rfl (by decide) (by omega) u9 (outB B l0 i) x [.int .i64 x.f0, .int .i64 x.f1, .int .i64 x.f2, .int .i64 x.f3] (okF g w2.heap.size w.heap.size (w2.heap.size + 1) w5.heap.size) (fun _ => False) rfl (by first | (go_simp; done) | (go_simp; rfl)) ?aP (fun _ hk => hk.elim) ?aF ?aO ?aB ?aS ?aL ?_; (case aP => exact k45_mkM _ _ _ x); (case aB => repeat (first | exact HV7.out.bel | apply below_alloc | apply below_drew)); (case aF => exact fun k hk => HFR.out k (Nat.le_trans (by simp [World.alloc, -World.alloc_eq]) hk)); (case aO => (repeat (first | exact HO7.out | apply Kd.R_alloc | apply Kd.R_drew))); (case aS => exact below_size (by repeat (first | exact HV7.out.bel | apply below_alloc | apply below_drew))); (case aL => have := outB_len B l0 i; have := cnt_le B i; have := HL.out; omega); intro v1 w8 ho hb hg hat; have HO8 := Aside0.mk ho; have HG8 := Aside0.mk hg; clear ho hb hg hat))
                refine ⟨⟨i + 1, by first | rw [HWR.out] | (congr 1 <;> omega), hil, ⟨World.ownsMap.kept (by repeat (first | exact HM7.out | apply World.ownsMap.alloc | apply World.ownsMap.drew)) HG8.out (Kd.R_away HO7.out (fun k hk e => hk.2.2.2.2 (congrArg some e.symm)))⟩, ⟨VSt.grown (by repeat (first | exact HV7.out | apply VSt.alloc | apply VSt.drew)) HG8.out (fun k e => ((Kd.R_bound HO7.out).1 k e).2.1) ⟨fun e => Kd.R_away HO7.out (fun k hk e2 => hk.1 (congrArg some e2.symm)) e.symm, fun e => Kd.R_away HO7.out (fun k hk e2 => hk.2.1 (congrArg some e2.symm)) e.symm, fun e => Kd.R_away HO7.out (fun k hk e2 => hk.2.2.1 (congrArg some e2.symm)) e.symm, fun e => Kd.R_away HO7.out (fun k hk e2 => hk.2.2.2.1 (congrArg some e2.symm)) e.symm⟩⟩, ?_⟩, meas_i l0.length i _ (by first | exact HWR.out | omega) hil⟩
                rw [outB_yes HRD.out.symm, ← HX.out, HRN.out]
                exact HO8
              · have h0b : (x.f0 != 0) = true := bne_iff_ne.mpr h0
                have h0c : (x.f0 == 0) = false := beq_eq_false_iff_ne.mpr h0
                have HK2 := Aside0.mk (show D.atKey (.int .i64 x.f2) (.lit (.int .i64 0)) = .lit (.int .i64 (cnt B x.f2.toNat : Int)) from by
                  have hc := HC.out.1
                  have ho := HOK.out
                  rw [← HX.out] at hc ho
                  have := HND.out x.f2.toNat (by omega) (hc h0)
                  rwa [Int.toNat_of_nonneg ho.1] at this)
                have HKN2 := Aside0.mk (show keyOf Try.prog 3 (.int .i64 x.f2) = some (.int .i64 x.f2) from by
                  have ho := HOK.out
                  have := HL.out
                  rw [← HX.out] at ho
                  exact keyN _ (by omega) (by omega))
                by_cases h2 : x.f0 = 2
                · have h2b : (x.f0 == 2) = true := beq_iff_eq.mpr h2
                  have HK3 := Aside0.mk (show D.atKey (.int .i64 x.f3) (.lit (.int .i64 0)) = .lit (.int .i64 (cnt B x.f3.toNat : Int)) from by
                    have hc := HC.out.2
                    have ho := HOK.out
                    rw [← HX.out] at hc ho
                    have := HND.out x.f3.toNat (by omega) (hc h2)
                    rwa [Int.toNat_of_nonneg ho.2.2.1] at this)
                  have HKN3 := Aside0.mk (show keyOf Try.prog 3 (.int .i64 x.f3) = some (.int .i64 x.f3) from by
                    have ho := HOK.out
                    have := HL.out
                    rw [← HX.out] at ho
                    exact keyN _ (by omega) (by omega))
                  have HRN : Aside0 (renum B x = ⟨x.f0, x.f1, (cnt B x.f2.toNat : Int), (cnt B x.f3.toNat : Int)⟩) := ⟨by unfold renum; rw [if_neg h0, if_pos h2]⟩
                  clear h0 h2
                  go_wp2_with (first | (at_lookup; refine wpList_lookup_own_int _ rfl _ _ 77 rfl 3 3 .i64 lawK Try.underlying77 Try.underlying3 (zero3 _) w5.heap.size l0.length D rfl (by repeat (first | exact HM7.out | apply World.ownsMap.alloc | apply World.ownsMap.drew)) (.int .i64 x.f2) (.int .i64 x.f2) rfl HKN2.out ?_; intro c hat _; (obtain rfl : (cnt B x.f2.toNat : Int) = c := by injection HK2.out.symm.trans hat with e; injection e); clear hat) | (at_lookup; refine wpList_lookup_own_int _ rfl _ _ 77 rfl 3 3 .i64 lawK Try.underlying77 Try.underlying3 (zero3 _) w5.heap.size l0.length D rfl (by repeat (first | exact HM7.out | apply World.ownsMap.alloc | apply World.ownsMap.drew)) (.int .i64 x.f3) (.int .i64 x.f3) rfl HKN3.out ?_; intro c hat _; (obtain rfl : (cnt B x.f3.toNat : Int) = c := by injection HK3.out.symm.trans hat with e; injection e); clear hat) | ((with_reducible refine gate_builtin (b := .append) (xs := #[.tmp 62, .tmp 64]) rfl ?_); at_builtin; refine Kd.R_append k45 (w0 := w) w.heap.size rfl (.tmp 62) (.tmp 64) 42 45 (.agg #[(.int .i64 0), (.int .i64 0), (.int .i64 0), (.int .i64 0)]) 32 rfl Try.underlying42 info45' rfl (by decide) (by omega) u9 (outB B l0 i) (⟨x.f0, x.f1, (cnt B x.f2.toNat : Int), (cnt B x.f3.toNat : Int)⟩ : S45) [.int .i64 x.f0, .int .i64 x.f1, .int .i64 (cnt B x.f2.toNat : Int), .int .i64 (cnt B x.f3.toNat : Int)] (okF g w2.heap.size w.heap.size (w2.heap.size + 1) w5.heap.size) (fun _ => False) rfl (by first | (go_simp; done) | (go_simp; rfl)) ?aP (fun _ hk => hk.elim) ?aF ?aO ?aB ?aS ?aL ?_; (case aP => exact k45_mkM _ _ _ (⟨x.f0, x.f1, (cnt B x.f2.toNat : Int), (cnt B x.f3.toNat : Int)⟩ : S45)); (case aB => repeat (first | exact HV7.out.bel | apply below_alloc | apply below_drew)); (case aF => exact fun k hk => HFR.out k (Nat.le_trans (by simp [World.alloc, -World.alloc_eq]) hk)); (case aO => (repeat (first | exact HO7.out | apply Kd.R_alloc | apply Kd.R_drew))); (case aS => exact below_size (by repeat (first | exact HV7.out.bel | apply below_alloc | apply below_drew))); (case aL => have := outB_len B l0 i; have := cnt_le B i; have := HL.out; omega); intro v1 w8 ho hb hg hat; have HO8 := Aside0.mk ho; have HG8 := Aside0.mk hg; clear ho hb hg hat))
                  refine ⟨⟨i + 1, by first | rw [HWR.out] | (congr 1 <;> omega), hil, ⟨World.ownsMap.kept (by repeat (first | exact HM7.out | apply World.ownsMap.alloc | apply World.ownsMap.drew)) HG8.out (Kd.R_away HO7.out (fun k hk e => hk.2.2.2.2 (congrArg some e.symm)))⟩, ⟨VSt.grown (by repeat (first | exact HV7.out | apply VSt.alloc | apply VSt.drew)) HG8.out (fun k e => ((Kd.R_bound HO7.out).1 k e).2.1) ⟨fun e => Kd.R_away HO7.out (fun k hk e2 => hk.1 (congrArg some e2.symm)) e.symm, fun e => Kd.R_away HO7.out (fun k hk e2 => hk.2.1 (congrArg some e2.symm)) e.symm, fun e => Kd.R_away HO7.out (fun k hk e2 => hk.2.2.1 (congrArg some e2.symm)) e.symm, fun e => Kd.R_away HO7.out (fun k hk e2 => hk.2.2.2.1 (congrArg some e2.symm)) e.symm⟩⟩, ?_⟩, meas_i l0.length i _ (by first | exact HWR.out | omega) hil⟩
                  rw [outB_yes HRD.out.symm, ← HX.out, HRN.out]
                  exact HO8
                · have h2b : (x.f0 == 2) = false := beq_eq_false_iff_ne.mpr h2
                  have HRN : Aside0 (renum B x = ⟨x.f0, x.f1, (cnt B x.f2.toNat : Int), x.f3⟩) := ⟨by unfold renum; rw [if_neg h0, if_neg h2]⟩
                  clear h0 h2
                  go_wp2_with (first | (at_lookup; refine wpList_lookup_own_int _ rfl _ _ 77 rfl 3 3 .i64 lawK Try.underlying77 Try.underlying3 (zero3 _) w5.heap.size l0.length D rfl (by repeat (first | exact HM7.out | apply World.ownsMap.alloc | apply World.ownsMap.drew)) (.int .i64 x.f2) (.int .i64 x.f2) rfl HKN2.out ?_; intro c hat _; (obtain rfl : (cnt B x.f2.toNat : Int) = c := by injection HK2.out.symm.trans hat with e; injection e); clear hat) | ((with_reducible refine gate_builtin (b := .append) (xs := #[.tmp 62, .tmp 64]) rfl ?_); at_builtin; refine Kd.R_append k45 (w0 := w) w.heap.size rfl (.tmp 62) (.tmp 64) 42 45 (.agg #[(.int .i64 0), (.int .i64 0), (.int .i64 0), (.int .i64 0)]) 32 rfl Try.underlying42 info45' rfl (by decide) (by omega) u9 (outB B l0 i) (⟨x.f0, x.f1, (cnt B x.f2.toNat : Int), x.f3⟩ : S45) [.int .i64 x.f0, .int .i64 x.f1, .int .i64 (cnt B x.f2.toNat : Int), .int .i64 x.f3] (okF g w2.heap.size w.heap.size (w2.heap.size + 1) w5.heap.size) (fun _ => False) rfl (by first | (go_simp; done) | (go_simp; rfl)) ?aP (fun _ hk => hk.elim) ?aF ?aO ?aB ?aS ?aL ?_; (case aP => exact k45_mkM _ _ _ (⟨x.f0, x.f1, (cnt B x.f2.toNat : Int), x.f3⟩ : S45)); (case aB => repeat (first | exact HV7.out.bel | apply below_alloc | apply below_drew)); (case aF => exact fun k hk => HFR.out k (Nat.le_trans (by simp [World.alloc, -World.alloc_eq]) hk)); (case aO => (repeat (first | exact HO7.out | apply Kd.R_alloc | apply Kd.R_drew))); (case aS => exact below_size (by repeat (first | exact HV7.out.bel | apply below_alloc | apply below_drew))); (case aL => have := outB_len B l0 i; have := cnt_le B i; have := HL.out; omega); intro v1 w8 ho hb hg hat; have HO8 := Aside0.mk ho; have HG8 := Aside0.mk hg; clear ho hb hg hat))
                  refine ⟨⟨i + 1, by first | rw [HWR.out] | (congr 1 <;> omega), hil, ⟨World.ownsMap.kept (by repeat (first | exact HM7.out | apply World.ownsMap.alloc | apply World.ownsMap.drew)) HG8.out (Kd.R_away HO7.out (fun k hk e => hk.2.2.2.2 (congrArg some e.symm)))⟩, ⟨VSt.grown (by repeat (first | exact HV7.out | apply VSt.alloc | apply VSt.drew)) HG8.out (fun k e => ((Kd.R_bound HO7.out).1 k e).2.1) ⟨fun e => Kd.R_away HO7.out (fun k hk e2 => hk.1 (congrArg some e2.symm)) e.symm, fun e => Kd.R_away HO7.out (fun k hk e2 => hk.2.1 (congrArg some e2.symm)) e.symm, fun e => Kd.R_away HO7.out (fun k hk e2 => hk.2.2.1 (congrArg some e2.symm)) e.symm, fun e => Kd.R_away HO7.out (fun k hk e2 => hk.2.2.2.1 (congrArg some e2.symm)) e.symm⟩⟩, ?_⟩, meas_i l0.length i _ (by first | exact HWR.out | omega) hil⟩
                  rw [outB_yes HRD.out.symm, ← HX.out, HRN.out]
                  exact HO8
          · have hib : decide ((i : Int) < (l0.length : Int)) = false := decide_eq_false (by omega)
            have hip : ((i : Int) < (l0.length : Int)) = False := eq_false (by omega)
            obtain rfl : i = l0.length := by omega
            go_wp2_with fail
            go_ret2
            exact ⟨_, rfl, by rw [HBE.out]; exact Kd.R_mono HO7.out (fun _ _ => trivial), HV7.out.bel⟩
  · rw [if_neg hm] at h
    have hm' := Bool.eq_false_iff.mpr hm
    have HM : Aside0 (tags_isMachine.f l0 = some false) := ⟨by unfold tags_isMachine.f; rw [hm']⟩
    obtain ⟨rfl, rfl⟩ := Prod.mk.inj (Option.some.inj h)
    clear h hm hm' hr0
    have HC0 := Aside0.mk hc0
    clear hc0
    go_enter Try.func15, Try.ntmps15
    go_wp2_with fail
    refine (tags_isMachine.calls A0 c0 l0 false _ (Kd.C_below HR0.out HB.out) HC0.out HM.out).mono ?_
    rintro e w1 ⟨rfl, hb⟩
    replace HB := Aside0.mk (below_step HB.out hb)
    clear hb
    go_wp2_with fail
    go_ret2
    exact ⟨_, rfl, Kd.R_nil _ _ _ _ _, HB.out⟩
end Go.Proofs.Ytmlbdkkdejecmaa.X
