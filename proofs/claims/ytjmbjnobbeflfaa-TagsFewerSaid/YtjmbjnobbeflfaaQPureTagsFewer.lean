/- The plain law of TagsFewer: the machine without what is not reached stays as it is, and runs as the machine. No conditions but the sizes that the arguments have. -/
import Derived.Test.YtjmbjnobbeflfaaQMRenum
import Derived.Test.YtjmbjnobbeflfaaQXcomfitlaw06TagsFewerD
import Derived.Test.YtjmbjnobbeflfaaQHRow
set_option linter.unusedVariables false
set_option linter.unusedSimpArgs false
namespace Go.Proofs.Ytjmbjnobbeflfaa.Pure
open Go.RowKit Go.Proofs.Ytjmbjnobbeflfaa.X Go.Proofs.YtjmbjnobbeflfaaW.PrintWords Go.Proofs.YtjmbjnobbeflfaaW.PrintLast Go.Proofs.YtjmbjnobbeflfaaW.PrintMore
theorem cloneF (l : List S57) (h : l.length ≤ 100) : tags_Order_28.f l = some l := by
  unfold tags_Order_28.f
  rw [Option.bind_some, if_pos (by simp; omega), List.nil_append]
theorem rd_vc (l : List S57) (i : Int) : rd_T39 (l.map vc) i = vc (rd_T57 l i) := by
  unfold rd_T57 rd_T39
  by_cases h : i.toNat < l.length
  · simp [h]
  · simp [h]; rfl
theorem few_ev {l : List S57} (hm : isM l = true) : tags_Fewer.f l = some (few l, 0) := by unfold tags_Fewer.f few; rw [if_pos hm]
theorem awF : Ev (fun k => (comfitlaw06_awake.f k).bind fun t => (some t)) true := Ev.bind awake_ev (Ev.const rfl)
theorem TF_j3 {l : List S39} (hg : Good (l.map cv)) {a b : Int} (hj : jarsOk a b = true) (n : Nat) (x : Int) :
    Ev (fun k => comfitlaw06_TagsFewer.j3 k l (few (l.map cv)) (lastP (tr (l.map cv) n (p0 a b))).f0 x (ph (l.map cv) (lastP (tr (l.map cv) n (p0 a b)))).f0 x false a b (lastP (tr (l.map cv) n (p0 a b))).f1.f0 (lastP (tr (l.map cv) n (p0 a b))).f1.f1 (lastP (tr (l.map cv) n (p0 a b))).f1.f0 (lastP (tr (l.map cv) n (p0 a b))).f1.f1) true := by
  have hm := (isM_good _).mpr hg
  have hle : l.length ≤ 8 := by have := hg.le; simpa using this
  have hO := Of_ev l (by omega)
  rw [good_take l hm] at hO
  have hgf := few_good hg
  have hA := last_at hg hj n
  have hAf := last_at hgf hj n
  have hk := last_mk hg hj n
  rw [last_few hg hj n] at hAf
  have hod := od_ph hk
  generalize lastP (tr (l.map cv) n (p0 a b)) = p at *
  refine Ev.succ (g := fun k => _) (Ev.bind hO (Ev.bind (Ends_ok hg hj) (Ev.bind (Ends_ok hgf hj) ?_))) (fun k => by rw [comfitlaw06_TagsFewer.j3, if_neg (by decide)])
  rw [ends_few hg hj]
  have h0 := hA.o0
  have h1 := hA.o1
  have h2 := hAf.o0
  have h3 := hAf.o1
  rw [List.length_map] at h1
  have hx : rd_T39 l p.f0 = vc (od (l.map cv) p) := by unfold od; rw [rd_cv]; rfl
  have hy : rd_T39 ((few (l.map cv)).map vc) (ph (l.map cv) p).f0 = vc (renum (marks (l.map cv)) (od (l.map cv) p)) := by rw [rd_vc, ← hod]; rfl
  have how := own_ev (few (l.map cv)) (by have := hgf.le; omega)
  refine Ev.ifPos (by simp) (Ev.ifPos rfl (Ev.ifPos rfl (Ev.ifPos rfl (Ev.ifPos h0 (Ev.ifPos h1 (Ev.bind how (Ev.ifPos h2 (Ev.ifPos (by rw [List.length_map]; exact h3) (Ev.ifPos ?_ (Ev.bind how (Ev.ifPos (by rw [List.length_map]; exact h3) (Ev.ifPos ?_ awF))))))))))))
  · rw [hx, hy]; rfl
  · rw [hx, hy]; rfl
theorem TF_j1 {l : List S39} (hg : Good (l.map cv)) (a b s : Int) : Ev (fun k => comfitlaw06_TagsFewer.j1 k l s (few (l.map cv)) false a b) true := by
  have hm := (isM_good _).mpr hg
  have hle : l.length ≤ 8 := by have := hg.le; simpa using this
  have hO := Of_ev l (by omega)
  rw [good_take l hm] at hO
  have hgf := few_good hg
  have hcl := cloneF (few (l.map cv)) (by have := hgf.le; omega)
  by_cases h : goodGo (l.map cv) a b s
  · obtain ⟨_, hj, hs0, hs1⟩ := h
    obtain ⟨n, rfl⟩ := Int.eq_ofNat_of_zero_le hs0
    have hA := last_at hg hj n
    have hAf := last_at hgf hj n
    have hG := Go_ok hg hj n (by omega)
    have hGf := Go_ok hgf hj n (by omega)
    have hl3 := TF_j3 hg hj n (((tr (l.map cv) n (p0 a b)).length - 1 : Nat) : Int)
    have hlen : (tr (few (l.map cv)) n (p0 a b)).length = (tr (l.map cv) n (p0 a b)).length := by rw [(tr_few hg hj n).1, List.length_map]
    rw [hlen, last_few hg hj n] at hGf
    rw [last_few hg hj n] at hAf
    generalize (((tr (l.map cv) n (p0 a b)).length - 1 : Nat) : Int) = y at *
    generalize lastP (tr (l.map cv) n (p0 a b)) = p at *
    have h0 := hA.o0
    have h1 := hA.o1
    have h2 := hAf.o0
    have h3 := hAf.o1
    rw [List.length_map] at h1
    refine Ev.succ (g := fun k => _) (Ev.bind hO (Ev.bind hG ?_)) (fun k => by rw [comfitlaw06_TagsFewer.j1, if_neg (by decide)])
    rw [hcl]
    refine Ev.bind (g := fun _ => some _) (Ev.const rfl) (Ev.bind hGf (Ev.ifPos rfl ?_))
    refine Ev.succ (g := fun k => _) hl3 (fun k => ?_)
    rw [comfitlaw06_TagsFewer.j2, if_neg (by dsimp only; decide)]
    dsimp only
    rw [if_neg (by omega), if_neg (by omega), if_neg (by omega), decide_eq_false (by omega)]
    rfl
  · have hG := Go_bad (l.map cv) a b s h
    have hGf := Go_bad (few (l.map cv)) a b s (fun h2 => h ⟨hm, h2.2⟩)
    refine Ev.succ (g := fun k => _) (Ev.bind hO (Ev.bind hG ?_)) (fun k => by rw [comfitlaw06_TagsFewer.j1, if_neg (by decide)])
    rw [hcl]
    refine Ev.bind (g := fun _ => some _) (Ev.const rfl) (Ev.bind hGf (Ev.ifNeg (by decide) ?_))
    exact Ev.succ (g := fun k => _) awF (fun k => by rw [comfitlaw06_TagsFewer.j2, if_pos rfl, if_pos rfl, if_pos rfl])
theorem TagsFewer_ev (l : List S39) (a b s : Int) (hl : l.length ≤ 9223372036854775807) : Ev (fun k => comfitlaw06_TagsFewer.f k l a b s) true := by
  have hO := Of_ev l hl
  by_cases hm : isM (l.map cv) = true
  · have hg := (isM_good _).mp hm
    have hle : l.length ≤ 8 := by have := hg.le; simpa using this
    rw [good_take l hm] at hO
    have hgf := few_good hg
    have hmf := (isM_good _).mpr hgf
    have hfl : (few (l.map cv)).length ≤ l.length := by have := outB_le (marks (l.map cv)) (l.map cv) (l.map cv).length; rw [List.length_map] at this; unfold few; rw [List.length_map]; exact this
    have hcl := cloneF (few (l.map cv)) (by omega)
    have hmo := ref_Machine ((few (l.map cv)).map vc) (by rw [List.length_map]; omega)
    rw [show ((few (l.map cv)).map vc).map cv = few (l.map cv) by rw [List.map_map]; exact List.map_id' _, hmf] at hmo
    unfold comfitlaw06_TagsFewer.f
    refine Ev.bind hO ?_
    rw [few_ev hm]
    refine Ev.bind (g := fun _ => some _) (Ev.const rfl) (Ev.ifPos rfl (Ev.bind ((ref_Machine l hl).cast hm) ?_))
    refine Ev.succ (g := fun k => (tags_Order_28.f (few (l.map cv))).bind fun t483 => ((tags_Fewer.f t483).bind fun bt486 => (if bt486.2 = 0 then ((tags_Order_29.f k bt486.1 (few (l.map cv))).bind fun t490 => (if t490 = true then (if ((few (l.map cv)).length : Int) > (l.length : Int) then (comfitlaw06_TagsFewer.j1 k l s (few (l.map cv)) true a b) else ((comfitlaw06_own.f k (few (l.map cv))).bind fun t491 => ((comfitref06_Machine.f k t491).bind fun t494 => (comfitlaw06_TagsFewer.j1 k l s (few (l.map cv)) (!t494) a b)))) else (comfitlaw06_TagsFewer.j1 k l s (few (l.map cv)) true a b))) else (comfitlaw06_TagsFewer.j1 k l s (few (l.map cv)) true a b)))) ?_ (fun k => by rw [comfitlaw06_TagsFewer.j0, if_neg (by decide)])
    rw [hcl]
    refine Ev.bind (g := fun _ => some _) (Ev.const rfl) ?_
    rw [few_ev hmf, few_few hg]
    refine Ev.bind (g := fun _ => some _) (Ev.const rfl) (Ev.ifPos rfl (Ev.bind (Eq29_refl _ (Nat.le_trans hfl (by omega))) (Ev.ifPos rfl (Ev.ifNeg (by omega) ?_))))
    exact Ev.bind (own_ev _ (by omega)) (Ev.bind hmo (TF_j1 hg a b s))
  · have hmf := Bool.eq_false_iff.mpr hm
    have hmt : isM ((l.take 11).map cv) = false := by rw [isM_take]; exact hmf
    have hF : tags_Fewer.f ((l.take 11).map cv) = some ([], 2) := by unfold tags_Fewer.f; rw [hmt]; rfl
    unfold comfitlaw06_TagsFewer.f
    refine Ev.bind hO ?_
    rw [hF]
    refine Ev.bind (g := fun _ => some _) (Ev.const rfl) (Ev.ifNeg (by decide) ?_)
    exact Ev.succ (g := fun k => _) awF (fun k => by rw [comfitlaw06_TagsFewer.j0, if_pos rfl, if_pos rfl])
theorem TagsFewer (l : List S39) (a b s : Int) (hl : l.length ≤ maxLen) (hw : ∀ x ∈ l, S39.wf x) (wa : (Lit.int .i64 a).wf = true) (wb : (Lit.int .i64 b).wf = true) (ws : (Lit.int .i64 s).wf = true) : ∃ k, comfitlaw06_TagsFewer.f k l a b s = some true := (TagsFewer_ev l a b s (by unfold maxLen at hl; omega)).get
end Go.Proofs.Ytjmbjnobbeflfaa.Pure
