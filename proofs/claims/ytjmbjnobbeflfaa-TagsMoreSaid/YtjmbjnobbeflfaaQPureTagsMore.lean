/- The plain law of TagsMore: with more in a jar that was never found empty a machine does the same steps. No conditions but the sizes that the arguments have. -/
import Derived.Test.YtjmbjnobbeflfaaQMGo
import Derived.Test.YtjmbjnobbeflfaaQXcomfitlaw06TagsMoreD
import Derived.Test.YtjmbjnobbeflfaaQHRow
set_option linter.unusedVariables false
set_option linter.unusedSimpArgs false
namespace Go.Proofs.Ytjmbjnobbeflfaa.Pure
open Go.RowKit Go.Proofs.Ytjmbjnobbeflfaa.X Go.Proofs.YtjmbjnobbeflfaaW.PrintWords Go.Proofs.YtjmbjnobbeflfaaW.PrintLast Go.Proofs.YtjmbjnobbeflfaaW.PrintMore
theorem u64_range (x : Int) : 0 ≤ IntKind.u64.wrap x ∧ IntKind.u64.wrap x < 18446744073709551616 := by
  simp [IntKind.wrap, IntKind.signed, IntKind.bits]
  omega
theorem umod_range (x n : Int) (h0 : 0 < n) (h1 : n ≤ 1000) : 0 ≤ wrap64 (Int.tmod (IntKind.u64.wrap x) n) ∧ wrap64 (Int.tmod (IntKind.u64.wrap x) n) < n := by
  have hx := u64_range x
  rw [Int.tmod_eq_emod_of_nonneg hx.1]
  have h2 := Int.emod_nonneg (IntKind.u64.wrap x) (show n ≠ 0 by omega)
  have h3 := Int.emod_lt_of_pos (IntKind.u64.wrap x) h0
  rw [w_in (by omega) (by omega)]
  exact ⟨h2, h3⟩
theorem lastP_app (T : List S66) (x : S66) : lastP (T ++ [x]) = x := by unfold lastP; simp
theorem tr_succ (l : List S57) : ∀ (n : Nat) (p : S66), tr l (n + 1) p = if stop l (lastP (tr l n p)) = true then tr l n p else tr l n p ++ [nx l (lastP (tr l n p))] := by
  intro n
  induction n with
  | zero =>
    intro p
    rw [tr]
    simp only [tr]
    show (if stop l p = true then _ else _) = _
    rfl
  | succ n ih =>
    intro p
    by_cases h : stop l p = true
    · rw [tr, if_pos h, tr, if_pos h]
      rw [show lastP [p] = p from rfl, if_pos h]
    · rw [tr, if_neg h, ih (nx l p)]
      have e : tr l (n + 1) p = p :: tr l n (nx l p) := by rw [tr, if_neg h]
      rw [e, tr_last_cons]
      split <;> rfl
theorem last_succ (l : List S57) (n : Nat) (p : S66) : lastP (tr l (n + 1) p) = if stop l (lastP (tr l n p)) = true then lastP (tr l n p) else nx l (lastP (tr l n p)) := by
  rw [tr_succ]
  split
  · rfl
  · exact lastP_app _ _
theorem len_succ (l : List S57) (n : Nat) (p : S66) : (tr l (n + 1) p).length = if stop l (lastP (tr l n p)) = true then (tr l n p).length else (tr l n p).length + 1 := by
  rw [tr_succ]
  split
  · rfl
  · simp
/-- With so much more in a jar. -/
def sh (c : Bool) (m : Int) (p : S66) : S66 := if c = false then ⟨p.f0, ⟨p.f1.f0 + m, p.f1.f1⟩⟩ else ⟨p.f0, ⟨p.f1.f0, p.f1.f1 + m⟩⟩
def jar (c : Bool) (p : S66) : Int := if c = false then p.f1.f0 else p.f1.f1
def num (c : Bool) : Int := if c = false then 0 else 1
theorem stop_sh (l : List S57) (c : Bool) (m : Int) (p : S66) : stop l (sh c m p) = stop l p := by cases c <;> rfl
theorem nx_sh (l : List S57) (c : Bool) (m : Int) (hm : 0 ≤ m) (p : S66) (h0 : 0 ≤ p.f1.f0) (h1 : 0 ≤ p.f1.f1) (ho : okO l.length (od l p)) (hs : ¬ stop l p = true) (hn : ¬ ((od l p).f0 = 2 ∧ (od l p).f1 = num c ∧ jar c p = 0)) :
    nx l (sh c m p) = sh c m (nx l p) := by
  have e : od l (sh c m p) = od l p := by cases c <;> rfl
  have hs' : ¬ (od l p).f0 = 0 := by intro h; exact hs (by unfold stop; rw [h]; rfl)
  obtain ⟨k1, _, _, _, _, k6⟩ := ho
  unfold nx
  rw [e]
  generalize od l p = x at *
  obtain ⟨o, a, b⟩ := p
  cases c with
  | false =>
    simp only [sh, num, jar, if_true] at hn ⊢
    dsimp only at h0 h1
    by_cases c1 : x.f0 = 1
    · rw [if_pos c1, if_pos c1]
      by_cases c2 : x.f1 = 0
      · rw [if_pos c2, if_pos c2, show a + m + 1 = a + 1 + m by omega]
      · rw [if_neg c2, if_neg c2]
    · have c3 : x.f0 = 2 := by omega
      rw [if_neg c1, if_neg c1]
      by_cases c2 : x.f1 = 0
      · have ha : ¬ a = 0 := fun h => hn ⟨c3, c2, h⟩
        rw [if_pos c2, if_pos c2, if_neg ha, if_neg (show ¬ a + m = 0 by omega), show a + m - 1 = a - 1 + m by omega]
      · rw [if_neg c2, if_neg c2]
        split <;> rfl
  | true =>
    simp only [sh, num, jar, if_false, Bool.true_eq_false] at hn ⊢
    dsimp only at h0 h1
    by_cases c1 : x.f0 = 1
    · rw [if_pos c1, if_pos c1]
      by_cases c2 : x.f1 = 0
      · rw [if_pos c2, if_pos c2]
      · rw [if_neg c2, if_neg c2, show b + m + 1 = b + 1 + m by omega]
    · have c3 : x.f0 = 2 := by omega
      rw [if_neg c1, if_neg c1]
      by_cases c2 : x.f1 = 0
      · rw [if_pos c2, if_pos c2]
        split <;> rfl
      · have ha : ¬ b = 0 := fun h => hn ⟨c3, by omega, h⟩
        rw [if_neg c2, if_neg c2, if_neg ha, if_neg (show ¬ b + m = 0 by omega), show b + m - 1 = b - 1 + m by omega]
theorem awake_bind : Ev (fun k => (comfitlaw06_awake.f k).bind fun t255 => (some t255)) true := Ev.bind awake_ev (Ev.const rfl)
/-- The law's loop. -/
theorem More_go {lr : List S39} (hl : lr.length ≤ 9223372036854775807) (hm : isM (lr.map cv) = true) (c : Bool) (m : Int) (hm0 : 0 ≤ m) (hm1 : m < 20) (a b a' b' : Int) (hj : jarsOk a b = true) (hj' : jarsOk a' b' = true) (N : Nat) (hN : N ≤ 60) :
    ∀ (d i : Nat), i + d = N → lastP (tr (lr.map cv) i (p0 a' b')) = sh c m (lastP (tr (lr.map cv) i (p0 a b))) → (tr (lr.map cv) i (p0 a' b')).length = (tr (lr.map cv) i (p0 a b)).length →
      Ev (fun k => comfitlaw06_TagsMore.l0 k lr (num c) m (N : Int) (i : Int) a b a' b') true := by
  have hg := (isM_good _).mp hm
  intro d
  induction d with
  | zero =>
    intro i hi _ _
    exact Ev.succ (g := fun k => _) awake_bind (fun k => by rw [comfitlaw06_TagsMore.l0, if_neg (by omega)])
  | succ d ih =>
    intro i hi h1 h2
    have hof := Of_ev lr hl
    rw [good_take lr hm] at hof
    have hA := last_at hg hj i
    have hw : wrap64 ((i : Int) + 1) = ((i + 1 : Nat) : Int) := by unfold wrap64; omega
    refine Ev.succ (g := fun k => _) (Ev.bind hof (f := fun k t275 => _) ?_) (fun k => by rw [comfitlaw06_TagsMore.l0, if_pos (by omega)])
    refine Ev.bind (Go_ok hg hj i (by omega)) (Ev.bind hof (Ev.bind (Go_ok hg hj' i (by omega)) ?_))
    refine Ev.ifPos rfl (Ev.ifPos rfl ?_)
    rw [h1, h2]
    have hsucc : ¬ ((od (lr.map cv) (lastP (tr (lr.map cv) i (p0 a b)))).f0 = 2 ∧ (od (lr.map cv) (lastP (tr (lr.map cv) i (p0 a b)))).f1 = num c ∧ jar c (lastP (tr (lr.map cv) i (p0 a b))) = 0) →
        Ev (fun k => comfitlaw06_TagsMore.l0 k lr (num c) m (N : Int) ((i + 1 : Nat) : Int) a b a' b') true := by
      intro hn
      refine ih (i + 1) (by omega) ?_ ?_
      · rw [last_succ, last_succ, h1, stop_sh]
        by_cases hs : stop (lr.map cv) (lastP (tr (lr.map cv) i (p0 a b))) = true
        · rw [if_pos hs, if_pos hs]
        · rw [if_neg hs, if_neg hs]
          exact nx_sh _ c m hm0 _ hA.a0 hA.b0 (hA.ok hg) hs hn
      · rw [len_succ, len_succ, h1, stop_sh, h2]
    obtain ⟨o0, o1, a0, a1, b0, b1⟩ := hA
    generalize hq : lastP (tr (lr.map cv) i (p0 a b)) = q at *
    generalize (((tr (lr.map cv) i (p0 a b)).length - 1 : Nat) : Int) = len
    obtain ⟨o, x, y⟩ := q
    dsimp only at o0 o1 a0 a1 b0 b1
    rw [List.length_map] at o1
    have hod : od (lr.map cv) ⟨o, ⟨x, y⟩⟩ = cv (rd_T39 lr o) := rd_cv lr o
    rw [hod] at hsucc
    have ef0 : (cv (rd_T39 lr o)).f0 = (rd_T39 lr o).f0 := rfl
    have ef1 : (cv (rd_T39 lr o)).f1 = (rd_T39 lr o).f1 := rfl
    rw [ef0, ef1] at hsucc
    cases c with
    | false =>
      have hj4 : ∀ e : Bool, (e = false → Ev (fun k => comfitlaw06_TagsMore.l0 k lr 0 m (N : Int) ((i + 1 : Nat) : Int) a b a' b') true) → Ev (fun k => comfitlaw06_TagsMore.j4 k lr 0 m (N : Int) (i : Int) e a b a' b') true := by
        intro e he
        cases e with
        | true => exact Ev.succ (g := fun k => _) awake_bind (fun k => by rw [comfitlaw06_TagsMore.j4, if_pos rfl])
        | false => exact Ev.succ (g := fun k => _) (he rfl) (fun k => by rw [comfitlaw06_TagsMore.j4, if_neg (by decide), hw])
      have hj3 : Ev (fun k => comfitlaw06_TagsMore.j3 k lr 0 m o (N : Int) (i : Int) false a b a' b' (x + m) y) true := by
        by_cases c2 : (rd_T39 lr o).f0 = 2
        · by_cases c3 : (rd_T39 lr o).f1 = 0
          · refine Ev.succ (g := fun k => _) (hj4 (x + m == m) (fun he => hsucc (fun hh => ?_))) (fun k => by rw [comfitlaw06_TagsMore.j3, if_neg (by decide), if_pos o0, if_pos o1, if_pos c2, if_pos c3, if_pos rfl])
            have : x = 0 := hh.2.2
            rw [this] at he
            simp at he
          · exact Ev.succ (g := fun k => _) (hj4 false (fun _ => hsucc (fun hh => c3 hh.2.1))) (fun k => by rw [comfitlaw06_TagsMore.j3, if_neg (by decide), if_pos o0, if_pos o1, if_pos c2, if_neg c3])
        · exact Ev.succ (g := fun k => _) (hj4 false (fun _ => hsucc (fun hh => c2 hh.1))) (fun k => by rw [comfitlaw06_TagsMore.j3, if_neg (by decide), if_pos o0, if_pos o1, if_neg c2])
      have hj2 : Ev (fun k => comfitlaw06_TagsMore.j2 k lr 0 m o len o len (N : Int) (i : Int) false a b a' b' x y (x + m) y) true :=
        Ev.succ (g := fun k => _) hj3 (fun k => by
          rw [comfitlaw06_TagsMore.j2, if_neg (by decide), if_pos rfl, if_pos rfl, w_in (n := x + m) (by omega) (by omega), if_neg (by simp), show (len != len) = false by simp])
      refine Ev.ifNeg (by dsimp only; omega) ?_
      dsimp only
      rw [show decide (o ≥ (lr.length : Int)) = false from decide_eq_false (by omega)]
      exact hj2
    | true =>
      have hj4 : ∀ e : Bool, (e = false → Ev (fun k => comfitlaw06_TagsMore.l0 k lr 1 m (N : Int) ((i + 1 : Nat) : Int) a b a' b') true) → Ev (fun k => comfitlaw06_TagsMore.j6 k lr 1 m (N : Int) (i : Int) e a b a' b') true := by
        intro e he
        cases e with
        | true => exact Ev.succ (g := fun k => _) awake_bind (fun k => by rw [comfitlaw06_TagsMore.j6, if_pos rfl])
        | false => exact Ev.succ (g := fun k => _) (he rfl) (fun k => by rw [comfitlaw06_TagsMore.j6, if_neg (by decide), hw])
      have hj3 : Ev (fun k => comfitlaw06_TagsMore.j5 k lr 1 m o (N : Int) (i : Int) false a b a' b' x (y + m)) true := by
        by_cases c2 : (rd_T39 lr o).f0 = 2
        · by_cases c3 : (rd_T39 lr o).f1 = 1
          · refine Ev.succ (g := fun k => _) (hj4 (y + m == m) (fun he => hsucc (fun hh => ?_))) (fun k => by rw [comfitlaw06_TagsMore.j5, if_neg (by decide), if_pos o0, if_pos o1, if_pos c2, if_pos c3, if_neg (by decide), if_pos rfl])
            have : y = 0 := hh.2.2
            rw [this] at he
            simp at he
          · exact Ev.succ (g := fun k => _) (hj4 false (fun _ => hsucc (fun hh => c3 hh.2.1))) (fun k => by rw [comfitlaw06_TagsMore.j5, if_neg (by decide), if_pos o0, if_pos o1, if_pos c2, if_neg c3])
        · exact Ev.succ (g := fun k => _) (hj4 false (fun _ => hsucc (fun hh => c2 hh.1))) (fun k => by rw [comfitlaw06_TagsMore.j5, if_neg (by decide), if_pos o0, if_pos o1, if_neg c2])
      have hj2 : Ev (fun k => comfitlaw06_TagsMore.j2 k lr 1 m o len o len (N : Int) (i : Int) false a b a' b' x y x (y + m)) true :=
        Ev.succ (g := fun k => _) hj3 (fun k => by
          rw [comfitlaw06_TagsMore.j2, if_neg (by decide), if_neg (by decide), if_pos rfl, if_pos rfl, w_in (n := y + m) (by omega) (by omega), if_neg (by simp), show (len != len) = false by simp])
      refine Ev.ifNeg (by dsimp only; omega) ?_
      dsimp only
      rw [show decide (o ≥ (lr.length : Int)) = false from decide_eq_false (by omega)]
      exact hj2
theorem TagsMore (l : List S39) (a b c e s : Int) (hl : l.length ≤ maxLen) (hw : ∀ x ∈ l, S39.wf x) (wa : (Lit.int .i64 a).wf = true) (wb : (Lit.int .i64 b).wf = true) (wc : (Lit.int .i64 c).wf = true) (we : (Lit.int .i64 e).wf = true) (ws : (Lit.int .i64 s).wf = true) : ∃ k, comfitlaw06_TagsMore.f k l a b c e s = some true := by
  unfold maxLen at hl
  refine Ev.get ?_
  refine Ev.bind (ref_Machine l hl) ?_
  by_cases hg : isM (l.map cv) = true ∧ jarsOk a b = true
  · obtain ⟨hm, hj⟩ := hg
    refine Ev.ifPos hm ?_
    simp only [Jars_is, Option.bind_some]
    rw [hj]
    obtain ⟨c0, c1⟩ := umod_range c 2 (by omega) (by omega)
    obtain ⟨e0, e1⟩ := umod_range e 20 (by omega) (by omega)
    obtain ⟨s0, s1⟩ := umod_range s 60 (by omega) (by omega)
    have hbd : 0 ≤ a ∧ a ≤ 100 ∧ 0 ≤ b ∧ b ≤ 100 := by unfold jarsOk at hj; simpa using hj
    have hgo : ∀ k, comfitlaw06_TagsMore.j0 (k + 1) l c e s (!true) a b = (if (wrap64 (Int.tmod (IntKind.u64.wrap (c)) 2)) = 0 then ((comfitref06_Jars.f (wrap64 (a + (wrap64 (Int.tmod (IntKind.u64.wrap (e)) 20)))) b).bind fun t272 => (if t272 = true then (comfitlaw06_TagsMore.l0 k l 0 (wrap64 (Int.tmod (IntKind.u64.wrap (e)) 20)) (wrap64 ((wrap64 (Int.tmod (IntKind.u64.wrap (s)) 60)) + 1)) 0 a b (wrap64 (a + (wrap64 (Int.tmod (IntKind.u64.wrap (e)) 20)))) b) else ((comfitlaw06_awake.f k).bind fun t273 => (some t273)))) else (if (wrap64 (Int.tmod (IntKind.u64.wrap (c)) 2)) = 1 then ((comfitref06_Jars.f a (wrap64 (b + (wrap64 (Int.tmod (IntKind.u64.wrap (e)) 20))))).bind fun t299 => (if t299 = true then (comfitlaw06_TagsMore.l0 k l 1 (wrap64 (Int.tmod (IntKind.u64.wrap (e)) 20)) (wrap64 ((wrap64 (Int.tmod (IntKind.u64.wrap (s)) 60)) + 1)) 0 a b a (wrap64 (b + (wrap64 (Int.tmod (IntKind.u64.wrap (e)) 20))))) else ((comfitlaw06_awake.f k).bind fun t300 => (some t300)))) else (none))) := fun k => by rw [comfitlaw06_TagsMore.j0, if_neg (by decide)]
    generalize wrap64 (Int.tmod (IntKind.u64.wrap e) 20) = m at *
    obtain ⟨N, hN⟩ : ∃ N : Nat, wrap64 ((wrap64 (Int.tmod (IntKind.u64.wrap (s)) 60)) + 1) = (N : Int) ∧ N ≤ 60 := by
      refine ⟨(wrap64 (Int.tmod (IntKind.u64.wrap (s)) 60) + 1).toNat, ?_, by omega⟩
      rw [w_in (n := wrap64 (Int.tmod (IntKind.u64.wrap (s)) 60) + 1) (by omega) (by omega)]
      omega
    rw [hN.1] at hgo
    refine Ev.succ (g := fun k => _) ?_ hgo
    by_cases h0 : wrap64 (Int.tmod (IntKind.u64.wrap c) 2) = 0
    · refine Ev.ifPos h0 ?_
      simp only [Jars_is, Option.bind_some]
      rw [w_in (n := a + m) (by omega) (by omega)]
      by_cases hj2 : jarsOk (a + m) b = true
      · refine Ev.ifPos hj2 ?_
        exact More_go hl hm false m e0 e1 a b (a + m) b hj hj2 N hN.2 N 0 (by omega) rfl rfl
      · exact Ev.ifNeg hj2 awake_bind
    · refine Ev.ifNeg h0 (Ev.ifPos (by omega) ?_)
      simp only [Jars_is, Option.bind_some]
      rw [w_in (n := b + m) (by omega) (by omega)]
      by_cases hj2 : jarsOk a (b + m) = true
      · refine Ev.ifPos hj2 ?_
        exact More_go hl hm true m e0 e1 a b a (b + m) hj hj2 N hN.2 N 0 (by omega) rfl rfl
      · exact Ev.ifNeg hj2 awake_bind
  · have hg' : ¬ (isM ((l.take 11).map cv) = true ∧ jarsOk a b = true) := by rw [isM_take]; exact hg
    have hgo : ∀ k, comfitlaw06_TagsMore.j0 (k + 1) l c e s true a b = ((comfitlaw06_Of.f k l).bind fun t265 => ((tags_Ends.f k t265 a b).bind fun bt268 => (if bt268.2 = 2 then ((comfitlaw06_awake.f k).bind fun t270 => (some t270)) else (none)))) := fun k => by rw [comfitlaw06_TagsMore.j0, if_pos rfl]
    have hj0 : Ev (fun k => comfitlaw06_TagsMore.j0 k l c e s true a b) true := by
      refine Ev.succ (g := fun k => _) ?_ hgo
      exact Ev.bind (Of_ev l hl) (Ev.bind (Ends_bad _ a b hg') (Ev.ifPos rfl awake_bind))
    by_cases h1 : isM (l.map cv) = true
    · refine Ev.ifPos h1 ?_
      simp only [Jars_is, Option.bind_some]
      rw [show jarsOk a b = false by cases hq : jarsOk a b with
        | false => rfl
        | true => exact absurd ⟨h1, hq⟩ hg]
      exact hj0
    · exact Ev.ifNeg h1 hj0
end Go.Proofs.Ytjmbjnobbeflfaa.Pure
