/- The plain law of TagsExchanged: with the jars exchanged in all orders, and in the numbers, everything comes exchanged. No conditions but the sizes that the arguments have. -/
import Derived.Test.YtjmbjnobbeflfaaQMCirc
import Derived.Test.YtjmbjnobbeflfaaQXcomfitlaw06TagsExchangedD
import Derived.Test.YtjmbjnobbeflfaaQHRow
set_option linter.unusedVariables false
set_option linter.unusedSimpArgs false
namespace Go.Proofs.Ytjmbjnobbeflfaa.Pure
open Go.RowKit Go.Proofs.Ytjmbjnobbeflfaa.X Go.Proofs.YtjmbjnobbeflfaaW.PrintWords Go.Proofs.YtjmbjnobbeflfaaW.PrintLast Go.Proofs.YtjmbjnobbeflfaaW.PrintMore
theorem awake_bind : Ev (fun k => (comfitlaw06_awake.f k).bind fun t255 => (some t255)) true := Ev.bind awake_ev (Ev.const rfl)
/-- An order with the jars exchanged. -/
def exO (x : S57) : S57 := if x.f0 > 0 then ⟨x.f0, 1 - x.f1, x.f2, x.f3⟩ else x
def sw (p : S66) : S66 := ⟨p.f0, ⟨p.f1.f1, p.f1.f0⟩⟩
theorem exO_ok {n : Int} {x : S57} (h : okO n x) : okO n (exO x) := by
  obtain ⟨h1, h2, h3, h4, h5, h6⟩ := h
  unfold exO
  by_cases c : x.f0 > 0
  · rw [if_pos c]
    exact ⟨by dsimp only; omega, h2, h3, h4, h5, by dsimp only; omega⟩
  · rw [if_neg c]
    exact ⟨h1, h2, h3, h4, h5, h6⟩
theorem ex_good {l : List S57} (hg : Good l) : Good (l.map exO) := by
  refine ⟨by rw [List.length_map]; exact hg.ne, by rw [List.length_map]; exact hg.le, fun x hx => ?_⟩
  obtain ⟨y, hy, rfl⟩ := List.mem_map.mp hx
  rw [List.length_map]
  exact exO_ok (hg.ok y hy)
theorem od_ex {l : List S57} {p : S66} (h0 : 0 ≤ p.f0) (h1 : p.f0 < l.length) : od (l.map exO) (sw p) = exO (od l p) := by
  unfold od sw rd_T57
  have hl : p.f0.toNat < l.length := by omega
  simp [hl]
theorem stop_ex {l : List S57} {B : Int} {p : S66} (h : At l B p) : stop (l.map exO) (sw p) = stop l p := by
  unfold stop
  rw [od_ex h.o0 h.o1]
  unfold exO
  split <;> rfl
theorem fd_ex {l : List S57} (hg : Good l) {B : Int} {p : S66} (h : At l B p) : fd (l.map exO) (sw p) = if fd l p = 0 then 1 else if fd l p = 1 then 0 else -1 := by
  have ho := h.ok hg
  unfold fd
  rw [od_ex h.o0 h.o1]
  generalize od l p = q at *
  obtain ⟨k1, _, _, _, _, k6⟩ := ho
  unfold exO
  show (if (if q.f0 > 0 then (⟨q.f0, 1 - q.f1, q.f2, q.f3⟩ : S57) else q).f0 = 2 then (if (if q.f0 > 0 then (⟨q.f0, 1 - q.f1, q.f2, q.f3⟩ : S57) else q).f1 = 0 then (if p.f1.f1 = 0 then (0 : Int) else -1) else (if p.f1.f0 = 0 then 1 else -1)) else -1) = _
  by_cases c : q.f0 = 2
  · rw [if_pos (show q.f0 > 0 by omega), if_pos c, if_pos c]
    rcases k1 with k | k
    · rw [if_pos k, if_neg (show ¬ (1 - q.f1) = 0 by omega)]
      by_cases d : p.f1.f0 = 0
      · rw [if_pos d, if_pos d]; rfl
      · rw [if_neg d, if_neg d]; rfl
    · rw [if_neg (show ¬ q.f1 = 0 by omega), if_pos (show (1 - q.f1) = 0 by omega)]
      by_cases d : p.f1.f1 = 0
      · rw [if_pos d, if_pos d]; rfl
      · rw [if_neg d, if_neg d]; rfl
  · have : ¬ (if q.f0 > 0 then (⟨q.f0, 1 - q.f1, q.f2, q.f3⟩ : S57) else q).f0 = 2 := by split <;> exact c
    rw [if_neg this, if_neg c]; rfl
theorem nx_ex {l : List S57} (hg : Good l) {B : Int} {p : S66} (h : At l B p) (hs : stop l p = false) : nx (l.map exO) (sw p) = sw (nx l p) := by
  have ho := h.ok hg
  have hs' : ¬ (od l p).f0 = 0 := by intro h; unfold stop at hs; rw [h] at hs; simp at hs
  have e : od (l.map exO) (sw p) = ⟨(od l p).f0, 1 - (od l p).f1, (od l p).f2, (od l p).f3⟩ := by
    rw [od_ex h.o0 h.o1]
    unfold exO
    rw [if_pos (by have := ho.2.2.2.2.2; omega)]
  unfold nx
  rw [e]
  show (if (od l p).f0 = 1 then (if (1 - (od l p).f1) = 0 then (⟨(od l p).f2, ⟨p.f1.f1 + 1, p.f1.f0⟩⟩ : S66) else ⟨(od l p).f2, ⟨p.f1.f1, p.f1.f0 + 1⟩⟩)
    else if (1 - (od l p).f1) = 0 then (if p.f1.f1 = 0 then ⟨(od l p).f3, ⟨p.f1.f1, p.f1.f0⟩⟩ else ⟨(od l p).f2, ⟨p.f1.f1 - 1, p.f1.f0⟩⟩)
    else (if p.f1.f0 = 0 then ⟨(od l p).f3, ⟨p.f1.f1, p.f1.f0⟩⟩ else ⟨(od l p).f2, ⟨p.f1.f1, p.f1.f0 - 1⟩⟩)) = _
  generalize od l p = q at *
  obtain ⟨k1, _, _, _, _, k6⟩ := ho
  by_cases c : q.f0 = 1
  · rw [if_pos c, if_pos c]
    rcases k1 with k | k
    · rw [if_pos k, if_neg (show ¬ (1 - q.f1) = 0 by omega)]; rfl
    · rw [if_neg (show ¬ q.f1 = 0 by omega), if_pos (show (1 - q.f1) = 0 by omega)]; rfl
  · rw [if_neg c, if_neg c]
    rcases k1 with k | k
    · rw [if_pos k, if_neg (show ¬ (1 - q.f1) = 0 by omega)]
      by_cases d : p.f1.f0 = 0
      · rw [if_pos d, if_pos d]; rfl
      · rw [if_neg d, if_neg d]; rfl
    · rw [if_neg (show ¬ q.f1 = 0 by omega), if_pos (show (1 - q.f1) = 0 by omega)]
      by_cases d : p.f1.f1 = 0
      · rw [if_pos d, if_pos d]; rfl
      · rw [if_neg d, if_neg d]; rfl
theorem tr_ex {l : List S57} (hg : Good l) : ∀ (n : Nat) (p : S66) (B : Int), At l B p → tr (l.map exO) n (sw p) = (tr l n p).map sw := by
  intro n
  induction n with
  | zero => intro p B h; rfl
  | succ n ih =>
    intro p B h
    rw [tr, tr, stop_ex h]
    by_cases c : stop l p = true
    · rw [if_pos c, if_pos c]; rfl
    · rw [if_neg c, if_neg c, nx_ex hg h (Bool.eq_false_iff.mpr c), ih _ _ (h.next hg)]; rfl
theorem last_sw (T : List S66) (h : T ≠ []) : lastP (T.map sw) = sw (lastP T) := by
  unfold lastP
  rw [List.getLastD_eq_getLast?, List.getLastD_eq_getLast?, List.getLast?_map, List.getLast?_eq_some_getLast h]
  rfl
theorem jarsOk_sw (a b : Int) : jarsOk b a = jarsOk a b := by
  unfold jarsOk
  rw [Bool.eq_iff_iff]
  simp only [decide_eq_true_eq]
  omega
theorem ends_ex {l : List S57} (hg : Good l) {a b : Int} (hj : jarsOk a b = true) : endsOf (l.map exO) b a = endsOf l a b := by
  have e : tr (l.map exO) 1000 (p0 b a) = (tr l 1000 (p0 a b)).map sw := tr_ex hg 1000 (p0 a b) 100 (At.start hg hj)
  unfold endsOf
  rw [e, last_sw _ (tr_ne _ _ _), List.length_map, stop_ex (last_at hg hj 1000)]
theorem at_sw (T : List S66) (i : Nat) (h : i < T.length) : at_ (T.map sw) i = sw (at_ T i) := by
  unfold at_
  simp [h]
theorem was_ex {l : List S57} (hg : Good l) {B : Int} (S : List S66) (hS : ∀ p ∈ S, At l B p) : was (l.map exO) 0 (S.map sw) = was l 1 S ∧ was (l.map exO) 1 (S.map sw) = was l 0 S := by
  induction S with
  | nil => exact ⟨rfl, rfl⟩
  | cons p S ih =>
    obtain ⟨h1, h2⟩ := ih (fun q hq => hS q (List.mem_cons_of_mem _ hq))
    have hf := fd_ex hg (hS p List.mem_cons_self)
    have e0 : (fd (l.map exO) (sw p) == 0) = (fd l p == 1) := by
      rw [hf]; rcases fd_is l p with e | e | e <;> rw [e] <;> decide
    have e1 : (fd (l.map exO) (sw p) == 1) = (fd l p == 0) := by
      rw [hf]; rcases fd_is l p with e | e | e <;> rw [e] <;> decide
    unfold was at h1 h2 ⊢
    rw [List.map_cons, List.any_cons, List.any_cons, List.any_cons, List.any_cons, h1, h2, e0, e1]
    exact ⟨rfl, rfl⟩
theorem circ_ex {l : List S57} (hg : Good l) {B : Int} (T : List S66) (hT : ∀ p ∈ T, At l B p) (i j : Nat) (hij : i < j) (hj : j < T.length) : circ (l.map exO) (T.map sw) i j = circ l T i j := by
  have hseg : seg (T.map sw) i j = (seg T i j).map sw := by unfold seg; rw [List.map_drop, List.map_take]
  obtain ⟨w0, w1⟩ := was_ex hg (seg T i j) (B := B) (fun p hp => hT p (List.mem_of_mem_take (List.mem_of_mem_drop hp)))
  unfold circ
  rw [hseg, w0, w1, at_sw T i (by omega), at_sw T j hj]
  show (((at_ T i).f0 == (at_ T j).f0) && (!decide ((at_ T j).f1.f1 < (at_ T i).f1.f1) && (!decide ((at_ T j).f1.f0 < (at_ T i).f1.f0) &&
    ((!was l 1 (seg T i j) || ((at_ T j).f1.f1 == (at_ T i).f1.f1)) && (!was l 0 (seg T i j) || ((at_ T j).f1.f0 == (at_ T i).f1.f0)))))) = _
  generalize ((at_ T i).f0 == (at_ T j).f0) = b1
  generalize decide ((at_ T j).f1.f1 < (at_ T i).f1.f1) = b2
  generalize decide ((at_ T j).f1.f0 < (at_ T i).f1.f0) = b3
  generalize (!was l 1 (seg T i j) || ((at_ T j).f1.f1 == (at_ T i).f1.f1)) = b4
  generalize (!was l 0 (seg T i j) || ((at_ T j).f1.f0 == (at_ T i).f1.f0)) = b5
  cases b1 <;> cases b2 <;> cases b3 <;> cases b4 <;> cases b5 <;> rfl
theorem fI_congr {c c' : Nat → Nat → Bool} {j : Nat} : ∀ (d i : Nat), i + d = j → (∀ q, q < j → c q j = c' q j) → fI c j d i = fI c' j d i := by
  intro d
  induction d with
  | zero => intro i _ _; rfl
  | succ d ih =>
    intro i hi h
    rw [fI, fI, h i (by omega), ih (i + 1) (by omega) h]
theorem fJ_congr {c c' : Nat → Nat → Bool} {N : Nat} : ∀ (d j : Nat), j + d = N → (∀ q j, q < j → j < N → c q j = c' q j) → fJ c d j = fJ c' d j := by
  intro d
  induction d with
  | zero => intro j _ _; rfl
  | succ d ih =>
    intro j hj h
    rw [fJ, fJ, fI_congr j 0 (by omega) (fun q hq => h q j hq (by omega)), ih (j + 1) (by omega) h]
theorem first_ex {l : List S57} (hg : Good l) {a b : Int} (hj : jarsOk a b = true) : firstC (l.map exO) b a = firstC l a b := by
  have e : tr (l.map exO) 200 (p0 b a) = (tr l 200 (p0 a b)).map sw := tr_ex hg 200 (p0 a b) 100 (At.start hg hj)
  unfold firstC
  rw [e, List.length_map]
  exact fJ_congr _ 0 (by omega) (fun q j hq hj2 => circ_ex hg _ (tr_at hg 200 _ 100 (At.start hg hj)) q j hq hj2)

/-! ### Adds -/
def jarN (c : Int) (p : S66) : Int := if c = 0 then p.f1.f0 else p.f1.f1
def addOk (l : List S57) (c x y : Int) : Bool := stop l (lastP (tr l 1000 (p0 x y))) && (jarN c (lastP (tr l 1000 (p0 x y))) == x + y)
def five : List Int := [0, 1, 2, 3, 4]
def addsB (l : List S57) (c : Int) : Bool := five.all fun x => five.all fun y => addOk l c x y
theorem Adds_j3 {l : List S57} (c : Int) (x x' y : Int) (b : Bool) (r : Bool × Int) (h : Ev (fun k => tags_Adds.l1 k l c x x' (y + 1)) r) (hy : 0 ≤ y ∧ y < 5) : Ev (fun k => tags_Adds.j3 k l c x x' y b) (if b = true then (false, 0) else r) := by
  cases b with
  | true => exact Ev.succ (g := fun _ => some (false, 0)) (Ev.const rfl) (fun k => by rw [tags_Adds.j3, if_pos rfl])
  | false => exact Ev.succ (g := fun k => _) h (fun k => by rw [tags_Adds.j3, if_neg (by decide), w_in (n := y + 1) (by omega) (by omega)])
theorem Adds_l1 {l : List S57} (hg : Good l) (c : Int) (hc : c = 0 ∨ c = 1) (x y : Int) (hx : 0 ≤ x ∧ x < 5) (hy : 0 ≤ y ∧ y < 5) (r : Bool × Int) (h : Ev (fun k => tags_Adds.l1 k l c x x (y + 1)) r) :
    Ev (fun k => tags_Adds.l1 k l c x x y) (if addOk l c x y = true then r else (false, 0)) := by
  have hj : jarsOk x y = true := by unfold jarsOk; rw [decide_eq_true_eq]; omega
  have hlen := tr_len l 1000 (p0 x y)
  obtain ⟨e1, e2⟩ := lastP_eq (T := tr l 1000 (p0 x y)) hlen.1 (by omega)
  have hA := last_at hg hj 1000
  have hgo : ∀ k, tags_Adds.l1 (k + 1) l c x x y = ((tags_ends.f k l x y).bind fun bt436 => (if bt436.2.2 = true then (if 0 ≤ (wrap64 ((bt436.1.length : Int) - 1)) then (if (wrap64 ((bt436.1.length : Int) - 1)) < (bt436.1.length : Int) then (if c = 0 then (tags_Adds.j3 k l 0 x x y (((rd_T66 bt436.1 (wrap64 ((bt436.1.length : Int) - 1))).f1.f0) != (wrap64 (x + y)))) else (if c = 1 then (tags_Adds.j3 k l 1 x x y (((rd_T66 bt436.1 (wrap64 ((bt436.1.length : Int) - 1))).f1.f1) != (wrap64 (x + y)))) else (none))) else (none)) else (none)) else (tags_Adds.j3 k l c x x y true))) := fun k => by
    rw [tags_Adds.l1, if_pos hy.2]
  refine Ev.succ (g := fun k => _) (Ev.bind (ends_ev hg hj) ?_) hgo
  dsimp only
  unfold addOk
  generalize lastP (tr l 1000 (p0 x y)) = q at *
  by_cases hs : stop l q = true
  · refine Ev.ifPos hs ?_
    rw [e1]
    refine Ev.ifPos (by omega) (Ev.ifPos (by omega) ?_)
    rw [e2, w_in (n := x + y) (by omega) (by omega), hs, Bool.true_and]
    unfold jarN
    rcases hc with rfl | rfl
    · refine Ev.ifPos rfl ?_
      rw [if_pos rfl]
      refine (Adds_j3 0 x x y _ r h hy).cast ?_
      rw [bne]
      cases (q.f1.f0 == x + y) <;> rfl
    · refine Ev.ifNeg (by decide) (Ev.ifPos rfl ?_)
      rw [if_neg (show ¬ (1 : Int) = 0 by decide)]
      refine (Adds_j3 1 x x y _ r h hy).cast ?_
      rw [bne]
      cases (q.f1.f1 == x + y) <;> rfl
  · refine Ev.ifNeg hs ((Adds_j3 c x x y true r h hy).cast ?_)
    rw [Bool.eq_false_iff.mpr hs, Bool.false_and]; rfl
theorem Adds_l0 {l : List S57} (hg : Good l) (c : Int) (hc : c = 0 ∨ c = 1) (x : Int) (hx : 0 ≤ x ∧ x < 5) (r : Bool × Int) (h : Ev (fun k => tags_Adds.l0 k l c (x + 1)) r) :
    Ev (fun k => tags_Adds.l0 k l c x) (if (five.all fun y => addOk l c x y) = true then r else (false, 0)) := by
  have h5 : Ev (fun k => tags_Adds.l1 k l c x x 5) r := Ev.succ (g := fun k => _) h (fun k => by rw [tags_Adds.l1, if_neg (by decide), w_in (n := x + 1) (by omega) (by omega)])
  have h4 := Adds_l1 hg c hc x 4 hx (by omega) _ h5
  have h3 := Adds_l1 hg c hc x 3 hx (by omega) _ h4
  have h2 := Adds_l1 hg c hc x 2 hx (by omega) _ h3
  have h1 := Adds_l1 hg c hc x 1 hx (by omega) _ h2
  have h0 := Adds_l1 hg c hc x 0 hx (by omega) _ h1
  refine Ev.succ (g := fun k => _) (h0.cast ?_) (fun k => by rw [tags_Adds.l0, if_pos hx.2])
  unfold five
  simp only [List.all_cons, List.all_nil, Bool.and_true]
  generalize addOk l c x 0 = b0
  generalize addOk l c x 1 = b1
  generalize addOk l c x 2 = b2
  generalize addOk l c x 3 = b3
  generalize addOk l c x 4 = b4
  cases b0 <;> cases b1 <;> cases b2 <;> cases b3 <;> cases b4 <;> rfl
theorem Adds_ok {l : List S57} (hg : Good l) (c : Int) (hc : c = 0 ∨ c = 1) : Ev (fun k => tags_Adds.f k l c) (addsB l c, 0) := by
  have h5 : Ev (fun k => tags_Adds.l0 k l c 5) (true, 0) := Ev.succ (g := fun _ => some (true, 0)) (Ev.const rfl) (fun k => by rw [tags_Adds.l0, if_neg (by decide)])
  have h4 := Adds_l0 hg c hc 4 (by omega) _ h5
  have h3 := Adds_l0 hg c hc 3 (by omega) _ h4
  have h2 := Adds_l0 hg c hc 2 (by omega) _ h3
  have h1 := Adds_l0 hg c hc 1 (by omega) _ h2
  have h0 := Adds_l0 hg c hc 0 (by omega) _ h1
  unfold tags_Adds.f tags_isMachine.f
  simp only [Option.bind_some]
  refine Ev.ifPos ((isM_good l).mpr hg) (Ev.ifNeg (by omega) ?_)
  rw [show decide (c > 1) = false from decide_eq_false (by omega)]
  refine Ev.succ (g := fun k => _) (h0.cast ?_) (fun k => by rw [tags_Adds.j0, if_neg (by decide)])
  unfold addsB
  rw [show five.all (fun x => five.all fun y => addOk l c x y) = ((five.all fun y => addOk l c 0 y) && ((five.all fun y => addOk l c 1 y) && ((five.all fun y => addOk l c 2 y) && ((five.all fun y => addOk l c 3 y) && (five.all fun y => addOk l c 4 y))))) by
    rw [show five = [0, 1, 2, 3, 4] from rfl]; simp only [List.all_cons, List.all_nil, Bool.and_true]]
  generalize (five.all fun y => addOk l c 0 y) = b0
  generalize (five.all fun y => addOk l c 1 y) = b1
  generalize (five.all fun y => addOk l c 2 y) = b2
  generalize (five.all fun y => addOk l c 3 y) = b3
  generalize (five.all fun y => addOk l c 4 y) = b4
  cases b0 <;> cases b1 <;> cases b2 <;> cases b3 <;> cases b4 <;> rfl
theorem addOk_ex {l : List S57} (hg : Good l) (x y : Int) (hx : 0 ≤ x ∧ x < 5) (hy : 0 ≤ y ∧ y < 5) : addOk (l.map exO) 1 y x = addOk l 0 x y := by
  have hj : jarsOk x y = true := by unfold jarsOk; rw [decide_eq_true_eq]; omega
  have e : tr (l.map exO) 1000 (p0 y x) = (tr l 1000 (p0 x y)).map sw := tr_ex hg 1000 (p0 x y) 100 (At.start hg hj)
  unfold addOk
  rw [e, last_sw _ (tr_ne _ _ _), stop_ex (last_at hg hj 1000), Int.add_comm y x]
  rfl
theorem adds_ex {l : List S57} (hg : Good l) : addsB (l.map exO) 1 = addsB l 0 := by
  have h : ∀ x ∈ five, 0 ≤ x ∧ x < 5 := by unfold five; simp
  unfold addsB
  rw [Bool.eq_iff_iff, List.all_eq_true, List.all_eq_true]
  constructor
  · intro hh x hx
    rw [List.all_eq_true]
    intro y hy
    have := List.all_eq_true.mp (hh y hy) x hx
    rw [← this]
    exact (addOk_ex hg x y (h x hx) (h y hy)).symm
  · intro hh y hy
    rw [List.all_eq_true]
    intro x hx
    have := List.all_eq_true.mp (hh x hx) y hy
    rw [← this]
    exact addOk_ex hg x y (h x hx) (h y hy)

/-! ### The law -/
theorem clone_ev (l : List S57) (h : l.length ≤ 100) : tags_Order_28.f l = some l := by
  unfold tags_Order_28.f
  rw [Option.bind_some, if_pos (by simp; omega), List.nil_append]
theorem Exch_go {lr : List S39} (hm : isM (lr.map cv) = true) (a b s : Int) (r : Bool) (hr : Ev (fun k => comfitlaw06_TagsExchanged.l0 k lr s ((lr.map cv).map exO) (lr.length : Int) (lr.length : Int) a b) r) :
    ∀ (d i : Nat), i + d = lr.length → Ev (fun k => comfitlaw06_TagsExchanged.l0 k lr s (((lr.map cv).take i).map exO ++ (lr.map cv).drop i) (lr.length : Int) (i : Int) a b) r := by
  have hg := (isM_good _).mp hm
  intro d
  induction d with
  | zero =>
    intro i hi
    obtain rfl : i = lr.length := by omega
    rw [List.take_of_length_le (by simp), List.drop_eq_nil_of_le (by simp), List.append_nil]
    exact hr
  | succ d ih =>
    intro i hi
    have hil : i < lr.length := by omega
    have hw : wrap64 ((i : Int) + 1) = ((i + 1 : Nat) : Int) := by have := hg.le; simp at this; unfold wrap64; omega
    have hilm : i < (lr.map cv).length := by simpa using hil
    have hlen : (((lr.map cv).take i).map exO ++ (lr.map cv).drop i).length = lr.length := by simp; omega
    have hx : rd_T57 (((lr.map cv).take i).map exO ++ (lr.map cv).drop i) (i : Int) = (lr.map cv)[i] := by
      unfold rd_T57
      rw [Int.toNat_natCast, List.getD_eq_getElem?_getD, List.getElem?_append_right (by simp; omega)]
      simp
      rw [show i - min i lr.length = 0 by omega]
      simp [hil]
    have hok := hg.ok _ (List.getElem_mem hilm)
    have hnext : (((lr.map cv).take i).map exO ++ (lr.map cv).drop i).set i (exO (lr.map cv)[i]) = ((lr.map cv).take (i + 1)).map exO ++ (lr.map cv).drop (i + 1) := by
      rw [List.drop_eq_getElem_cons hilm, List.set_append_right _ _ (by simp; omega)]
      simp only [List.length_map, List.length_take]
      rw [show i - min i lr.length = 0 by omega, List.set_cons_zero, List.take_succ_eq_append_getElem hilm, List.map_append, List.append_assoc]
      rfl
    have hi2 := ih (i + 1) (by omega)
    rw [← hnext] at hi2
    by_cases c : (lr.map cv)[i].f0 > 0
    · refine Ev.succ (g := fun k => _) hi2 (fun k => ?_)
      rw [comfitlaw06_TagsExchanged.l0, if_pos (by omega), if_pos (by omega), if_pos (by rw [hlen]; omega), hx, if_pos c, hw, w_in (n := 1 - (lr.map cv)[i].f1) (by have := hok.1; omega) (by have := hok.1; omega), Int.toNat_natCast]
      unfold exO
      rw [if_pos c]
    · refine Ev.succ (g := fun k => _) hi2 (fun k => ?_)
      rw [comfitlaw06_TagsExchanged.l0, if_pos (by omega), if_pos (by omega), if_pos (by rw [hlen]; omega), hx, if_neg c, hw]
      have : (((lr.map cv).take i).map exO ++ (lr.map cv).drop i).set i (exO (lr.map cv)[i]) = ((lr.map cv).take i).map exO ++ (lr.map cv).drop i := by
        rw [show exO (lr.map cv)[i] = (lr.map cv)[i] by unfold exO; rw [if_neg c]]
        rw [List.drop_eq_getElem_cons hilm, List.set_append_right _ _ (by simp; omega)]
        simp only [List.length_map, List.length_take]
        rw [show i - min i lr.length = 0 by omega, List.set_cons_zero]
      rw [this]
theorem TagsExchanged (l : List S39) (a b s : Int) (hl : l.length ≤ maxLen) (hw : ∀ x ∈ l, S39.wf x) (wa : (Lit.int .i64 a).wf = true) (wb : (Lit.int .i64 b).wf = true) (ws : (Lit.int .i64 s).wf = true) : ∃ k, comfitlaw06_TagsExchanged.f k l a b s = some true := by
  unfold maxLen at hl
  refine Ev.get ?_
  refine Ev.bind (ref_Machine l hl) ?_
  by_cases hm : isM (l.map cv) = true
  · refine Ev.ifPos hm ?_
    have hg := (isM_good _).mp hm
    have hge := ex_good hg
    have hof := Of_ev l hl
    rw [good_take l hm] at hof
    refine Ev.bind hof ?_
    have hle := hg.le
    rw [List.length_map] at hle
    have hclone : tags_Order_28.f ((l.map cv).map exO) = some ((l.map cv).map exO) := clone_ev _ (by simp; omega)
    have hend : Ev (fun k => comfitlaw06_TagsExchanged.l0 k l s ((l.map cv).map exO) (l.length : Int) (l.length : Int) a b) true := by
      have hgo : ∀ k, comfitlaw06_TagsExchanged.l0 (k + 1) l s ((l.map cv).map exO) (l.length : Int) (l.length : Int) a b = _ := fun k => by
        rw [comfitlaw06_TagsExchanged.l0, if_neg (by omega)]
      refine Ev.succ (g := fun k => _) ?_ hgo
      simp only [hclone, Option.bind_some]
      have hA := Adds_ok hg 0 (.inl rfl)
      have hB := Adds_ok hge 1 (.inr rfl)
      rw [adds_ex hg] at hB
      by_cases hj : jarsOk a b = true
      · have hj' : jarsOk b a = true := by rw [jarsOk_sw]; exact hj
        have hE := Ends_ok hge hj'
        rw [ends_ex hg hj] at hE
        have hC := Circle_ok hge hj'
        rw [first_ex hg hj] at hC
        by_cases hs : 0 ≤ s ∧ s ≤ 1000
        · obtain ⟨n, rfl⟩ : ∃ n : Nat, s = (n : Int) := ⟨s.toNat, by omega⟩
          have e : tr ((l.map cv).map exO) n (p0 b a) = (tr (l.map cv) n (p0 a b)).map sw := tr_ex hg n (p0 a b) 100 (At.start hg hj)
          have hG := Go_ok hge hj' n (by omega)
          rw [e, last_sw _ (tr_ne _ _ _), List.length_map] at hG
          refine Ev.bind hof (Ev.bind (Go_ok hg hj n (by omega)) (Ev.bind hG (Ev.bind hof (Ev.bind (Ends_ok hg hj) (Ev.bind hE (Ev.bind hof (Ev.bind (Circle_ok hg hj) (Ev.bind hC (Ev.bind hof (Ev.bind hA (Ev.bind hB ?_)))))))))))
          exact Ev.ifPos rfl (Ev.ifPos (by simp [sw]) (Ev.ifPos rfl (Ev.ifPos rfl (Ev.ifPos rfl (Ev.ifPos rfl (Ev.ifPos (by simp) (Ev.ifPos rfl (Ev.ifPos (by simp) (Ev.ifPos rfl awake_bind)))))))))
        · have hn : ∀ m x y, Ev (fun k => tags_Go.f k m x y s) (0, 0, 0, 0, 2) := fun m x y => Go_bad m x y s (fun h => hs ⟨h.2.2.1, h.2.2.2⟩)
          refine Ev.bind hof (Ev.bind (hn _ _ _) (Ev.bind (hn _ _ _) (Ev.bind hof (Ev.bind (Ends_ok hg hj) (Ev.bind hE (Ev.bind hof (Ev.bind (Circle_ok hg hj) (Ev.bind hC (Ev.bind hof (Ev.bind hA (Ev.bind hB ?_)))))))))))
          exact Ev.ifPos rfl (Ev.ifPos (by decide) (Ev.ifPos rfl (Ev.ifPos rfl (Ev.ifPos rfl (Ev.ifPos rfl (Ev.ifPos (by simp) (Ev.ifPos rfl (Ev.ifPos (by simp) (Ev.ifPos rfl awake_bind)))))))))
      · have hj' : ¬ jarsOk b a = true := by rw [jarsOk_sw]; exact hj
        have hG : ∀ m, Ev (fun k => tags_Go.f k m a b s) (0, 0, 0, 0, 2) := fun m => Go_bad m a b s (fun h => hj h.2.1)
        have hG' : ∀ m, Ev (fun k => tags_Go.f k m b a s) (0, 0, 0, 0, 2) := fun m => Go_bad m b a s (fun h => hj' h.2.1)
        refine Ev.bind hof (Ev.bind (hG _) (Ev.bind (hG' _) (Ev.bind hof (Ev.bind (Ends_bad _ a b (fun h => hj h.2)) (Ev.bind (Ends_bad _ b a (fun h => hj' h.2)) (Ev.bind hof (Ev.bind (Circle_bad _ a b (fun h => hj h.2)) (Ev.bind (Circle_bad _ b a (fun h => hj' h.2)) (Ev.bind hof (Ev.bind hA (Ev.bind hB ?_)))))))))))
        exact Ev.ifPos rfl (Ev.ifPos (by decide) (Ev.ifPos rfl (Ev.ifPos rfl (Ev.ifPos rfl (Ev.ifPos rfl (Ev.ifPos (by decide) (Ev.ifPos rfl (Ev.ifPos (by simp) (Ev.ifPos rfl awake_bind)))))))))
    have := Exch_go hm a b s true hend l.length 0 (by omega)
    rw [List.take_zero, List.map_nil, List.nil_append, List.drop_zero] at this
    rw [List.length_map]
    exact this
  · refine Ev.ifNeg hm ?_
    refine Ev.bind (Of_ev l hl) ?_
    have : tags_Fewer.f ((l.take 11).map cv) = some ([], 2) := by unfold tags_Fewer.f; rw [if_neg (by rw [isM_take]; exact hm)]
    simp only [this, Option.bind_some]
    exact Ev.ifPos trivial awake_bind
end Go.Proofs.Ytjmbjnobbeflfaa.Pure
