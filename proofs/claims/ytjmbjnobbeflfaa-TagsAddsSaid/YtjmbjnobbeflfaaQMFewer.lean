/- Plain laws of machines: the reference's machine without what is not reached is the program's; copies of machines. -/
import Derived.Test.YtjmbjnobbeflfaaQMReach
import Derived.Test.YtjmbjnobbeflfaaQMGo
import Derived.Test.YtjmbjnobbeflfaaQXF
import Derived.Test.YtjmbjnobbeflfaaQXS
set_option linter.unusedVariables false
set_option linter.unusedSimpArgs false
namespace Go.Proofs.Ytjmbjnobbeflfaa.Pure
open Go.RowKit Go.Proofs.Ytjmbjnobbeflfaa.X Go.Proofs.YtjmbjnobbeflfaaW.PrintWords Go.Proofs.YtjmbjnobbeflfaaW.PrintLast Go.Proofs.YtjmbjnobbeflfaaW.PrintMore
def vc (x : S57) : S39 := ⟨x.f0, x.f1, x.f2, x.f3⟩
/-! ### What is marked, by rounds -/
def stepR (l : List S57) (B : List Bool) (i : Nat) : List Bool :=
  if hasB B i = true then (if (l.getD i z57).f0 = 2 then (if (l.getD i z57).f0 > 0 then B.set (l.getD i z57).f2.toNat true else B).set (l.getD i z57).f3.toNat true else (if (l.getD i z57).f0 > 0 then B.set (l.getD i z57).f2.toNat true else B)) else B
def passB (l : List S57) : Nat → Nat → List Bool → List Bool
  | 0, _, B => B
  | d + 1, i, B => passB l d (i + 1) (stepR l B i)
def roundsB (l : List S57) : Nat → List Bool → List Bool
  | 0, B => B
  | n + 1, B => roundsB l n (passB l l.length 0 B)
theorem stepR_len (l : List S57) (B : List Bool) (i : Nat) : (stepR l B i).length = B.length := by
  unfold stepR
  split
  · split <;> split <;> simp
  · rfl
theorem passB_len (l : List S57) : ∀ (d i : Nat) (B : List Bool), (passB l d i B).length = B.length := by
  intro d
  induction d with
  | zero => intro i B; rfl
  | succ d ih => intro i B; rw [passB, ih, stepR_len]
theorem roundsB_len (l : List S57) : ∀ (d : Nat) (B : List Bool), (roundsB l d B).length = B.length := by
  intro d
  induction d with
  | zero => intro B; rfl
  | succ d ih => intro B; rw [roundsB, ih, passB_len]
def subB (B C : List Bool) : Prop := ∀ j, hasB B j = true → hasB C j = true
theorem subB.refl (B : List Bool) : subB B B := fun _ h => h
theorem subB.trans {A B C : List Bool} (h : subB A B) (h' : subB B C) : subB A C := fun j hj => h' j (h j hj)
theorem subB_set (B : List Bool) (i : Nat) : subB B (B.set i true) := by
  intro j hj
  by_cases hi : i < B.length
  · rw [hasB_set B i j hi, hj, Bool.or_true]
  · rw [List.set_eq_of_length_le (by omega)]; exact hj
theorem hasB_lt {B : List Bool} {j : Nat} (h : hasB B j = true) : j < B.length := by
  by_cases c : j < B.length
  · exact c
  · unfold hasB at h
    simp [show B[j]? = none from List.getElem?_eq_none (by omega)] at h
theorem stepR_sub (l : List S57) (B : List Bool) (i : Nat) : subB B (stepR l B i) := by
  unfold stepR
  split
  · split <;> split
    · exact (subB_set B _).trans (subB_set _ _)
    · exact subB_set _ _
    · exact subB_set _ _
    · exact subB.refl _
  · exact subB.refl _
theorem passB_sub (l : List S57) : ∀ (d i : Nat) (B : List Bool), subB B (passB l d i B) := by
  intro d
  induction d with
  | zero => intro i B; exact subB.refl _
  | succ d ih => intro i B; exact (stepR_sub l B i).trans (ih _ _)
theorem roundsB_sub (l : List S57) : ∀ (d : Nat) (B : List Bool), subB B (roundsB l d B) := by
  intro d
  induction d with
  | zero => intro B; exact subB.refl _
  | succ d ih => intro B; exact (passB_sub l _ _ B).trans (ih _)
theorem set_in {B C : List Bool} {i : Nat} (h : subB B C) (hi : hasB C i = true) : subB (B.set i true) C := by
  intro j hj
  by_cases c : i < B.length
  · rw [hasB_set B i j c] at hj
    rcases Bool.or_eq_true _ _ ▸ hj with e | e
    · rw [← of_decide_eq_true e]; exact hi
    · exact h j e
  · rw [List.set_eq_of_length_le (by omega)] at hj; exact h j hj
theorem stepR_in {l : List S57} (hp : ∀ j, (l.getD j z57).f0 > 0 → (l.getD j z57).f0 ≠ 0) {B C : List Bool} (hC : ∀ j, hasB C j = true → closedAt l C j) (h : subB B C) (i : Nat) : subB (stepR l B i) C := by
  unfold stepR
  split
  · rename_i hi
    have hc := hC i (h i hi)
    have h1 : subB (if (l.getD i z57).f0 > 0 then B.set (l.getD i z57).f2.toNat true else B) C := by
      split
      · rename_i h0
        exact set_in h (hc.1 (hp i h0))
      · exact h
    split
    · rename_i h2
      exact set_in h1 (hc.2 h2)
    · exact h1
  · exact h
theorem passB_in {l : List S57} {C : List Bool} (hC : ∀ j, hasB C j = true → closedAt l C j) : ∀ (d i : Nat) (B : List Bool), subB B C → subB (passB l d i B) C := by
  intro d
  induction d with
  | zero => intro i B h; exact h
  | succ d ih => intro i B h; exact ih _ _ (stepR_in (fun j h => by omega) hC h i)
theorem roundsB_in {l : List S57} {C : List Bool} (hC : ∀ j, hasB C j = true → closedAt l C j) : ∀ (d : Nat) (B : List Bool), subB B C → subB (roundsB l d B) C := by
  intro d
  induction d with
  | zero => intro B h; exact h
  | succ d ih => intro B h; exact ih _ (passB_in hC _ _ _ h)
theorem set_or {B : List Bool} {i : Nat} (hi : i < B.length) : (hasB B i = true ∧ B.set i true = B) ∨ unr (B.set i true) < unr B := by
  by_cases hb : B.getD i true = false
  · exact .inr (unr_set hi hb)
  · have h1 : B[i] = true := by simpa [hi] using hb
    refine .inl ⟨by unfold hasB; simp [hi, h1], ?_⟩
    rw [← h1]; exact List.set_getElem_self hi
def inR (l : List S57) (n : Nat) : Prop := ∀ j, j < n → 0 ≤ (l.getD j z57).f2 ∧ (l.getD j z57).f2 < n ∧ 0 ≤ (l.getD j z57).f3 ∧ (l.getD j z57).f3 < n ∧ ((l.getD j z57).f0 = 0 ∨ (l.getD j z57).f0 > 0)
theorem stepR_or {l : List S57} {B : List Bool} (hok : inR l B.length) (i : Nat) : (stepR l B i = B ∧ (hasB B i = true → closedAt l B i)) ∨ unr (stepR l B i) < unr B := by
  unfold stepR
  by_cases hi : hasB B i = true
  · rw [if_pos hi]
    obtain ⟨a1, a2, a3, a4, a5⟩ := hok i (hasB_lt hi)
    have h1 : ((if (l.getD i z57).f0 > 0 then B.set (l.getD i z57).f2.toNat true else B) = B ∧ ((l.getD i z57).f0 ≠ 0 → hasB B (l.getD i z57).f2.toNat = true)) ∨ unr (if (l.getD i z57).f0 > 0 then B.set (l.getD i z57).f2.toNat true else B) < unr B := by
      by_cases h0 : (l.getD i z57).f0 > 0
      · rw [if_pos h0]
        rcases set_or (B := B) (i := (l.getD i z57).f2.toNat) (by omega) with ⟨b1, b2⟩ | b
        · exact .inl ⟨b2, fun _ => b1⟩
        · exact .inr b
      · rw [if_neg h0]
        exact .inl ⟨rfl, fun h => absurd (a5.resolve_left h) h0⟩
    have hl : (if (l.getD i z57).f0 > 0 then B.set (l.getD i z57).f2.toNat true else B).length = B.length := by split <;> simp
    generalize (if (l.getD i z57).f0 > 0 then B.set (l.getD i z57).f2.toNat true else B) = B1 at *
    by_cases h2 : (l.getD i z57).f0 = 2
    · rw [if_pos h2]
      rcases set_or (B := B1) (i := (l.getD i z57).f3.toNat) (by omega) with ⟨b1, b2⟩ | b
      · rw [b2]
        rcases h1 with ⟨rfl, h1b⟩ | h1
        · exact .inl ⟨rfl, fun _ => ⟨h1b, fun _ => b1⟩⟩
        · exact .inr h1
      · rcases h1 with ⟨rfl, h1b⟩ | h1
        · exact .inr b
        · exact .inr (Nat.lt_trans b h1)
    · rw [if_neg h2]
      rcases h1 with ⟨rfl, h1b⟩ | h1
      · exact .inl ⟨rfl, fun _ => ⟨h1b, fun h => absurd h h2⟩⟩
      · exact .inr h1
  · rw [if_neg hi]
    exact .inl ⟨rfl, fun h => absurd h hi⟩
theorem unr_le {B C : List Bool} (h : subB B C) (hl : B.length = C.length) : unr C ≤ unr B := by
  unfold unr
  induction B generalizing C with
  | nil => cases C with
    | nil => exact Nat.le_refl _
    | cons c C => simp at hl
  | cons b B ih =>
    cases C with
    | nil => simp at hl
    | cons c C =>
      have h1 := ih (C := C) (fun j hj => by have := h (j + 1); unfold hasB at *; simpa using this (by simpa using hj)) (by simpa using hl)
      have h0 := h 0
      unfold hasB at h0
      simp at h0
      rw [List.count_cons, List.count_cons]
      cases b <;> cases c <;> simp at h0 ⊢ <;> omega
theorem passB_or {l : List S57} : ∀ (d i : Nat) (B : List Bool), inR l B.length → (passB l d i B = B ∧ ∀ j, i ≤ j → j < i + d → hasB B j = true → closedAt l B j) ∨ unr (passB l d i B) < unr B := by
  intro d
  induction d with
  | zero => intro i B h; exact .inl ⟨rfl, fun j h1 h2 => by omega⟩
  | succ d ih =>
    intro i B hok
    rw [passB]
    rcases stepR_or hok i with ⟨e, hc⟩ | hlt
    · rw [e]
      rcases ih (i + 1) B hok with ⟨e2, hc2⟩ | hlt
      · refine .inl ⟨e2, fun j h1 h2 hj => ?_⟩
        by_cases c : j = i
        · subst c; exact hc hj
        · exact hc2 j (by omega) (by omega) hj
      · exact .inr hlt
    · exact .inr (Nat.lt_of_le_of_lt (unr_le (passB_sub l d (i + 1) _) (by rw [passB_len])) hlt)
theorem roundsB_fix {l : List S57} {B : List Bool} (h : passB l l.length 0 B = B) : ∀ n, roundsB l n B = B := by
  intro n
  induction n with
  | zero => rfl
  | succ n ih => rw [roundsB, h, ih]
theorem roundsB_closed {l : List S57} : ∀ (n : Nat) (B : List Bool), B.length = l.length → inR l l.length → unr B ≤ n → ∀ j, hasB (roundsB l n B) j = true → closedAt l (roundsB l n B) j := by
  intro n
  induction n with
  | zero =>
    intro B hl hok hn j hj
    rw [roundsB] at hj ⊢
    rcases passB_or (l := l) l.length 0 B (by rw [hl]; exact hok) with ⟨_, hc⟩ | hlt
    · exact hc j (by omega) (by have := hasB_lt hj; omega) hj
    · omega
  | succ n ih =>
    intro B hl hok hn j hj
    rcases passB_or (l := l) l.length 0 B (by rw [hl]; exact hok) with ⟨e, hc⟩ | hlt
    · rw [roundsB_fix e] at hj ⊢
      exact hc j (by omega) (by have := hasB_lt hj; omega) hj
    · rw [roundsB] at hj ⊢
      exact ih _ (by rw [passB_len]; exact hl) hok (by omega) j hj
theorem dfs_least {l : List S57} {C : List Bool} (hC : ∀ j, hasB C j = true → closedAt l C j) : ∀ (d : Nat) (B : List Bool) (i : Nat), subB B C → hasB C i = true → subB (dfs l d B i) C := by
  intro d
  induction d with
  | zero => intro B i h _; exact h
  | succ d ih =>
    intro B i h hi
    have hc := hC i hi
    have hs := set_in h hi
    unfold dfs
    split
    · exact h
    · dsimp only
      have h2 : subB (if (l.getD i z57).f0 = 0 then B.set i true else dfs l d (B.set i true) (l.getD i z57).f2.toNat) C := by
        split
        · exact hs
        · rename_i h0
          exact ih _ _ hs (hc.1 h0)
      split
      · rename_i e
        exact ih _ _ h2 (hc.2 e)
      · exact h2
theorem ext_B {B C : List Bool} (hl : B.length = C.length) (h1 : subB B C) (h2 : subB C B) : B = C := by
  refine List.ext_getElem hl fun i hi hi' => ?_
  have a := h1 i
  have b := h2 i
  unfold hasB at a b
  simp [hi, hi'] at a b
  cases e : B[i] <;> cases e' : C[i] <;> simp_all
def B0 (n : Nat) : List Bool := (List.replicate n false).set 0 true
theorem rounds_marks {l : List S57} (hok : inR l l.length) (hn : 0 < l.length) : roundsB l l.length (B0 l.length) = marks l := by
  have hl0 : (B0 l.length).length = l.length := by unfold B0; simp
  have h0 : hasB (B0 l.length) 0 = true := by unfold B0; rw [hasB_set _ 0 0 (by simpa using hn)]; rfl
  have hb : ∀ j, hasB (B0 l.length) j = true → j = 0 := by
    intro j hj
    unfold B0 at hj
    rw [hasB_set _ 0 j (by simpa using hn)] at hj
    rcases Bool.or_eq_true _ _ ▸ hj with e | e
    · exact (of_decide_eq_true e).symm
    · unfold hasB at e
      by_cases c : j < l.length <;> simp [c] at e
  have hu : unr (B0 l.length) ≤ l.length := by unfold unr; exact Nat.le_trans List.count_le_length (by rw [hl0]; exact Nat.le_refl _)
  refine ext_B (by rw [roundsB_len, hl0, marks_len]) ?_ ?_
  · refine roundsB_in (marks_closed (fun j hj => ⟨(hok j hj).1, (hok j hj).2.1, (hok j hj).2.2.1, (hok j hj).2.2.2.1⟩) hn) _ _ ?_
    intro j hj
    rw [hb j hj]
    exact marks_zero hn
  · have hc := roundsB_closed l.length (B0 l.length) hl0 hok hu
    refine dfs_least hc _ _ _ ?_ (roundsB_sub l _ _ 0 h0)
    intro j hj
    unfold hasB at hj
    by_cases c : j < l.length <;> simp [c] at hj

/-! ### The reference's Fewer -/
theorem getD_cv (l : List S39) (i : Nat) : (l.map cv).getD i z57 = cv (rd_T39 l (i : Int)) := rd_cv l (i : Int)
theorem good_inR {l : List S57} (hg : Good l) : inR l l.length := by
  intro j hj
  have h := hg.at (i := (j : Int)) (by omega) (by omega)
  have e : rd_T57 l (j : Int) = l.getD j z57 := rfl
  rw [e] at h
  obtain ⟨_, a, b, c, d, f⟩ := h
  exact ⟨a, b, c, d, by omega⟩
theorem RF_pass {lr : List S39} (hg : Good (lr.map cv)) (x19 x20 : Int) (r : List S39) : ∀ (d i : Nat) (B : List Bool), i + d = lr.length → B.length = lr.length →
    Ev (fun k => comfitref06_Fewer.l0 k lr (passB (lr.map cv) d i B) x19 (wrap64 (x20 + 1))) r → Ev (fun k => comfitref06_Fewer.l1 k lr B x19 x20 lr (lr.length : Int) (i : Int)) r := by
  have hle : lr.length ≤ 8 := by have := hg.le; simpa using this
  intro d
  induction d with
  | zero =>
    intro i B hi hl h
    exact Ev.succ (g := fun k => _) h (fun k => by rw [comfitref06_Fewer.l1, if_neg (by omega)]; rfl)
  | succ d ih =>
    intro i B hi hl h
    have hil : i < lr.length := by omega
    rw [passB] at h
    have hnext := ih (i + 1) _ (by omega) (by rw [stepR_len]; exact hl) h
    obtain ⟨a1, a2, a3, a4, a5⟩ := good_inR hg i (by rw [List.length_map]; exact hil)
    rw [List.length_map] at a2 a4
    have hst : stepR (lr.map cv) B i = if hasB B i = true then (if (rd_T39 lr (i : Int)).f0 = 2 then (if (rd_T39 lr (i : Int)).f0 > 0 then B.set (rd_T39 lr (i : Int)).f2.toNat true else B).set (rd_T39 lr (i : Int)).f3.toNat true else (if (rd_T39 lr (i : Int)).f0 > 0 then B.set (rd_T39 lr (i : Int)).f2.toNat true else B)) else B := by
      unfold stepR
      rw [getD_cv]
      rfl
    rw [hst] at hnext
    clear hst h
    rw [getD_cv] at a1 a2 a3 a4 a5
    generalize hx : rd_T39 lr (i : Int) = x at *
    have hw : wrap64 ((i : Int) + 1) = ((i + 1 : Nat) : Int) := by unfold wrap64; omega
    simp only [cv] at a1 a2 a3 a4 a5
    have hrx : ∀ C : List Bool, hasB C i = true → rdOf false C (i : Int) = true := fun _ h => h
    by_cases hb : hasB B i = true
    · rw [if_pos hb] at hnext
      have hB1 : ∀ C : List Bool, C.length = lr.length → hasB C i = true → Ev (fun k => comfitref06_Fewer.l1 k lr (if x.f0 = 2 then C.set x.f3.toNat true else C) x19 x20 lr (lr.length : Int) ((i + 1 : Nat) : Int)) r →
          Ev (fun k => comfitref06_Fewer.j3 k lr C (i : Int) x19 x20 lr (lr.length : Int) (i : Int) x.f0 x.f1 x.f2 x.f3) r := by
        intro C hC hCi hE
        refine Ev.succ (g := fun k => _) hE (fun k => ?_)
        rw [comfitref06_Fewer.j3, if_pos (by omega), if_pos (by omega), if_pos (hrx C hCi), hw]
        by_cases h2 : x.f0 = 2
        · rw [if_pos h2, if_pos h2, if_pos (by omega), if_pos (by omega)]
        · rw [if_neg h2, if_neg h2]
      by_cases h0 : x.f0 > 0
      · rw [if_pos h0] at hnext
        refine Ev.succ (g := fun k => comfitref06_Fewer.j2 k lr B (i : Int) x19 x20 lr (lr.length : Int) (i : Int) true x.f0 x.f1 x.f2 x.f3) ?_ (fun k => ?_)
        · refine Ev.succ (g := fun k => _) (hB1 (B.set x.f2.toNat true) (by simpa using hl) (subB_set B _ i hb) hnext) (fun k => ?_)
          rw [comfitref06_Fewer.j2, if_pos rfl, if_pos (by omega), if_pos (by omega)]
        · rw [comfitref06_Fewer.l1, if_pos (by omega), if_pos (by omega), if_pos (by omega), if_pos (by omega), if_pos (hrx B hb), hx, decide_eq_true h0]
      · rw [if_neg h0] at hnext
        refine Ev.succ (g := fun k => comfitref06_Fewer.j2 k lr B (i : Int) x19 x20 lr (lr.length : Int) (i : Int) false x.f0 x.f1 x.f2 x.f3) ?_ (fun k => ?_)
        · refine Ev.succ (g := fun k => _) (hB1 B hl hb hnext) (fun k => ?_)
          rw [comfitref06_Fewer.j2, if_neg (by decide)]
        · rw [comfitref06_Fewer.l1, if_pos (by omega), if_pos (by omega), if_pos (by omega), if_pos (by omega), if_pos (hrx B hb), hx, decide_eq_false h0]
    · rw [if_neg hb] at hnext
      have hrn : ¬ rdOf false B (i : Int) = true := hb
      refine Ev.succ (g := fun k => comfitref06_Fewer.j2 k lr B (i : Int) x19 x20 lr (lr.length : Int) (i : Int) false x.f0 x.f1 x.f2 x.f3) ?_ (fun k => ?_)
      · refine Ev.succ (g := fun k => comfitref06_Fewer.j3 k lr B (i : Int) x19 x20 lr (lr.length : Int) (i : Int) x.f0 x.f1 x.f2 x.f3) ?_ (fun k => by rw [comfitref06_Fewer.j2, if_neg (by decide)])
        exact Ev.succ (g := fun k => _) hnext (fun k => by rw [comfitref06_Fewer.j3, if_pos (by omega), if_pos (by omega), if_neg hrn, hw])
      · rw [comfitref06_Fewer.l1, if_pos (by omega), if_pos (by omega), if_pos (by omega), if_pos (by omega), if_neg hrn, hx]
theorem RF_rounds {lr : List S39} (hg : Good (lr.map cv)) (r : List S39) (h : ∀ B : List Bool, B.length = lr.length → B = roundsB (lr.map cv) lr.length (B0 lr.length) → Ev (fun k => comfitref06_Fewer.l0 k lr B (lr.length : Int) (lr.length : Int)) r) :
    ∀ (d i : Nat) (B : List Bool), i + d = lr.length → B.length = lr.length → roundsB (lr.map cv) d B = roundsB (lr.map cv) lr.length (B0 lr.length) → Ev (fun k => comfitref06_Fewer.l0 k lr B (lr.length : Int) (i : Int)) r := by
  have hle : lr.length ≤ 8 := by have := hg.le; simpa using this
  intro d
  induction d with
  | zero =>
    intro i B hi hl he
    obtain rfl : i = lr.length := by omega
    exact h B hl he
  | succ d ih =>
    intro i B hi hl he
    rw [roundsB] at he
    have hl2 := passB_len (lr.map cv) (lr.map cv).length 0 B
    rw [List.length_map] at he hl2
    have h1 := ih (i + 1) _ (by omega) (hl2.trans hl) he
    refine Ev.succ (g := fun k => comfitref06_Fewer.l1 k lr B (lr.length : Int) (i : Int) lr (lr.length : Int) 0) ?_ (fun k => by rw [comfitref06_Fewer.l0, if_pos (by omega)])
    refine RF_pass hg (lr.length : Int) (i : Int) r lr.length 0 B (by omega) hl ?_
    rw [show wrap64 ((i : Int) + 1) = ((i + 1 : Nat) : Int) by unfold wrap64; omega]
    exact h1
/-- The numbers of the marked, up to one. -/
structure NumL (B : List Bool) (i n : Nat) (M : List Int) : Prop where
  len : M.length = n
  at_ : ∀ j : Nat, j < i → hasB B j = true → rd M (j : Int) = (cnt B j : Int)
theorem rd_set (M : List Int) (i : Nat) (v : Int) (j : Nat) (hi : i < M.length) : rd (M.set i v) (j : Int) = if i = j then v else rd M (j : Int) := by
  unfold rd
  simp only [Int.toNat_natCast]
  by_cases h : i = j
  · subst h; simp [hi]
  · simp [List.getElem?_set, h]
theorem RF_nums {lr : List S39} (hle : lr.length ≤ 8) {B : List Bool} (hl : B.length = lr.length) (r : List S39) (h : ∀ M : List Int, NumL B lr.length lr.length M → Ev (fun k => comfitref06_Fewer.l3 k B M [] lr (lr.length : Int) 0) r) :
    ∀ (d i : Nat) (M : List Int), i + d = lr.length → NumL B i lr.length M → Ev (fun k => comfitref06_Fewer.l2 k lr B M (cnt B i : Int) B (B.length : Int) (i : Int)) r := by
  intro d
  induction d with
  | zero =>
    intro i M hi hM
    obtain rfl : i = lr.length := by omega
    exact Ev.succ (g := fun k => _) (h M hM) (fun k => by rw [comfitref06_Fewer.l2, if_neg (by omega)])
  | succ d ih =>
    intro i M hi hM
    have hw : wrap64 ((i : Int) + 1) = ((i + 1 : Nat) : Int) := by unfold wrap64; omega
    by_cases hb : hasB B i = true
    · have hc := cnt_le B i
      have hw2 : wrap64 ((cnt B i : Int) + 1) = ((cnt B (i + 1) : Nat) : Int) := by rw [cnt_yes hb]; unfold wrap64; omega
      have hr : rdOf false B (i : Int) = true := hb
      refine Ev.succ (g := fun k => _) (ih (i + 1) (M.set i (cnt B i : Int)) (by omega) ⟨by rw [List.length_set]; exact hM.len, fun j hj hbj => ?_⟩) (fun k => ?_)
      · rw [rd_set M i _ j (by rw [hM.len]; omega)]
        split
        · rename_i e; rw [e]
        · exact hM.at_ j (by omega) hbj
      · rw [comfitref06_Fewer.l2, if_pos (by omega), if_pos (by omega), if_pos (by omega), if_pos hr, if_pos (by rw [hM.len]; omega), hw, hw2, Int.toNat_natCast]
    · have hr : ¬ rdOf false B (i : Int) = true := hb
      have hbf := Bool.eq_false_iff.mpr hb
      refine Ev.succ (g := fun k => _) (ih (i + 1) M (by omega) ⟨hM.len, fun j hj hbj => ?_⟩) (fun k => ?_)
      · by_cases e : j = i
        · subst e; exact absurd hbj hb
        · exact hM.at_ j (by omega) hbj
      · rw [comfitref06_Fewer.l2, if_pos (by omega), if_pos (by omega), if_pos (by omega), if_neg hr, hw, cnt_no hbf]
theorem RF_out {lr : List S39} (hg : Good (lr.map cv)) {B : List Bool} (hl : B.length = lr.length) (hcl : ∀ j, hasB B j = true → closedAt (lr.map cv) B j) {M : List Int} (hM : NumL B lr.length lr.length M) :
    ∀ (d i : Nat), i + d = lr.length → Ev (fun k => comfitref06_Fewer.l3 k B M ((outB B (lr.map cv) i).map vc) lr (lr.length : Int) (i : Int)) ((outB B (lr.map cv) lr.length).map vc) := by
  have hle : lr.length ≤ 8 := by have := hg.le; simpa using this
  intro d
  induction d with
  | zero =>
    intro i hi
    obtain rfl : i = lr.length := by omega
    exact Ev.succ (g := fun _ => _) (Ev.const rfl) (fun k => by rw [comfitref06_Fewer.l3, if_neg (by omega)])
  | succ d ih =>
    intro i hi
    have hw : wrap64 ((i : Int) + 1) = ((i + 1 : Nat) : Int) := by unfold wrap64; omega
    have h1 := ih (i + 1) (by omega)
    by_cases hb : hasB B i = true
    · have hr : rdOf false B (i : Int) = true := hb
      have hc := hcl i hb
      have hlen := outB_len B (lr.map cv) i
      have hcn := cnt_le B i
      obtain ⟨a1, a2, a3, a4, a5⟩ := good_inR hg i (by rw [List.length_map]; omega)
      rw [List.length_map] at a2 a4
      rw [outB_yes hb, List.map_append] at h1
      unfold closedAt at hc
      rw [getD_cv] at a1 a2 a3 a4 a5 hc h1
      have hx : rd_T39 lr (i : Int) = rd_T39 lr (i : Int) := rfl
      generalize hxx : rd_T39 lr (i : Int) = x at *
      simp only [cv] at a1 a2 a3 a4 a5 hc
      have hf : ∀ y : Int, y = (if x.f0 = 0 then x.f2 else (cnt B x.f2.toNat : Int)) → Ev (fun k => comfitref06_Fewer.j6 k B M ((outB B (lr.map cv) i).map vc) lr (lr.length : Int) (i : Int) x.f0 x.f1 y x.f3) ((outB B (lr.map cv) lr.length).map vc) := by
        intro y hy
        refine Ev.succ (g := fun k => _) h1 (fun k => ?_)
        by_cases h2 : x.f0 = 2
        · have hm := hM.at_ x.f3.toNat (by omega) (hc.2 h2)
          rw [Int.toNat_of_nonneg a3] at hm
          rw [comfitref06_Fewer.j6, if_pos h2, if_pos (by omega), if_pos (by rw [hM.len]; omega), if_pos (by rw [List.length_map]; omega), hw, hm]
          unfold renum vc cv
          simp only [List.map_cons, List.map_nil]
          rw [if_pos h2, hy]
        · rw [comfitref06_Fewer.j6, if_neg h2, if_pos (by rw [List.length_map]; omega), hw]
          unfold renum vc cv
          simp only [List.map_cons, List.map_nil]
          rw [if_neg h2, hy]
      by_cases h0 : x.f0 > 0
      · have hm := hM.at_ x.f2.toNat (by omega) (hc.1 (by omega))
        rw [Int.toNat_of_nonneg a1] at hm
        refine Ev.succ (g := fun k => _) (hf _ (by rw [if_neg (by omega)])) (fun k => ?_)
        rw [comfitref06_Fewer.l3, if_pos (by omega), if_pos (by omega), if_pos (by omega), if_pos (by omega), if_pos hr, hxx, if_pos h0, if_pos (by omega), if_pos (by rw [hM.len]; omega), hm]
      · refine Ev.succ (g := fun k => _) (hf _ (by rw [if_pos (by omega)])) (fun k => ?_)
        rw [comfitref06_Fewer.l3, if_pos (by omega), if_pos (by omega), if_pos (by omega), if_pos (by omega), if_pos hr, hxx, if_neg h0]
    · have hr : ¬ rdOf false B (i : Int) = true := hb
      rw [outB_no (Bool.eq_false_iff.mpr hb)] at h1
      exact Ev.succ (g := fun k => _) h1 (fun k => by rw [comfitref06_Fewer.l3, if_pos (by omega), if_pos (by omega), if_pos (by omega), if_pos (by omega), if_neg hr, hw])
theorem ref_Fewer {lr : List S39} (hg : Good (lr.map cv)) : Ev (fun k => comfitref06_Fewer.f k lr) ((outB (marks (lr.map cv)) (lr.map cv) lr.length).map vc) := by
  have hle : lr.length ≤ 8 := by have := hg.le; simpa using this
  have hge : 1 ≤ lr.length := by have := hg.ne; simpa using this
  have hin := good_inR hg
  have hm := rounds_marks hin (by rw [List.length_map]; omega)
  rw [List.length_map] at hm
  unfold comfitref06_Fewer.f
  refine Ev.ifPos (by omega) (Ev.ifPos (by omega) ?_)
  simp only [Int.toNat_natCast, Option.bind_some, List.length_replicate]
  refine Ev.ifPos (by omega) ?_
  refine RF_rounds hg _ (fun B hl he => ?_) lr.length 0 (B0 lr.length) (by omega) (by unfold B0; simp) rfl
  rw [hm] at he
  subst he
  have hcl := marks_closed (l := lr.map cv) (fun j hj => ⟨(hin j hj).1, (hin j hj).2.1, (hin j hj).2.2.1, (hin j hj).2.2.2.1⟩) (by rw [List.length_map]; omega)
  refine Ev.succ (g := fun k => comfitref06_Fewer.l2 k lr (marks (lr.map cv)) (List.replicate lr.length 0) 0 (marks (lr.map cv)) ((marks (lr.map cv)).length : Int) 0) ?_ (fun k => by rw [comfitref06_Fewer.l0, if_neg (by omega), if_pos (by omega), if_pos (by omega), Int.toNat_natCast])
  have h := RF_nums hle hl _ (fun M hM => RF_out hg hl hcl hM lr.length 0 (by omega)) lr.length 0 (List.replicate lr.length 0) (by omega) ⟨by simp, fun j hj => by omega⟩
  rw [cnt_zero] at h
  exact h

/-! ### Copies, and their comparison -/
theorem own_go (l : List S57) (hl : l.length ≤ 1000) : ∀ (d i : Nat), i + d = l.length → Ev (fun k => comfitlaw06_own.l0 k ((l.take i).map vc) l (l.length : Int) (i : Int)) (l.map vc) := by
  intro d
  induction d with
  | zero =>
    intro i hi
    exact Ev.succ (g := fun _ => some ((l.take i).map vc)) ((Ev.const rfl).cast (by rw [List.take_of_length_le (by omega)])) (fun k => by rw [comfitlaw06_own.l0, if_neg (by omega)])
  | succ d ih =>
    intro i hi
    have hil : i < l.length := by omega
    have hx : rd_T57 l (i : Int) = l[i] := by unfold rd_T57; simp [hil]
    refine Ev.succ (g := fun k => _) (ih (i + 1) (by omega)) (fun k => ?_)
    rw [comfitlaw06_own.l0, if_pos (by omega), if_pos (by omega), if_pos (by omega), if_pos (by rw [List.length_map, List.length_take]; omega), hx, show wrap64 ((i : Int) + 1) = ((i + 1 : Nat) : Int) by unfold wrap64; omega, List.take_succ_eq_append_getElem hil, List.map_append]
    rfl
theorem own_ev (l : List S57) (hl : l.length ≤ 1000) : Ev (fun k => comfitlaw06_own.f k l) (l.map vc) := by
  have := own_go l hl l.length 0 (by omega)
  rw [List.take_zero] at this
  exact this
theorem Order_go (l : List S39) (hl : l.length ≤ 1000) : ∀ (d i : Nat), i + d = l.length → Ev (fun k => comfitref06_Order.l0 k l l (l.length : Int) (i : Int)) true := by
  intro d
  induction d with
  | zero => intro i hi; exact Ev.succ (g := fun _ => some true) (Ev.const rfl) (fun k => by rw [comfitref06_Order.l0, if_neg (by omega)])
  | succ d ih =>
    intro i hi
    refine Ev.succ (g := fun k => _) (ih (i + 1) (by omega)) (fun k => ?_)
    rw [comfitref06_Order.l0, if_pos (by omega), if_pos (by omega), if_pos (by omega), if_pos (by omega), if_neg (by simp), show wrap64 ((i : Int) + 1) = ((i + 1 : Nat) : Int) by unfold wrap64; omega]
theorem Order_refl (l : List S39) (hl : l.length ≤ 1000) : Ev (fun k => comfitref06_Order.f k l l) true := by
  unfold comfitref06_Order.f
  exact Ev.ifPos rfl (Order_go l hl l.length 0 (by omega))
theorem outB_le (B : List Bool) (l : List S57) (n : Nat) : (outB B l n).length ≤ n := by rw [outB_len]; exact cnt_le B n
end Go.Proofs.Ytjmbjnobbeflfaa.Pure
