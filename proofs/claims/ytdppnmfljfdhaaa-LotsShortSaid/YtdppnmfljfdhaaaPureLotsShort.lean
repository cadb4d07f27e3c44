/- The plan that is cut short takes just the items that the whole one takes, and never looks at more; where it looks at fewer, the end was known: for all n, c and items, no conditions. -/
import Derived.Test.YtdppnmfljfdhaaaMSingle
import Derived.Test.YtdppnmfljfdhaaaMRun
import Derived.Test.YtdppnmfljfdhaaaXcomfitlaw02LotsShort
set_option linter.unusedVariables false
set_option linter.unusedSimpArgs false
namespace Go.Proofs.Ytdppnmfljfdhaaa.Pure
open Go.RowKit Go.Proofs.Ytdppnmfljfdhaaa.X Go.Proofs.YtdppnmfljfdhaaaW.PrintWords Go.Proofs.YtdppnmfljfdhaaaW.PrintLast Go.Proofs.YtdppnmfljfdhaaaW.PrintMore

/-- How many items are bad. -/
def cnt : List Bool → Int
  | [] => 0
  | x :: xs => (if x = true then 1 else 0) + cnt xs
theorem cnt_range : ∀ l : List Bool, 0 ≤ cnt l ∧ cnt l ≤ l.length
  | [] => by simp [cnt]
  | x :: xs => by
    have := cnt_range xs
    simp only [cnt, List.length_cons]
    split <;> omega
theorem more_eq (x : Bool) (b : Int) : more x b = b + (if x = true then 1 else 0) := by unfold more; split <;> omega
theorem rd_map (n i : Nat) (g : Nat → Int) (h : i < n) : rd ((List.range n).map g) (i : Int) = g i := by
  unfold rd
  simp [h]
section
variable {m : Nat} {c : Int}
theorem rd_singleT (i : Nat) (h : i < m + 1) : rd (singleT ((m + 1 : Nat) : Int) c) (i : Int) = if i = m then c else -1 := by
  unfold singleT rd
  simp only [Int.toNat_natCast, Nat.add_sub_cancel, List.getD_eq_getElem?_getD]
  rw [List.getElem?_set]
  by_cases e : m = i
  · subst e; simp
  · rw [if_neg e, if_neg (fun h => e h.symm)]; simp [h]
theorem rd_singleL (i : Nat) (h : i < m + 1) : rd (singleL ((m + 1 : Nat) : Int) c) (i : Int) = if i = m then c + 1 else (m : Int) + 1 + 1 := by
  unfold singleL rd
  simp only [Int.toNat_natCast, Nat.add_sub_cancel, List.getD_eq_getElem?_getD]
  rw [List.getElem?_set]
  by_cases e : m = i
  · subst e; simp
  · rw [if_neg e, if_neg (fun h => e h.symm)]; simp [h]
theorem rd_shT (i : Nat) (h : i < m + 1) : rd (shT ((m + 1 : Nat) : Int) c (m + 1)) (i : Int) = stT ((m + 1 : Nat) : Int) c i := by
  unfold shT
  rw [Int.toNat_natCast, rd_map _ _ _ h, if_pos h]
theorem rd_shL (i : Nat) (h : i < m + 1) : rd (shL ((m + 1 : Nat) : Int) c (m + 1)) (i : Int) = c + 1 := by
  unfold shL
  rw [Int.toNat_natCast, rd_map _ _ _ h, if_pos h]
/-- The whole plan looks at all items, and counts the bad ones. -/
theorem run_single (hc : 0 ≤ c) (hcm : c < (m : Int) + 1) : ∀ (it : List Bool) (i : Nat) (b : Int), i + it.length = m + 1 → it ≠ [] → 0 ≤ b → b ≤ i →
    run (singleT ((m + 1 : Nat) : Int) c) (singleL ((m + 1 : Nat) : Int) c) it i b = (((m + 1 : Nat) : Int), decide (b + cnt it ≤ c))
  | [], _, _, _, hne, _, _ => absurd rfl hne
  | x :: xs, i, b, hl, _, hb, hbi => by
    simp only [List.length_cons] at hl
    have hm := more_eq x b
    have hmr : 0 ≤ more x b ∧ more x b ≤ (i : Int) + 1 := by rw [hm]; split <;> omega
    unfold run
    rw [rd_singleT i (by omega), rd_singleL i (by omega)]
    by_cases hi : i = m
    · subst hi
      obtain rfl : xs = [] := List.eq_nil_of_length_eq_zero (by omega)
      rw [if_pos rfl, if_pos rfl]
      have e : b + cnt [x] = more x b := by rw [hm]; simp [cnt]
      rw [e]
      by_cases h1 : more x b ≤ c
      · rw [if_pos h1, decide_eq_true h1]; simp
      · rw [if_neg h1, if_pos (by omega), decide_eq_false h1]; simp
    · rw [if_neg hi, if_neg hi, if_neg (by omega), if_neg (by omega), run_single hc hcm xs (i + 1) (more x b) (by omega) (by intro h; rw [h] at hl; simp at hl; omega) hmr.1 (by omega)]
      rw [hm]
      simp only [cnt]
      congr 2
      rw [Int.add_assoc]
/-- The plan cut short: it stops where the end is known. -/
theorem run_short (hc : 0 ≤ c) (hcm : c < (m : Int) + 1) : ∀ (it : List Bool) (i : Nat) (b : Int), i + it.length = m + 1 → it ≠ [] → 0 ≤ b → b ≤ c →
    ∃ k : Nat, 1 ≤ k ∧ k ≤ it.length ∧ run (shT ((m + 1 : Nat) : Int) c (m + 1)) (shL ((m + 1 : Nat) : Int) c (m + 1)) it i b = (((i + k : Nat) : Int), decide (b + cnt it ≤ c)) ∧
      (b + cnt it ≤ c → b + cnt (it.take k) + ((m : Int) + 1) - ((i : Int) + k) ≤ c) ∧ (¬ b + cnt it ≤ c → b + cnt (it.take k) > c)
  | [], _, _, _, hne, _, _ => absurd rfl hne
  | x :: xs, i, b, hl, _, hb, hbc => by
    simp only [List.length_cons] at hl
    have hm := more_eq x b
    have hcx : cnt (x :: xs) = (if x = true then 1 else 0) + cnt xs := rfl
    have hr := cnt_range xs
    have hmr : 0 ≤ more x b := by rw [hm]; split <;> omega
    have eb : b + cnt (x :: xs) = more x b + cnt xs := by rw [hm, hcx]; omega
    unfold run
    rw [rd_shT i (by omega), rd_shL i (by omega)]
    have eS : stT ((m + 1 : Nat) : Int) c i = mx (c - ((m : Int) - i)) (-1) := by unfold stT; congr 1; omega
    rw [eS]
    have hone : cnt ((x :: xs).take 1) = (if x = true then 1 else 0) := by simp [cnt]
    by_cases h1 : more x b ≤ mx (c - ((m : Int) - i)) (-1)
    · have h2 : more x b ≤ c - ((m : Int) - i) := by unfold mx at h1; split at h1 <;> omega
      refine ⟨1, by omega, by simp, ?_, ?_, ?_⟩
      · rw [if_pos h1, eb, decide_eq_true (by omega)]; rfl
      · intro _; rw [hone]; omega
      · intro h; rw [eb] at h; omega
    · rw [if_neg h1]
      by_cases h3 : more x b ≥ c + 1
      · refine ⟨1, by omega, by simp, ?_, ?_, ?_⟩
        · rw [if_pos h3, eb, decide_eq_false (by omega)]; rfl
        · intro h; rw [eb] at h; omega
        · intro _; rw [hone]; omega
      · rw [if_neg h3]
        have hxs : xs ≠ [] := by
          intro h
          rw [h] at hl
          simp at hl
          have : i = m := by omega
          subst this
          unfold mx at h1
          split at h1 <;> omega
        obtain ⟨k, k1, k2, k3, k4, k5⟩ := run_short hc hcm xs (i + 1) (more x b) (by omega) hxs hmr (by omega)
        refine ⟨k + 1, by omega, by simp; omega, ?_, ?_, ?_⟩
        · rw [k3, eb]
          congr 2
          omega
        · intro h
          rw [eb] at h
          have := k4 h
          rw [List.take_succ_cons]
          simp only [cnt]
          omega
        · intro h
          rw [eb] at h
          have := k5 h
          rw [List.take_succ_cons]
          simp only [cnt]
          omega
end
/-- The law's own count. -/
theorem count_go (n c b : Int) (ok : Bool) (l : List Bool) (hl : l.length ≤ 12) (v : Bool) (hv : Ev (fun k => if ok = true then (if (wrap64 ((wrap64 (cnt l + n)) - b)) ≤ c then ((comfitlaw02_awake.f k).bind fun t771 => (some t771)) else (some false)) else (if cnt l > c then ((comfitlaw02_awake.f k).bind fun t772 => (some t772)) else (some false))) v) :
    ∀ d i : Nat, i + d = l.length → Ev (fun k => comfitlaw02_LotsShort.l0 k n c b ok (cnt (l.take i)) l l.length i) v := by
  intro d
  induction d with
  | zero =>
    intro i hi
    rw [List.take_of_length_le (by omega)]
    exact Ev.succ hv (fun k => by rw [comfitlaw02_LotsShort.l0, if_neg (by omega)])
  | succ d ih =>
    intro i hi
    have hI := ih (i + 1) (by omega)
    have e2 : wrap64 ((i : Int) + 1) = ((i + 1 : Nat) : Int) := by rw [w_in (by omega) (by omega)]; omega
    have hr := cnt_range (l.take i)
    have hle : (l.take i).length ≤ 12 := by rw [List.length_take]; omega
    have hcs : cnt (l.take (i + 1)) = cnt (l.take i) + (if rdOf false l (i : Int) = true then 1 else 0) := by
      rw [List.take_add_one]
      have : l[i]?.toList = [rdOf false l (i : Int)] := by
        have hlt : i < l.length := by omega
        simp [rdOf, hlt]
      rw [this]
      have happ : ∀ (a : List Bool) (x : Bool), cnt (a ++ [x]) = cnt a + (if x = true then 1 else 0) := by
        intro a x
        induction a with
        | nil => simp [cnt]
        | cons y a ih => simp only [List.cons_append, cnt]; rw [ih]; omega
      exact happ _ _
    refine Ev.succ hI (fun k => ?_)
    rw [comfitlaw02_LotsShort.l0, if_pos (by omega), if_pos (by omega), if_pos (by omega), e2, hcs]
    by_cases hx : rdOf false l (i : Int) = true
    · rw [if_pos hx, if_pos hx, w_in (by omega) (by omega)]
    · rw [if_neg hx, if_neg hx, Int.add_zero]
theorem LotsShort (n c : Int) (it : List Bool) (_ : (Lit.int .i64 n).wf = true) (_ : (Lit.int .i64 c).wf = true) (_ : it.length ≤ maxLen) : ∃ k, comfitlaw02_LotsShort.f k n c it = some true := by
  refine Ev.get (g := fun k => comfitlaw02_LotsShort.f k n c it) ?_
  unfold comfitlaw02_LotsShort.f
  rw [Single_ok, Short_ok, Numbers_ok]
  simp only [Option.bind_some]
  cases h : isS n c with
  | false =>
    simp only [Bool.false_eq_true, if_false, show ¬ ((2 : Int) = 0) by decide]
    refine Ev.succ (g := fun k => (comfitlaw02_awake.f k).bind fun t754 => (some t754)) (Ev.bind awake_ev (Ev.const rfl)) (fun k => ?_)
    rw [comfitlaw02_LotsShort.j0, if_pos rfl, if_pos rfl, if_pos rfl]
  | true =>
    obtain ⟨h1, h2, h3, h4⟩ := (isS_iff n c).1 h
    obtain ⟨m, rfl⟩ : ∃ m : Nat, n = ((m + 1 : Nat) : Int) := ⟨n.toNat - 1, by omega⟩
    have hp := plans h
    rw [Int.toNat_natCast] at *
    have okS := (okP_iff _ _).1 hp.2.2.1
    have okT := (okP_iff _ _).1 hp.2.2.2
    have lS : (singleT ((m + 1 : Nat) : Int) c).length = m + 1 := by simp [singleT]
    have lT : (shT ((m + 1 : Nat) : Int) c (m + 1)).length = m + 1 := by rw [shT_length]; simp
    simp only [if_true, Bool.not_true]
    have hcl := cloneB_ok it
    rw [if_pos (by unfold mn; split <;> omega), if_pos (by unfold mn; split <;> omega)] at hcl
    refine Ev.succ (g := fun k => (lots_Run.f k (singleT ((m + 1 : Nat) : Int) c) (singleL ((m + 1 : Nat) : Int) c) (it.take 15)).bind fun bt759 => ((lots_Run.f k (shT ((m + 1 : Nat) : Int) c (m + 1)) (shL ((m + 1 : Nat) : Int) c (m + 1)) (it.take 15)).bind fun bt766 => (if bt759.2.2 = 0 then (comfitlaw02_LotsShort.j1 k ((m + 1 : Nat) : Int) c it bt759.2.2 bt766.2.2 bt759.1 bt759.2.1 bt766.1 bt766.2.1 (bt766.2.2 != 0)) else (comfitlaw02_LotsShort.j1 k ((m + 1 : Nat) : Int) c it bt759.2.2 bt766.2.2 bt759.1 bt759.2.1 bt766.1 bt766.2.1 true)))) ?_ (fun k => by
      rw [comfitlaw02_LotsShort.j0, if_neg (by decide), if_pos (by unfold mn; split <;> omega), if_pos (by unfold mn; split <;> omega), hcl]
      rfl)
    by_cases hl : it.length = m + 1
    · have hit : it.take 15 = it := List.take_of_length_le (by omega)
      rw [hit]
      have hne : it ≠ [] := by intro e; rw [e] at hl; simp at hl
      have rS := run_single (m := m) h3 (by omega) it 0 0 (by omega) hne (by omega) (by omega)
      obtain ⟨k, k1, k2, k3, k4, k5⟩ := run_short (m := m) h3 (by omega) it 0 0 (by omega) hne (by omega) h3
      rw [Nat.zero_add] at k3
      refine Ev.bind (Run_ev okS it (by rw [lS]; exact hl)) (Ev.bind (Run_ev okT it (by rw [lT]; exact hl)) ?_)
      rw [rS, k3]
      simp only [if_true, bne_self_eq_false]
      refine Ev.succ (g := fun r => comfitlaw02_LotsShort.j2 r ((m + 1 : Nat) : Int) c it k (decide (0 + cnt it ≤ c)) false) ?_ (fun r => by
        rw [comfitlaw02_LotsShort.j1, if_neg (by decide), if_pos rfl, if_neg (by omega), if_neg (by omega), if_neg (by simp)]
        have e : ((it.length : Int) != ((m + 1 : Nat) : Int)) = false := by simp; omega
        rw [e])
      refine Ev.succ (g := fun r => comfitlaw02_LotsShort.l0 r ((m + 1 : Nat) : Int) c k (decide (0 + cnt it ≤ c)) (cnt ((it.take k).take 0)) (it.take k) ((it.take k).length : Int) ((0 : Nat) : Int)) ?_ (fun r => by
        rw [comfitlaw02_LotsShort.j2, if_neg (by decide), if_pos (by omega), if_pos (by omega), Int.toNat_natCast]
        rfl)
      have hr := cnt_range (it.take k)
      have hlk : (it.take k).length ≤ 12 := by rw [List.length_take]; omega
      refine count_go _ c k _ (it.take k) hlk true ?_ (it.take k).length 0 (by omega)
      by_cases hd : 0 + cnt it ≤ c
      · rw [decide_eq_true hd]
        have := k4 hd
        refine Ev.ifPos rfl (Ev.ifPos ?_ (Ev.bind awake_ev (Ev.const rfl)))
        rw [w_in (n := cnt (it.take k) + ((m + 1 : Nat) : Int)) (by omega) (by omega), w_in (by omega) (by omega)]
        omega
      · rw [decide_eq_false hd]
        have := k5 hd
        exact Ev.ifNeg (by decide) (Ev.ifPos (by omega) (Ev.bind awake_ev (Ev.const rfl)))
    · have hno : (it.take 15).length ≠ m + 1 := by rw [List.length_take]; omega
      refine Ev.bind (Run_no _ _ _ (Or.inr (by rw [lS]; exact hno))) (Ev.bind (Run_no _ _ _ (Or.inr (by rw [lT]; exact hno))) ?_)
      refine Ev.ifNeg (by decide) ?_
      refine Ev.succ (g := fun k => (comfitlaw02_awake.f k).bind fun t769 => (some t769)) (Ev.bind awake_ev (Ev.const rfl)) (fun k => ?_)
      rw [comfitlaw02_LotsShort.j1, if_pos rfl, if_pos rfl, if_pos rfl, if_neg (by omega)]
end Go.Proofs.Ytdppnmfljfdhaaa.Pure
