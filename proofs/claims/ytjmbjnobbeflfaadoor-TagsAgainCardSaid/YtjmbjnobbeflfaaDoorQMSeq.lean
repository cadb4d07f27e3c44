/- Plain laws of tapes: the tapes of a run one after the other, and when one comes again. -/
import Derived.Test.YtjmbjnobbeflfaaDoorQMTape
import Derived.Test.YtjmbjnobbeflfaaDoorQHAg
set_option linter.unusedVariables false
set_option linter.unusedSimpArgs false
namespace Go.Proofs.YtjmbjnobbeflfaaDoor.Pure
open Go.RowKit Go.Proofs.YtjmbjnobbeflfaaDoor.X Go.Proofs.YtjmbjnobbeflfaaDoorW.PrintWords Go.Proofs.YtjmbjnobbeflfaaDoorW.PrintLast Go.Proofs.YtjmbjnobbeflfaaDoorW.PrintMore
/-- The tape after some steps, whatever they are. -/
def sq (nx : ByteArray → ByteArray) (t : ByteArray) : Nat → ByteArray
  | 0 => t
  | n + 1 => nx (sq nx t n)
/-- A step from this tape is done. -/
def okT (c : Int) (s0 s1 s2 s3 t : ByteArray) : Prop := ¬ (t.size : Int) < c ∧ ¬ ((nextT c s0 s1 s2 s3 t).size : Int) > 200
theorem step_yes {c : Int} {s0 s1 s2 s3 t : ByteArray} (h : Cuts c s0 s1 s2 s3) (ht : lettersB t 200 = true) (ho : okT c s0 s1 s2 s3 t) : tags_cutter_step.f c s0 s1 s2 s3 t = some (nextT c s0 s1 s2 s3 t, 0) := by
  rw [step_ok h ht, if_neg ho.1, if_neg ho.2]
theorem step_no {c : Int} {s0 s1 s2 s3 t : ByteArray} (h : Cuts c s0 s1 s2 s3) (ht : lettersB t 200 = true) (ho : ¬ okT c s0 s1 s2 s3 t) : ∃ x e, tags_cutter_step.f c s0 s1 s2 s3 t = some (x, e) ∧ (e = 4 ∨ e = 6) := by
  rw [step_ok h ht]
  by_cases h1 : (t.size : Int) < c
  · rw [if_pos h1]; exact ⟨t, 4, rfl, .inl rfl⟩
  · rw [if_neg h1]
    by_cases h2 : ((nextT c s0 s1 s2 s3 t).size : Int) > 200
    · rw [if_pos h2]; exact ⟨noT, 6, rfl, .inr rfl⟩
    · exact absurd ⟨h1, h2⟩ ho
theorem sq_let {c : Int} {s0 s1 s2 s3 t : ByteArray} (h : Cuts c s0 s1 s2 s3) (ht : lettersB t 200 = true) : ∀ n : Nat, (∀ i, i < n → okT c s0 s1 s2 s3 (sq (nextT c s0 s1 s2 s3) t i)) → lettersB (sq (nextT c s0 s1 s2 s3) t n) 200 = true
  | 0, _ => ht
  | n + 1, ho => next_let h (sq_let h ht n (fun i hi => ho i (by omega))) (ho n (by omega)).2
/-- The tapes before the k-th one. -/
def sqs (nx : ByteArray → ByteArray) (t : ByteArray) (k : Nat) : List (List UInt8) := (List.range k).map fun i => (sq nx t i).data.toList
theorem sqs_len (nx : ByteArray → ByteArray) (t : ByteArray) (k : Nat) : (sqs nx t k).length = k := by simp [sqs]
theorem sqs_succ (nx : ByteArray → ByteArray) (t : ByteArray) (k : Nat) : sqs nx t (k + 1) = sqs nx t k ++ [(sq nx t k).data.toList] := by simp [sqs, List.range_succ]
theorem sqs_mem {nx : ByteArray → ByteArray} {t x : ByteArray} {k : Nat} (h : x.data.toList ∈ sqs nx t k) : ∃ i, i < k ∧ sq nx t i = x ∧ (sqs nx t k).idxOf x.data.toList = i := by
  have hl := List.idxOf_lt_length_of_mem h
  have hg := List.getElem_idxOf hl
  rw [sqs_len] at hl
  refine ⟨_, hl, ?_, rfl⟩
  apply ba_ext
  refine Eq.trans ?_ hg
  simp only [sqs, List.getElem_map, List.getElem_range]
theorem sqs_not {nx : ByteArray → ByteArray} {t x : ByteArray} {k i : Nat} (h : x.data.toList ∉ sqs nx t k) (hi : i < k) : sq nx t i ≠ x := by
  intro e
  apply h
  unfold sqs
  rw [List.mem_map]
  exact ⟨i, by simpa using hi, by rw [e]⟩
/-- What is known of a run that looks for a tape that comes again. -/
theorem tapesA_is {c : Int} {s0 s1 s2 s3 t : ByteArray} (h : Cuts c s0 s1 s2 s3) (ht : lettersB t 200 = true) : ∀ (d k : Nat), k + d = 1000 →
    (∀ i, i < k → okT c s0 s1 s2 s3 (sq (nextT c s0 s1 s2 s3) t i)) → (∀ i j, i < j → j < k → sq (nextT c s0 s1 s2 s3) t i ≠ sq (nextT c s0 s1 s2 s3) t j) →
    ∃ e last b n, tapesA c s0 s1 s2 s3 d (sqs (nextT c s0 s1 s2 s3) t k) (sq (nextT c s0 s1 s2 s3) t k) = some (e, last, b, n) ∧
      (e = 0 ∧ n = 0 ∨ e = 4 ∨ e = 6 ∨ (e = 0 ∧ ∃ B N : Nat, b = (B : Int) ∧ n = (N : Int) ∧ 1 ≤ N ∧ B + N ≤ 1000 ∧ sq (nextT c s0 s1 s2 s3) t B = sq (nextT c s0 s1 s2 s3) t (B + N) ∧
        (∀ i, i < B + N → okT c s0 s1 s2 s3 (sq (nextT c s0 s1 s2 s3) t i)) ∧ (∀ i j, i < j → j < B + N → sq (nextT c s0 s1 s2 s3) t i ≠ sq (nextT c s0 s1 s2 s3) t j))) := by
  intro d
  induction d with
  | zero =>
    intro k hk ho hne
    have hl := sq_let h ht k ho
    have hsz : (sq (nextT c s0 s1 s2 s3) t k).size ≤ maxLen := by have := letB_size hl; simp [maxLen]; omega
    by_cases hm : (sq (nextT c s0 s1 s2 s3) t k).data.toList ∈ sqs (nextT c s0 s1 s2 s3) t k
    · rw [tapesA_in hsz hm]
      obtain ⟨i, hi, he, hx⟩ := sqs_mem hm
      refine ⟨_, _, _, _, rfl, .inr (.inr (.inr ⟨rfl, i, k - i, by rw [hx], by rw [hx, sqs_len]; omega, by omega, by omega, by rw [he, show i + (k - i) = k by omega], by rw [show i + (k - i) = k by omega]; exact ho, by rw [show i + (k - i) = k by omega]; exact hne⟩))⟩
    · rw [tapesA, if_pos hsz, if_neg hm]
      exact ⟨_, _, _, _, rfl, .inl ⟨rfl, rfl⟩⟩
  | succ d ih =>
    intro k hk ho hne
    have hl := sq_let h ht k ho
    have hsz : (sq (nextT c s0 s1 s2 s3) t k).size ≤ maxLen := by have := letB_size hl; simp [maxLen]; omega
    by_cases hm : (sq (nextT c s0 s1 s2 s3) t k).data.toList ∈ sqs (nextT c s0 s1 s2 s3) t k
    · rw [tapesA_in hsz hm]
      obtain ⟨i, hi, he, hx⟩ := sqs_mem hm
      refine ⟨_, _, _, _, rfl, .inr (.inr (.inr ⟨rfl, i, k - i, by rw [hx], by rw [hx, sqs_len]; omega, by omega, by omega, by rw [he, show i + (k - i) = k by omega], by rw [show i + (k - i) = k by omega]; exact ho, by rw [show i + (k - i) = k by omega]; exact hne⟩))⟩
    · rw [tapesA, if_pos hsz, if_neg hm]
      by_cases hok : okT c s0 s1 s2 s3 (sq (nextT c s0 s1 s2 s3) t k)
      · rw [step_yes h hl hok, Option.bind_some, if_pos rfl, ← sqs_succ]
        refine ih (k + 1) (by omega) (fun i hi => ?_) (fun i j hij hj => ?_)
        · by_cases e : i = k
          · rw [e]; exact hok
          · exact ho i (by omega)
        · by_cases e : j = k
          · rw [e]; exact sqs_not hm (by omega)
          · exact hne i j hij (by omega)
      · obtain ⟨x, e, hs, he⟩ := step_no h hl hok
        rw [hs, Option.bind_some]
        have he0 : ¬ e = 0 := by rcases he with e1 | e1 <;> rw [e1] <;> decide
        rw [if_neg he0]
        refine ⟨_, _, _, _, rfl, ?_⟩
        rcases he with e1 | e1
        · exact .inr (.inl e1)
        · exact .inr (.inr (.inl e1))
theorem mod_lt (a : Int) (m : Nat) (h0 : 0 < m) (h1 : m ≤ 1000) : ∃ A : Nat, wrap64 (Int.tmod (IntKind.u64.wrap a) (m : Int)) = (A : Int) ∧ A < m := by
  have h2 : 0 ≤ IntKind.u64.wrap a := by
    unfold IntKind.wrap
    simp [IntKind.signed, IntKind.bits]
    omega
  have h3 := Int.tmod_nonneg (m : Int) h2
  have h4 := Int.tmod_lt_of_pos (IntKind.u64.wrap a) (show (0 : Int) < (m : Int) by omega)
  generalize Int.tmod (IntKind.u64.wrap a) (m : Int) = q at h3 h4
  clear h2
  refine ⟨q.toNat, ?_, by omega⟩
  unfold wrap64
  omega
end Go.Proofs.YtjmbjnobbeflfaaDoor.Pure
