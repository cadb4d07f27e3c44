/- The contract of slices.Delete at []int, over a row of the caller's own: the shelf's contract, laid at this program. -/
import Derived.Test.YtigmhomfadimnaaHRound
import Derived.Ground.Names2Prog
import Derived.Shelf.Lay
import Derived.Shelf.Slices.Delete
set_option linter.unusedVariables false
set_option linter.unusedSimpArgs false
namespace Go.Proofs
open Go.Shelf Go.Lib Go.Sort Go.RowKit
shelf_lay Lays2.n23 Nm2 23 at Try as Try.lays23
end Go.Proofs
namespace Go.Proofs.Ytigmhomfadimnaa.X
open Go.RowKit Go.Proofs.YtigmhomfadimnaaW.PrintWords Go.Proofs.YtigmhomfadimnaaW.PrintLast Go.Proofs.YtigmhomfadimnaaW.PrintMore

def slices_Delete_int_int.f (l : List Int) (i j : Int) : Option (List Int) := if 0 ≤ i ∧ i ≤ j ∧ j ≤ l.length then some (l.take i.toNat ++ l.drop j.toNat) else none

theorem putRow_owns {enc : Int → Value} {W : World} {base e g n cap q : Nat} {xs : List Value} (h : W.ownsRow base e 1 (.slice (some ⟨g, 0, none⟩) n cap) n xs) (d : List Int) (hd : d.length = n) (m : Nat) (hm : m ≤ n) :
    (Sort.putRow enc (Sort.ahead W q) g 0 d.toArray).ownsRow base e 1 (.slice (some ⟨g, 0, none⟩) m cap) m (encs enc (d.take m)) := by
  obtain ⟨hl, h | ⟨g', cap', cur, hv, hb, hg, hn, hc, hs, ht⟩⟩ := h
  · simp at h
  · simp only [Value.slice.injEq, Option.some.injEq, Addr.mk.injEq, and_true, true_and] at hv
    obtain ⟨rfl, rfl⟩ := hv
    refine ⟨by rw [encs_length, List.length_take]; omega, .inr ⟨g, cap, Sort.putCells enc 0 d.toArray cur, rfl, hb, ?_, by omega, hc, by simpa [Sort.putCells] using hs, ?_⟩⟩
    · show (W.heap.modify g _)[g]? = _
      rw [Array.getElem?_modify]
      simp [hg, Sort.onCells]
    · apply List.ext_getElem?
      intro j
      rw [Nat.mul_one]
      rcases Nat.lt_or_ge j m with hj | hj
      · rw [List.getElem?_take_of_lt hj]
        have hjc : j < cur.size := by omega
        have hjd : j < d.length := by omega
        simp [Sort.putCells, encs, hjc, hjd, hj, List.getElem?_take_of_lt hj]
      · rw [List.getElem?_eq_none (by rw [List.length_take]; omega), List.getElem?_eq_none (by rw [encs_length, List.length_take]; omega)]

theorem slices_Delete_int_int.calls_own {base g cap : Nat} {ok : Nat → Prop} {W : World} {l r : List Int} (HO : (Kd.int .i64).R 3 W base ok (.slice (some ⟨g, 0, none⟩) l.length cap) l) (i j : Int) (h : slices_Delete_int_int.f l i j = some r) :
    Calls Try.prog 63 #[.slice (some ⟨g, 0, none⟩) l.length cap, .int .i64 i, .int .i64 j] W fun e W' => ∃ v, e = .returned v ∧ (Kd.int .i64).R 3 W' base ok v r ∧ (∀ w0 : World, w0.heap.size ≤ base → Below w0.heap.size w0 W → Below w0.heap.size w0 W') := by
  unfold slices_Delete_int_int.f at h
  split at h
  · rename_i hc
    obtain ⟨h0, hij, hj⟩ := hc
    obtain rfl := Option.some.inj h
    obtain ⟨a, rfl⟩ := Int.eq_ofNat_of_zero_le h0
    obtain ⟨b, rfl⟩ := Int.eq_ofNat_of_zero_le (show 0 ≤ j by omega)
    have hown := Kd.own_of_R HO
    have hblk : base ≤ g := by
      have := Kd.R_base HO g rfl
      exact this
    have hcap := (Kd.R_reads' HO).2.1
    have hlen : l.length ≤ cap ∧ cap ≤ 9223372036854775807 := by
      obtain ⟨_, h | ⟨g', cap', cur, hv, hb, hg, hn, hc, hs, ht⟩⟩ := hown
      · simp at h
      · simp only [Value.slice.injEq, Option.some.injEq, Addr.mk.injEq, and_true, true_and] at hv
        obtain ⟨rfl, rfl⟩ := hv
        exact ⟨hn, Nat.le_trans hc (by decide)⟩
    have hH : Sort.Holds (Value.int .i64) W g 0 l.toArray := by
      obtain ⟨_, h | ⟨g', cap', cur, hv, hb, hg, hn, hc, hs, ht⟩⟩ := hown
      · simp at h
      · simp only [Value.slice.injEq, Option.some.injEq, Addr.mk.injEq, and_true, true_and] at hv
        obtain ⟨rfl, rfl⟩ := hv
        intro k hk
        have hk' : k < l.length := by simpa using hk
        refine ⟨(blk_cell hg _).trans ?_, blk_frozen hg _⟩
        have h1 := congrArg (fun L => L[k]?) ht
        simp only [Nat.mul_one, List.getElem?_take_of_lt hk'] at h1
        rw [Nat.zero_add, ← Array.getElem?_toList, h1]
        simp [encs, hk']
    refine (Any.slices_Delete_int Try.lays23 g 0 cap a b l W hH hlen.1 hlen.2 (by omega) (by omega)).mono ?_
    rintro e W' ⟨rfl, q, rfl⟩
    have hd : (l.take a ++ l.drop b ++ List.replicate (b - a) 0).length = l.length := by simp; omega
    have hw := putRow_owns (enc := Value.int .i64) (q := q) hown _ hd (l.length - (b - a)) (by omega)
    have he : (l.take a ++ l.drop b ++ List.replicate (b - a) 0).take (l.length - (b - a)) = l.take a ++ l.drop b := by
      rw [List.take_append_of_le_length (by simp; omega)]
      exact List.take_of_length_le (by simp; omega)
    have hlen2 : l.length - (b - a) = (l.take a ++ l.drop b).length := by simp; omega
    rw [he] at hw
    refine ⟨_, rfl, ?_, ?_⟩
    · simp only [Int.toNat_natCast]
      rw [hlen2] at hw ⊢
      exact Kd.R_of_own hw (fun k hk => HO.1 k hk)
    · intro w0 hw0 hB
      refine hB.grown (w' := _) (row := some g) ⟨rfl, rfl, rfl, by simp [Sort.ahead], ?_⟩ hB.size (fun k e => by cases e; omega)
      intro k hk hne
      show (W.heap.modify g _)[k]? = _
      rw [Array.getElem?_modify, if_neg (by rintro rfl; exact hne rfl)]
  · simp at h

end Go.Proofs.Ytigmhomfadimnaa.X
