/- Plain laws of packets: the chances that just a set's kinds came, and the sets that are let in. -/
import Derived.Test.YtigmhomfadimnaaQMDone
import Derived.Test.YtigmhomfadimnaaQHExact
import Derived.Test.YtigmhomfadimnaaQX0
import Derived.Test.YtigmhomfadimnaaQXR
import Derived.Test.YtigmhomfadimnaaQXS
import Derived.Test.YtigmhomfadimnaaQXpacketsDone
set_option linter.unusedVariables false
set_option linter.unusedSimpArgs false
namespace Go.Proofs.Ytigmhomfadimnaa.Pure
open Go.RowKit Go.Proofs.Ytigmhomfadimnaa.X Go.Proofs.YtigmhomfadimnaaW.PrintWords Go.Proofs.YtigmhomfadimnaaW.PrintLast Go.Proofs.YtigmhomfadimnaaW.PrintMore

/-! Plain laws of packets: the chances that just a set's kinds came, and the sets that are let in. -/
theorem Done_ev (l : List Int) (s n : Int) (hs : okS l s = true) (hn0 : 0 ≤ n) (hn : n ≤ 8) : Ev (fun k => packets_Done.f k l s n) ((fr (Rat.divInt (dn l s n.toNat) (tot l ^ n.toNat))).1, (fr (Rat.divInt (dn l s n.toNat) (tot l ^ n.toNat))).2, 0) := by
  obtain ⟨h, h0, h1⟩ := (okS_iff l s).1 hs
  have hk := (okW_iff l).1 h
  have hl := pow_le l.length hk.2.1
  have ht := tot_bound l h
  have hp := pow_bound (tot l) (by omega) (by omega) n.toNat (by omega)
  have hpp : 0 < tot l ^ n.toNat := Int.pow_pos (by omega)
  have hb := dn_bound l h s n.toNat (by omega) h0 h1
  unfold packets_Done.f
  refine Ev.bind (isSet_ev l s) (Ev.ifPos hs ?_)
  rw [isCount_ok, (okN_iff n).2 ⟨hn0, hn⟩]
  simp only [Option.bind_some, Bool.not_true]
  refine Ev.succ (g := fun k => (packets_weights_done.f k l s n).bind fun t414 => ((packets_weights_all.f l).bind fun t415 => ((packets_weights_of.f k l t415).bind fun t416 => ((packets_power.f k t416 n).bind fun t417 => ((packets_frac.f k t414 t417).bind fun bt418 => (some (bt418.1, bt418.2, 0))))))) ?_ (fun k => by rw [packets_Done.j0, if_neg (by simp)])
  refine Ev.bind (done_ev l h s n hn0 hn h0 h1) ?_
  rw [all_ok l hk.2.1]
  simp only [Option.bind_some]
  refine Ev.bind (packets_of_ev l _ (by omega) (by omega) hk.2.1) ?_
  have e2 : wrap64 (wsum l (2 ^ l.length - 1)) = tot l := w_in (by unfold tot at ht; omega) (by unfold tot at ht; omega)
  rw [e2]
  refine Ev.bind (packets_power_ev _ n hn0 (by omega)) ?_
  rw [w_in (by omega) (by omega)]
  exact Ev.bind (packets_frac_ev _ _ hpp (by omega) (by omega) (by omega)) (Ev.const rfl)
theorem Done_bad (l : List Int) (s n : Int) (h : okS l s = false ∨ okN n = false) : Ev (fun k => packets_Done.f k l s n) (0, 0, 2) := by
  unfold packets_Done.f
  refine Ev.bind (isSet_ev l s) ?_
  cases hs : okS l s with
  | false => exact Ev.ifNeg (by simp) (Ev.succ (g := fun _ => some (0, 0, 2)) (Ev.const rfl) (fun k => by simp [packets_Done.j0]))
  | true =>
    refine Ev.ifPos rfl ?_
    rw [isCount_ok, show okN n = false by simpa [hs] using h]
    exact (Ev.succ (g := fun _ => some (0, 0, 2)) (Ev.const rfl) (fun k => by simp [packets_Done.j0]))

end Go.Proofs.Ytigmhomfadimnaa.Pure
