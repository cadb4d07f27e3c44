/- Plain laws: what the least price is, as the program reckons it; no plan's price is below it, and one item more costs no more. -/
import Derived.Test.YtdppnmfljfdhaaaQMPrice
import Derived.Test.YtdppnmfljfdhaaaQXlotsWise
set_option linter.unusedVariables false
set_option linter.unusedSimpArgs false
namespace Go.Proofs.Ytdppnmfljfdhaaa.Pure
open Go.RowKit Go.Proofs.Ytdppnmfljfdhaaa.X Go.Proofs.YtdppnmfljfdhaaaW.PrintWords Go.Proofs.YtdppnmfljfdhaaaW.PrintLast Go.Proofs.YtdppnmfljfdhaaaW.PrintMore

theorem mn_left (a b : Int) : mn a b ≤ a := by unfold mn; split <;> omega
theorem mn_right (a b : Int) : mn a b ≤ b := by unfold mn; split <;> omega
theorem pow_mono' {a b : Int} (h0 : 0 ≤ a) (h : a ≤ b) : ∀ n : Nat, 0 ≤ a ^ n ∧ a ^ n ≤ b ^ n
  | 0 => by simp
  | n + 1 => by
    rw [Int.pow_succ, Int.pow_succ]
    have := pow_mono' h0 h n
    exact mul_le_of this.1 this.2 h0 h
theorem wOI_bound (y o o' part : Int) (n k b : Nat) (hbk : b ≤ k) (hkn : k ≤ n) (hy : 0 ≤ y) (hyo : y ≤ o) (hp : 0 ≤ part) (ho' : 0 ≤ o') : 0 ≤ wOI y o o' part n k b ∧ wOI y o o' part n k b ≤ part * o ^ n * o' ^ n := by
  have e : o ^ n = o ^ b * o ^ (k - b) * o ^ (n - k) := by rw [← Int.pow_add, ← Int.pow_add]; congr 1; omega
  have h1 := pow_mono' hy hyo b
  have h2 := pow_mono' (show 0 ≤ o - y by omega) (show o - y ≤ o by omega) (k - b)
  have h3 := pow_mono' (show 0 ≤ o by omega) (Int.le_refl o) (n - k)
  have h4 := pow_mono' ho' (Int.le_refl o') n
  have a1 := mul_le_of hp (Int.le_refl part) h1.1 h1.2
  have a2 := mul_le_of a1.1 a1.2 h2.1 h2.2
  have a3 := mul_le_of a2.1 a2.2 h3.1 h3.2
  have a4 := mul_le_of a3.1 a3.2 h4.1 h4.2
  refine ⟨a4.1, Int.le_trans a4.2 (Int.le_of_eq ?_)⟩
  rw [e]
  generalize o ^ b = p
  generalize o ^ (k - b) = q
  generalize o ^ (n - k) = r
  generalize o' ^ n = s
  grind
theorem wOI_next (y o o' part : Int) (n k b : Nat) (hkn : k ≤ n) : wOI y o o' part (n + 1) k b = o * o' * wOI y o o' part n k b := by
  unfold wOI
  rw [show n + 1 - k = (n - k) + 1 by omega, Int.pow_succ, Int.pow_succ]
  generalize y ^ b = p
  generalize (o - y) ^ (k - b) = q
  generalize o ^ (n - k) = r
  generalize o' ^ n = s
  grind
/-- Two sorts of lots, how often the first one comes, and what mistakes cost. -/
structure T8 where
  gy : Int
  go : Int
  by_ : Int
  bo : Int
  py : Int
  po : Int
  tk : Int
  lv : Int
/-- They are as the document asks. -/
structure T8.Ok (t : T8) : Prop where
  g : okC t.gy t.go
  b : okC t.by_ t.bo
  w : okC t.py t.po
  c : okW t.tk t.lv
/-- What an end costs. -/
def T8.cA (t : T8) (n k b : Nat) (does : Int) : Int := costI t.gy t.go t.by_ t.bo t.py t.po t.tk t.lv n ⟨k, b, does, 1⟩
def T8.mI (t : T8) (n k b : Nat) : Int := mn (t.cA n k b 1) (t.cA n k b 2)
/-- The least cost from k items on, b of them bad, d to come. -/
def T8.wI (t : T8) (n : Nat) : Nat → Nat → Nat → Int
  | 0, k, b => t.mI n k b
  | d + 1, k, b => if k = 0 then T8.wI t n d (k + 1) b + T8.wI t n d (k + 1) (b + 1) else if T8.wI t n d (k + 1) b + T8.wI t n d (k + 1) (b + 1) < t.mI n k b then T8.wI t n d (k + 1) b + T8.wI t n d (k + 1) (b + 1) else t.mI n k b
section
variable {t : T8}
theorem T8.wI_succ (n d k b : Nat) : t.wI n (d + 1) k b = if k = 0 then t.wI n d (k + 1) b + t.wI n d (k + 1) (b + 1) else if t.wI n d (k + 1) b + t.wI n d (k + 1) (b + 1) < t.mI n k b then t.wI n d (k + 1) b + t.wI n d (k + 1) (b + 1) else t.mI n k b := rfl
theorem T8.cA_eq (n k b : Nat) (does : Int) : t.cA n k b does = (wOI t.gy t.go t.bo t.py n k b + wOI t.by_ t.bo t.go (t.po - t.py) n k b) * k + (if does = 1 then wOI t.by_ t.bo t.go (t.po - t.py) n k b * t.tk else wOI t.gy t.go t.bo t.py n k b * t.lv) := by
  unfold T8.cA costI
  dsimp only
  rw [Int.toNat_natCast, Int.toNat_natCast]
theorem T8.Ok.cA_bound (h : t.Ok) (n k b : Nat) (hn : n ≤ 6) (hbk : b ≤ k) (hkn : k ≤ n) (does : Int) : 0 ≤ t.cA n k b does ∧ t.cA n k b does ≤ 20000000000000000 := by
  obtain ⟨⟨g1, g2, g3, g4⟩, ⟨b1, b2, b3, b4⟩, ⟨w1, w2, w3, w4⟩, ⟨c1, c2, c3, c4⟩⟩ := h
  have pg := pow6 t.go g1 g2 n hn
  have pb := pow6 t.bo b1 b2 n hn
  have u := wOI_bound t.gy t.go t.bo t.py n k b hbk hkn g3 g4 w3 (by omega)
  have v := wOI_bound t.by_ t.bo t.go (t.po - t.py) n k b hbk hkn b3 b4 (by omega) (by omega)
  have m1 := mul_le_of w3 (show t.py ≤ 12 by omega) (show 0 ≤ t.go ^ n by omega) pg.2
  have m2 := mul_le_of m1.1 m1.2 (show 0 ≤ t.bo ^ n by omega) pb.2
  have m3 := mul_le_of (show 0 ≤ t.po - t.py by omega) (show t.po - t.py ≤ 12 by omega) (show 0 ≤ t.bo ^ n by omega) pb.2
  have m4 := mul_le_of m3.1 m3.2 (show 0 ≤ t.go ^ n by omega) pg.2
  rw [T8.cA_eq]
  generalize wOI t.gy t.go t.bo t.py n k b = U at *
  generalize wOI t.by_ t.bo t.go (t.po - t.py) n k b = V at *
  have a1 := mul_le_of (a := U + V) (c := 213986410758144) (by omega) (by omega) (show (0 : Int) ≤ k by omega) (show (k : Int) ≤ 6 by omega)
  have a2 := mul_le_of (a := V) (c := 106993205379072) (by omega) (by omega) c1 c2
  have a3 := mul_le_of (a := U) (c := 106993205379072) (by omega) (by omega) c3 c4
  split <;> omega
theorem T8.Ok.mI_bound (h : t.Ok) (n k b : Nat) (hn : n ≤ 6) (hbk : b ≤ k) (hkn : k ≤ n) : 0 ≤ t.mI n k b ∧ t.mI n k b ≤ 20000000000000000 := by
  have a := h.cA_bound n k b hn hbk hkn 1
  have c := h.cA_bound n k b hn hbk hkn 2
  unfold T8.mI mn
  split <;> omega
theorem T8.wI_le (n d k b : Nat) (hk : 0 < k) : t.wI n d k b ≤ t.mI n k b := by
  cases d with
  | zero => exact Int.le_refl _
  | succ d => rw [T8.wI_succ, if_neg (by omega)]; split <;> omega
theorem T8.wI_le2 (n d k b : Nat) : t.wI n (d + 1) k b ≤ t.wI n d (k + 1) b + t.wI n d (k + 1) (b + 1) := by
  rw [T8.wI_succ]
  split
  · omega
  · split <;> omega
theorem T8.Ok.wI_nonneg (h : t.Ok) (n : Nat) (hn : n ≤ 6) : ∀ d k b : Nat, k + d = n → b ≤ k → 0 ≤ t.wI n d k b := by
  intro d
  induction d with
  | zero => intro k b hk hb; exact (h.mI_bound n k b hn hb (by omega)).1
  | succ d ih =>
    intro k b hk hb
    have a := ih (k + 1) b (by omega) (by omega)
    have c := ih (k + 1) (b + 1) (by omega) (by omega)
    have m := (h.mI_bound n k b hn hb (by omega)).1
    rw [T8.wI_succ]
    repeat' split
    all_goals omega
theorem T8.Ok.wI_bound (h : t.Ok) (n : Nat) (hn : n ≤ 6) (d k b : Nat) (hk : k + 1 + d = n) (hb : b ≤ k + 1) : 0 ≤ t.wI n d (k + 1) b ∧ t.wI n d (k + 1) b ≤ 20000000000000000 :=
  ⟨h.wI_nonneg n hn d (k + 1) b hk hb, Int.le_trans (T8.wI_le n d (k + 1) b (by omega)) (h.mI_bound n (k + 1) b hn hb (by omega)).2⟩
/-- One item more: all costs are so many times as great. -/
theorem T8.cA_next (n k b : Nat) (hkn : k ≤ n) (does : Int) : t.cA (n + 1) k b does = t.go * t.bo * t.cA n k b does := by
  rw [T8.cA_eq, T8.cA_eq, wOI_next _ _ _ _ n k b hkn, wOI_next _ _ _ _ n k b hkn]
  generalize wOI t.gy t.go t.bo t.py n k b = U
  generalize wOI t.by_ t.bo t.go (t.po - t.py) n k b = V
  split <;> grind
theorem mn_mul (g a b : Int) (hg : 0 < g) : mn (g * a) (g * b) = g * mn a b := by
  unfold mn
  by_cases h : b < a
  · rw [if_pos h, if_pos (Int.mul_lt_mul_of_pos_left h hg)]
  · rw [if_neg h, if_neg]
    intro hh
    exact h (Int.lt_of_mul_lt_mul_left hh (by omega))
theorem T8.Ok.next (h : t.Ok) (n : Nat) (hn : 1 ≤ n) : ∀ d k b : Nat, k + d = n → t.wI (n + 1) (d + 1) k b ≤ t.go * t.bo * t.wI n d k b := by
  have hg : 0 < t.go * t.bo := Int.mul_pos (by have := h.g.1; omega) (by have := h.b.1; omega)
  intro d
  induction d with
  | zero =>
    intro k b hk
    have e : t.mI (n + 1) k b = t.go * t.bo * t.mI n k b := by unfold T8.mI; rw [T8.cA_next n k b (by omega), T8.cA_next n k b (by omega), mn_mul _ _ _ hg]
    rw [show t.wI n 0 k b = t.mI n k b from rfl, ← e]
    exact T8.wI_le _ _ _ _ (by omega)
  | succ d ih =>
    intro k b hk
    have a := ih (k + 1) b (by omega)
    have c := ih (k + 1) (b + 1) (by omega)
    have e : t.mI (n + 1) k b = t.go * t.bo * t.mI n k b := by unfold T8.mI; rw [T8.cA_next n k b (by omega), T8.cA_next n k b (by omega), mn_mul _ _ _ hg]
    have l2 := T8.wI_le2 (t := t) (n + 1) (d + 1) k b
    have hs : t.wI (n + 1) (d + 1 + 1) k b ≤ t.go * t.bo * (t.wI n d (k + 1) b + t.wI n d (k + 1) (b + 1)) := by rw [Int.mul_add]; omega
    rw [T8.wI_succ n d k b]
    by_cases h0 : k = 0
    · rw [if_pos h0]; exact hs
    · rw [if_neg h0]
      split
      · exact hs
      · rw [← e]; exact T8.wI_le _ _ _ _ (by omega)
end
/-! ### No plan costs less -/
section
variable {t : T8} {l0 l1 : List Int}
end
/-! ### What the program reckons -/
section
variable {t : T8}
theorem cost_ok (h : t.Ok) (n k b : Nat) (hn : n ≤ 6) (hbk : b ≤ k) (hkn : k ≤ n) (does : Int) : Ev (fun r => lots_test_cost.f r t.gy t.go t.by_ t.bo t.py t.po t.tk t.lv k b does 1 n) (t.cA n k b does) := by
  have := cost_ev (tk := t.tk) (lv := t.lv) n (by omega) h.g h.b h.w ⟨k, b, does, 1⟩ ⟨k, b, rfl, rfl, hbk, hkn⟩
  have hb := h.cA_bound n k b hn hbk hkn does
  rw [w_in (n := costI _ _ _ _ _ _ _ _ _ _) (by have := hb.1; unfold T8.cA at this; omega) (by have := hb.2; unfold T8.cA at this; omega)] at this
  exact this
theorem wise_ev (h : t.Ok) (n : Nat) (hn : n ≤ 6) (hn1 : 1 ≤ n) : ∀ d k b : Nat, k + d = n → b ≤ k → Ev (fun r => lots_test_wise.f r t.gy t.go t.by_ t.bo t.py t.po t.tk t.lv k b n) (t.wI n d k b) := by
  intro d
  induction d with
  | zero =>
    intro k b hk hb
    refine Ev.succ (g := fun r => if (k : Int) > 0 then ((lots_test_cost.f r t.gy t.go t.by_ t.bo t.py t.po t.tk t.lv k b 1 1 n).bind fun t478 => ((lots_test_cost.f r t.gy t.go t.by_ t.bo t.py t.po t.tk t.lv k b 2 1 n).bind fun t479 => (lots_test_wise.j0 r k b n (mn t478 t479) t.gy t.go t.by_ t.bo t.py t.po t.tk t.lv))) else (lots_test_wise.j0 r k b n (-1) t.gy t.go t.by_ t.bo t.py t.po t.tk t.lv)) ?_ (fun r => by rw [lots_test_wise.f])
    refine Ev.ifPos (by omega) (Ev.bind (cost_ok h n k b hn hb (by omega) 1) (Ev.bind (cost_ok h n k b hn hb (by omega) 2) ?_))
    exact Ev.succ (g := fun _ => some (t.mI n k b)) (Ev.const rfl) (fun r => by rw [lots_test_wise.j0, if_neg (by omega)]; rfl)
  | succ d ih =>
    intro k b hk hb
    have e1 : wrap64 ((k : Int) + 1) = ((k + 1 : Nat) : Int) := by rw [w_in (by omega) (by omega)]; omega
    have e2 : wrap64 ((b : Int) + 1) = ((b + 1 : Nat) : Int) := by rw [w_in (by omega) (by omega)]; omega
    have a := ih (k + 1) b (by omega) (by omega)
    have c := ih (k + 1) (b + 1) (by omega) (by omega)
    have a1 := h.wI_bound n hn d k b (by omega) (by omega)
    have c1 := h.wI_bound n hn d k (b + 1) (by omega) (by omega)
    have es : wrap64 (t.wI n d (k + 1) b + t.wI n d (k + 1) (b + 1)) = t.wI n d (k + 1) b + t.wI n d (k + 1) (b + 1) := w_in (by omega) (by omega)
    refine Ev.succ (g := fun r => if (k : Int) > 0 then ((lots_test_cost.f r t.gy t.go t.by_ t.bo t.py t.po t.tk t.lv k b 1 1 n).bind fun t478 => ((lots_test_cost.f r t.gy t.go t.by_ t.bo t.py t.po t.tk t.lv k b 2 1 n).bind fun t479 => (lots_test_wise.j0 r k b n (mn t478 t479) t.gy t.go t.by_ t.bo t.py t.po t.tk t.lv))) else (lots_test_wise.j0 r k b n (-1) t.gy t.go t.by_ t.bo t.py t.po t.tk t.lv)) ?_ (fun r => by rw [lots_test_wise.f])
    have hj : ∀ best : Int, Ev (fun r => lots_test_wise.j0 r k b n best t.gy t.go t.by_ t.bo t.py t.po t.tk t.lv) (if best < 0 then t.wI n d (k + 1) b + t.wI n d (k + 1) (b + 1) else if t.wI n d (k + 1) b + t.wI n d (k + 1) (b + 1) < best then t.wI n d (k + 1) b + t.wI n d (k + 1) (b + 1) else best) := by
      intro best
      refine Ev.succ (g := fun r => (lots_test_wise.f r t.gy t.go t.by_ t.bo t.py t.po t.tk t.lv (wrap64 ((k : Int) + 1)) b n).bind fun t480 => ((lots_test_wise.f r t.gy t.go t.by_ t.bo t.py t.po t.tk t.lv (wrap64 ((k : Int) + 1)) (wrap64 ((b : Int) + 1)) n).bind fun t481 => (if best < 0 then (some (wrap64 (t480 + t481))) else (if (wrap64 (t480 + t481)) < best then (some (wrap64 (t480 + t481))) else (some best))))) ?_ (fun r => by rw [lots_test_wise.j0, if_pos (by omega)])
      rw [e1, e2]
      refine Ev.bind a (Ev.bind c (Ev.const ?_))
      rw [es]
      repeat' split
      all_goals rfl
    by_cases h0 : k = 0
    · refine Ev.ifNeg (by omega) ?_
      have := hj (-1)
      rw [if_pos (by omega)] at this
      rw [T8.wI_succ, if_pos h0]
      exact this
    · refine Ev.ifPos (by omega) (Ev.bind (cost_ok h n k b hn hb (by omega) 1) (Ev.bind (cost_ok h n k b hn hb (by omega) 2) ?_))
      have := hj (t.mI n k b)
      have m := (h.mI_bound n k b hn hb (by omega)).1
      rw [if_neg (by omega)] at this
      rw [T8.wI_succ, if_neg h0]
      exact this
/-- The least price, in lowest terms. -/
def T8.wA (t : T8) (n : Nat) : Int × Int := fr (Rat.divInt (t.wI n n 0 0) (t.po * t.go ^ n * t.bo ^ n))
theorem T8.Ok.top (h : t.Ok) (n : Nat) (hn : n ≤ 6) (hn1 : 1 ≤ n) : 0 ≤ t.wI n n 0 0 ∧ t.wI n n 0 0 ≤ 40000000000000000 := by
  refine ⟨h.wI_nonneg n hn n 0 0 (by omega) (by omega), ?_⟩
  obtain ⟨d, rfl⟩ : ∃ d, n = d + 1 := ⟨n - 1, by omega⟩
  have l2 := T8.wI_le2 (t := t) (d + 1) d 0 0
  have a := (h.wI_bound (d + 1) hn d 0 0 (by omega) (by omega)).2
  have c := (h.wI_bound (d + 1) hn d 0 (0 + 1) (by omega) (by omega)).2
  omega
theorem most_ok (a b c d : Int) : lots_Chance_most.f a b c d = some (decide (wrap64 (a * d) ≤ wrap64 (c * b))) := rfl
theorem Wise_ev (h : t.Ok) (n : Nat) (hn : n ≤ 6) (hn1 : 1 ≤ n) (hm : wrap64 (t.gy * t.bo) ≤ wrap64 (t.by_ * t.go)) : Ev (fun k => lots_Wise.f k n t.gy t.go t.by_ t.bo t.py t.po t.tk t.lv) ((t.wA n).1, (t.wA n).2, 0) := by
  have hW := whole_bound (go := t.go) (bo := t.bo) n hn h.g h.b h.w
  have ht := h.top n hn hn1
  unfold lots_Wise.f
  refine Ev.ifNeg (by omega) (Ev.ifNeg (by omega) ?_)
  rw [test_ok, decide_eq_true ⟨h.g, h.b, h.w, h.c⟩, most_ok, decide_eq_true hm]
  simp only [Option.bind_some, if_true, Bool.not_true]
  refine Ev.succ (g := fun k => (lots_test_wise.f k t.gy t.go t.by_ t.bo t.py t.po t.tk t.lv 0 0 n).bind fun t492 => ((lots_test_whole.f k t.gy t.go t.by_ t.bo t.py t.po t.tk t.lv n).bind fun t493 => ((lots_frac.f k t492 t493).bind fun bt494 => (some (bt494.1, bt494.2, (0 : Int)))))) ?_ (fun k => by rw [lots_Wise.j0, if_neg (by decide)])
  refine Ev.bind (wise_ev h n hn hn1 n 0 0 (by omega) (by omega)) (Ev.bind (whole_ev n (by omega)) ?_)
  rw [w_in (n := t.po * _ * _) (by omega) (by omega)]
  exact Ev.bind (lots_frac_ev _ _ (by omega) (by omega) (by omega) (by omega)) (Ev.const rfl)
end
end Go.Proofs.Ytdppnmfljfdhaaa.Pure
