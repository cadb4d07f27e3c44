/- Plain laws: what the least price is, as the program reckons it; no plan's price is below it, and one item more costs no more. -/
import Derived.Test.YtdppnmfljfdhaaaQMPrice
import Derived.Test.YtdppnmfljfdhaaaQXlotsWise
set_option linter.unusedVariables false
set_option linter.unusedSimpArgs false
namespace Go.Proofs.Ytdppnmfljfdhaaa.Pure
open Go.RowKit Go.Proofs.Ytdppnmfljfdhaaa.X Go.Proofs.YtdppnmfljfdhaaaW.PrintWords Go.Proofs.YtdppnmfljfdhaaaW.PrintLast Go.Proofs.YtdppnmfljfdhaaaW.PrintMore

theorem mn_left (a b : Int) : mn a b ≤ a := by unfold mn; split <;> omega
theorem mn_right (a b : Int) : mn a b ≤ b := by unfold mn; split <;> omega
theorem pow_mono' {a b : Int} (h0 : 0 ≤ a) (h : a ≤ b) : ∀ n : Nat, 0 ≤ a ^ n ∧ a ^ n ≤ b ^ n
  | 0 => by simp
  | n + 1 => by
    rw [Int.pow_succ, Int.pow_succ]
    have := pow_mono' h0 h n
    exact mul_le_of this.1 this.2 h0 h
theorem wOI_bound (y o o' part : Int) (n k b : Nat) (hbk : b ≤ k) (hkn : k ≤ n) (hy : 0 ≤ y) (hyo : y ≤ o) (hp : 0 ≤ part) (ho' : 0 ≤ o') : 0 ≤ wOI y o o' part n k b ∧ wOI y o o' part n k b ≤ part * o ^ n * o' ^ n := by
  have e : o ^ n = o ^ b * o ^ (k - b) * o ^ (n - k) := by rw [← Int.pow_add, ← Int.pow_add]; congr 1; omega
  have h1 := pow_mono' hy hyo b
  have h2 := pow_mono' (show 0 ≤ o - y by omega) (show o - y ≤ o by omega) (k - b)
  have h3 := pow_mono' (show 0 ≤ o by omega) (Int.le_refl o) (n - k)
  have h4 := pow_mono' ho' (Int.le_refl o') n
  have a1 := mul_le_of hp (Int.le_refl part) h1.1 h1.2
  have a2 := mul_le_of a1.1 a1.2 h2.1 h2.2
  have a3 := mul_le_of a2.1 a2.2 h3.1 h3.2
  have a4 := mul_le_of a3.1 a3.2 h4.1 h4.2
  refine ⟨a4.1, Int.le_trans a4.2 (Int.le_of_eq ?_)⟩
  rw [e]
  generalize o ^ b = p
  generalize o ^ (k - b) = q
  generalize o ^ (n - k) = r
  generalize o' ^ n = s
  grind
theorem wOI_next (y o o' part : Int) (n k b : Nat) (hkn : k ≤ n) : wOI y o o' part (n + 1) k b = o * o' * wOI y o o' part n k b := by
  unfold wOI
  rw [show n + 1 - k = (n - k) + 1 by omega, Int.pow_succ, Int.pow_succ]
  generalize y ^ b = p
  generalize (o - y) ^ (k - b) = q
  generalize o ^ (n - k) = r
  generalize o' ^ n = s
  grind
/-- Two sorts of lots, how often the first one comes, and what mistakes cost. -/
structure T8 where
  gy : Int
  go : Int
  by_ : Int
  bo : Int
  py : Int
  po : Int
  tk : Int
  lv : Int
/-- They are as the document asks. -/
structure T8.Ok (t : T8) : Prop where
  g : okC t.gy t.go
  b : okC t.by_ t.bo
  w : okC t.py t.po
  c : okW t.tk t.lv
/-- What an end costs. -/
def T8.cA (t : T8) (n k b : Nat) (does : Int) : Int := costI t.gy t.go t.by_ t.bo t.py t.po t.tk t.lv n ⟨k, b, does, 1⟩
def T8.mI (t : T8) (n k b : Nat) : Int := mn (t.cA n k b 1) (t.cA n k b 2)
/-- The least cost from k items on, b of them bad, d to come. -/
def T8.wI (t : T8) (n : Nat) : Nat → Nat → Nat → Int
  | 0, k, b => t.mI n k b
  | d + 1, k, b => if k = 0 then T8.wI t n d (k + 1) b + T8.wI t n d (k + 1) (b + 1) else if T8.wI t n d (k + 1) b + T8.wI t n d (k + 1) (b + 1) < t.mI n k b then T8.wI t n d (k + 1) b + T8.wI t n d (k + 1) (b + 1) else t.mI n k b
section
variable {t : T8}
theorem T8.wI_succ (n d k b : Nat) : t.wI n (d + 1) k b = if k = 0 then t.wI n d (k + 1) b + t.wI n d (k + 1) (b + 1) else if t.wI n d (k + 1) b + t.wI n d (k + 1) (b + 1) < t.mI n k b then t.wI n d (k + 1) b + t.wI n d (k + 1) (b + 1) else t.mI n k b := rfl
theorem T8.cA_eq (n k b : Nat) (does : Int) : t.cA n k b does = (wOI t.gy t.go t.bo t.py n k b + wOI t.by_ t.bo t.go (t.po - t.py) n k b) * k + (if does = 1 then wOI t.by_ t.bo t.go (t.po - t.py) n k b * t.tk else wOI t.gy t.go t.bo t.py n k b * t.lv) := by
  unfold T8.cA costI
  dsimp only
  rw [Int.toNat_natCast, Int.toNat_natCast]
theorem T8.Ok.cA_bound (h : t.Ok) (n k b : Nat) (hn : n ≤ 6) (hbk : b ≤ k) (hkn : k ≤ n) (does : Int) : 0 ≤ t.cA n k b does ∧ t.cA n k b does ≤ 20000000000000000 := by
  obtain ⟨⟨g1, g2, g3, g4⟩, ⟨b1, b2, b3, b4⟩, ⟨w1, w2, w3, w4⟩, ⟨c1, c2, c3, c4⟩⟩ := h
  have pg := pow6 t.go g1 g2 n hn
  have pb := pow6 t.bo b1 b2 n hn
  have u := wOI_bound t.gy t.go t.bo t.py n k b hbk hkn g3 g4 w3 (by omega)
  have v := wOI_bound t.by_ t.bo t.go (t.po - t.py) n k b hbk hkn b3 b4 (by omega) (by omega)
  have m1 := mul_le_of w3 (show t.py ≤ 12 by omega) (show 0 ≤ t.go ^ n by omega) pg.2
  have m2 := mul_le_of m1.1 m1.2 (show 0 ≤ t.bo ^ n by omega) pb.2
  have m3 := mul_le_of (show 0 ≤ t.po - t.py by omega) (show t.po - t.py ≤ 12 by omega) (show 0 ≤ t.bo ^ n by omega) pb.2
  have m4 := mul_le_of m3.1 m3.2 (show 0 ≤ t.go ^ n by omega) pg.2
  rw [T8.cA_eq]
  generalize wOI t.gy t.go t.bo t.py n k b = U at *
  generalize wOI t.by_ t.bo t.go (t.po - t.py) n k b = V at *
  have a1 := mul_le_of (a := U + V) (c := 213986410758144) (by omega) (by omega) (show (0 : Int) ≤ k by omega) (show (k : Int) ≤ 6 by omega)
  have a2 := mul_le_of (a := V) (c := 106993205379072) (by omega) (by omega) c1 c2
  have a3 := mul_le_of (a := U) (c := 106993205379072) (by omega) (by omega) c3 c4
  split <;> omega
theorem T8.Ok.mI_bound (h : t.Ok) (n k b : Nat) (hn : n ≤ 6) (hbk : b ≤ k) (hkn : k ≤ n) : 0 ≤ t.mI n k b ∧ t.mI n k b ≤ 20000000000000000 := by
  have a := h.cA_bound n k b hn hbk hkn 1
  have c := h.cA_bound n k b hn hbk hkn 2
  unfold T8.mI mn
  split <;> omega
theorem T8.wI_le (n d k b : Nat) (hk : 0 < k) : t.wI n d k b ≤ t.mI n k b := by
  cases d with
  | zero => exact Int.le_refl _
  | succ d => rw [T8.wI_succ, if_neg (by omega)]; split <;> omega
theorem T8.wI_le2 (n d k b : Nat) : t.wI n (d + 1) k b ≤ t.wI n d (k + 1) b + t.wI n d (k + 1) (b + 1) := by
  rw [T8.wI_succ]
  split
  · omega
  · split <;> omega
theorem T8.Ok.wI_nonneg (h : t.Ok) (n : Nat) (hn : n ≤ 6) : ∀ d k b : Nat, k + d = n → b ≤ k → 0 ≤ t.wI n d k b := by
  intro d
  induction d with
  | zero => intro k b hk hb; exact (h.mI_bound n k b hn hb (by omega)).1
  | succ d ih =>
    intro k b hk hb
    have a := ih (k + 1) b (by omega) (by omega)
    have c := ih (k + 1) (b + 1) (by omega) (by omega)
    have m := (h.mI_bound n k b hn hb (by omega)).1
    rw [T8.wI_succ]
    repeat' split
    all_goals omega
theorem T8.Ok.wI_bound (h : t.Ok) (n : Nat) (hn : n ≤ 6) (d k b : Nat) (hk : k + 1 + d = n) (hb : b ≤ k + 1) : 0 ≤ t.wI n d (k + 1) b ∧ t.wI n d (k + 1) b ≤ 20000000000000000 :=
  ⟨h.wI_nonneg n hn d (k + 1) b hk hb, Int.le_trans (T8.wI_le n d (k + 1) b (by omega)) (h.mI_bound n (k + 1) b hn hb (by omega)).2⟩
/-- One item more: all costs are so many times as great. -/
theorem T8.cA_next (n k b : Nat) (hkn : k ≤ n) (does : Int) : t.cA (n + 1) k b does = t.go * t.bo * t.cA n k b does := by
  rw [T8.cA_eq, T8.cA_eq, wOI_next _ _ _ _ n k b hkn, wOI_next _ _ _ _ n k b hkn]
  generalize wOI t.gy t.go t.bo t.py n k b = U
  generalize wOI t.by_ t.bo t.go (t.po - t.py) n k b = V
  split <;> grind
theorem mn_mul (g a b : Int) (hg : 0 < g) : mn (g * a) (g * b) = g * mn a b := by
  unfold mn
  by_cases h : b < a
  · rw [if_pos h, if_pos (Int.mul_lt_mul_of_pos_left h hg)]
  · rw [if_neg h, if_neg]
    intro hh
    exact h (Int.lt_of_mul_lt_mul_left hh (by omega))
theorem T8.Ok.next (h : t.Ok) (n : Nat) (hn : 1 ≤ n) : ∀ d k b : Nat, k + d = n → t.wI (n + 1) (d + 1) k b ≤ t.go * t.bo * t.wI n d k b := by
  have hg : 0 < t.go * t.bo := Int.mul_pos (by have := h.g.1; omega) (by have := h.b.1; omega)
  intro d
  induction d with
  | zero =>
    intro k b hk
    have e : t.mI (n + 1) k b = t.go * t.bo * t.mI n k b := by unfold T8.mI; rw [T8.cA_next n k b (by omega), T8.cA_next n k b (by omega), mn_mul _ _ _ hg]
    rw [show t.wI n 0 k b = t.mI n k b from rfl, ← e]
    exact T8.wI_le _ _ _ _ (by omega)
  | succ d ih =>
    intro k b hk
    have a := ih (k + 1) b (by omega)
    have c := ih (k + 1) (b + 1) (by omega)
    have e : t.mI (n + 1) k b = t.go * t.bo * t.mI n k b := by unfold T8.mI; rw [T8.cA_next n k b (by omega), T8.cA_next n k b (by omega), mn_mul _ _ _ hg]
    have l2 := T8.wI_le2 (t := t) (n + 1) (d + 1) k b
    have hs : t.wI (n + 1) (d + 1 + 1) k b ≤ t.go * t.bo * (t.wI n d (k + 1) b + t.wI n d (k + 1) (b + 1)) := by rw [Int.mul_add]; omega
    rw [T8.wI_succ n d k b]
    by_cases h0 : k = 0
    · rw [if_pos h0]; exact hs
    · rw [if_neg h0]
      split
      · exact hs
      · rw [← e]; exact T8.wI_le _ _ _ _ (by omega)
end
/-! ### No plan costs less -/
section
variable {t : T8} {l0 l1 : List Int}
def T8.wP (t : T8) (n : Nat) (L : List S81) : Int := Pure.wP t.gy t.go t.by_ t.bo t.py t.po t.tk t.lv n L
theorem T8.wP_append (n : Nat) : ∀ L M : List S81, t.wP n (L ++ M) = t.wP n L + t.wP n M
  | [], M => by simp [T8.wP, Pure.wP]
  | e :: L, M => by
    have := T8.wP_append n L M
    unfold T8.wP at this ⊢
    simp only [List.cons_append, Pure.wP]
    omega
theorem T8.wP_enK (n k : Nat) (hk : k ≤ 11) : ∀ m : Nat, m ≤ k + 2 → t.wP n (enK l0 l1 k m) = sI (fun b => if aft l0 l1 ((k : Int) + 1) b ≠ 0 then nx (wy l0 l1 k) b * t.cA n (k + 1) b (aft l0 l1 ((k : Int) + 1) b) else 0) m := by
  intro m
  induction m with
  | zero => intro _; rfl
  | succ m ih =>
    intro hm
    rw [sI, ← ih (by omega), enK_succ]
    by_cases ha : aft l0 l1 ((k : Int) + 1) m ≠ 0
    · by_cases hv : 0 < nx (wy l0 l1 k) m
      · rw [if_pos ⟨ha, hv⟩, T8.wP_append, if_pos ha]
        congr 1
        show nx (wy l0 l1 k) m * costI t.gy t.go t.by_ t.bo t.py t.po t.tk t.lv n _ + 0 = _
        rw [Int.add_zero]
        rfl
      · have hz : nx (wy l0 l1 k) m = 0 := by
          have a := wy_range l0 l1 k (by omega) m
          have c := wy_range l0 l1 k (by omega) ((m : Int) - 1)
          have e := nx_eq l0 l1 k (by omega) (m : Int)
          omega
        rw [if_neg (fun h => hv h.2), if_pos ha, hz]
        simp
    · rw [if_neg (fun h => ha h.1), if_neg ha]
      omega
theorem aft_two (l0 l1 : List Int) (k b : Int) (h : aft l0 l1 k b ≠ 0) : aft l0 l1 k b = 1 ∨ aft l0 l1 k b = 2 := by
  unfold aft at *
  repeat' split at h
  all_goals simp_all
theorem T8.mI_le (n k b : Nat) (a : Int) (h : a = 1 ∨ a = 2) : t.mI n k b ≤ t.cA n k b a := by
  rcases h with rfl | rfl
  · exact mn_left _ _
  · exact mn_right _ _
theorem sI_shift (W f : Nat → Int) (m : Nat) : sI (fun b => W b * f b + W b * f (b + 1)) m + W m * f m = sI (fun b => (W b + (if b = 0 then 0 else W (b - 1))) * f b) (m + 1) := by
  induction m with
  | zero => simp [sI]
  | succ m ih =>
    rw [sI, sI, ← ih, if_neg (by omega), show m + 1 - 1 = m by omega]
    generalize sI (fun b => W b * f b + W b * f (b + 1)) m = s
    generalize W m = a
    generalize W (m + 1) = c
    generalize f m = x
    generalize f (m + 1) = y
    grind
/-- What is still to come, at its least, and what came. -/
def T8.pot (t : T8) (l0 l1 : List Int) (n k : Nat) : Int := sI (fun b => wy l0 l1 k b * t.wI n (n - k) k b) (k + 1) + t.wP n (ends l0 l1 k)
theorem T8.pot_step (n k : Nat) (hk : k < n) (hn : n ≤ 12) : t.pot l0 l1 n k ≤ t.pot l0 l1 n (k + 1) := by
  have hd : n - k = (n - (k + 1)) + 1 := by omega
  have h1 : sI (fun b => wy l0 l1 k b * t.wI n (n - k) k b) (k + 1) ≤ sI (fun b => wy l0 l1 k (b : Nat) * t.wI n (n - (k + 1)) (k + 1) b + wy l0 l1 k (b : Nat) * t.wI n (n - (k + 1)) (k + 1) (b + 1)) (k + 1) := by
    refine sI_le _ (fun b hb => ?_)
    rw [hd, ← Int.mul_add]
    exact Int.mul_le_mul_of_nonneg_left (T8.wI_le2 n (n - (k + 1)) k b) (wy_range l0 l1 k (by omega) b).1
  have h2 := sI_shift (fun b : Nat => wy l0 l1 k b) (fun b => t.wI n (n - (k + 1)) (k + 1) b) (k + 1)
  have h3 : wy l0 l1 k ((k + 1 : Nat) : Int) = 0 := wy_out l0 l1 k _ (by omega)
  simp only [h3, Int.zero_mul, Int.add_zero] at h2
  have h4 : sI (fun b => (wy l0 l1 k (b : Nat) + (if b = 0 then 0 else wy l0 l1 k ((b - 1 : Nat) : Int))) * t.wI n (n - (k + 1)) (k + 1) b) (k + 1 + 1) ≤ sI (fun b => wy l0 l1 (k + 1) (b : Nat) * t.wI n (n - (k + 1)) (k + 1) b + (if aft l0 l1 ((k : Int) + 1) b ≠ 0 then nx (wy l0 l1 k) b * t.cA n (k + 1) b (aft l0 l1 ((k : Int) + 1) b) else 0)) (k + 1 + 1) := by
    refine sI_le _ (fun b hb => ?_)
    have e : wy l0 l1 k (b : Nat) + (if b = 0 then 0 else wy l0 l1 k ((b - 1 : Nat) : Int)) = nx (wy l0 l1 k) b := by
      rw [nx_eq l0 l1 k (by omega)]
      by_cases h0 : b = 0
      · subst h0
        have : wy l0 l1 k (((0 : Nat) : Int) - 1) = 0 := wy_out l0 l1 k _ (by omega)
        rw [if_pos rfl, this]
      · rw [if_neg h0, show ((b - 1 : Nat) : Int) = (b : Int) - 1 by omega]
    rw [e, wy_succ]
    have hr : 0 ≤ nx (wy l0 l1 k) b := by
      have a := wy_range l0 l1 k (by omega) b
      have c := wy_range l0 l1 k (by omega) ((b : Int) - 1)
      have e := nx_eq l0 l1 k (by omega) (b : Int)
      omega
    by_cases ha : aft l0 l1 ((k : Int) + 1) b ≠ 0
    · rw [if_pos ha]
      have hle : t.wI n (n - (k + 1)) (k + 1) b ≤ t.cA n (k + 1) b (aft l0 l1 ((k : Int) + 1) b) := Int.le_trans (T8.wI_le _ _ _ _ (by omega)) (T8.mI_le _ _ _ _ (aft_two _ _ _ _ ha))
      by_cases hv : 0 < nx (wy l0 l1 k) b
      · rw [if_pos ⟨by omega, ha, hv⟩, Int.zero_mul, Int.zero_add]
        exact Int.mul_le_mul_of_nonneg_left hle hr
      · have hz : nx (wy l0 l1 k) b = 0 := by omega
        rw [if_neg (fun h => hv h.2.2), hz]
        simp
    · rw [if_neg ha, if_neg (fun h => ha h.2.1)]
      omega
  rw [sI_add, ← T8.wP_enK n k (by omega) (k + 2) (Nat.le_refl _)] at h4
  have h5 : t.wP n (ends l0 l1 (k + 1)) = t.wP n (ends l0 l1 k) + t.wP n (enK l0 l1 k (k + 2)) := T8.wP_append ..
  unfold T8.pot
  rw [h5]
  have h2' : sI (fun b => wy l0 l1 k (b : Nat) * t.wI n (n - (k + 1)) (k + 1) b + wy l0 l1 k (b : Nat) * t.wI n (n - (k + 1)) (k + 1) (b + 1)) (k + 1) = sI (fun b => (wy l0 l1 k (b : Nat) + (if b = 0 then 0 else wy l0 l1 k ((b - 1 : Nat) : Int))) * t.wI n (n - (k + 1)) (k + 1) b) (k + 1 + 1) := h2
  omega
theorem T8.no_better (h : Pure.Ok l0 l1) : t.wI l0.length l0.length 0 0 ≤ sP l0 l1 t.gy t.go t.by_ t.bo t.py t.po t.tk t.lv := by
  have hp : ∀ k : Nat, k ≤ l0.length → t.pot l0 l1 l0.length 0 ≤ t.pot l0 l1 l0.length k := by
    intro k
    induction k with
    | zero => intro _; exact Int.le_refl _
    | succ k ih => intro hk; exact Int.le_trans (ih (by omega)) (T8.pot_step l0.length k (by omega) h.most)
  have h0 : t.pot l0 l1 l0.length 0 = t.wI l0.length l0.length 0 0 := by
    unfold T8.pot
    simp [sI, wy, ends, T8.wP, Pure.wP]
  have hn : t.pot l0 l1 l0.length l0.length = sP l0 l1 t.gy t.go t.by_ t.bo t.py t.po t.tk t.lv := by
    unfold T8.pot
    rw [sI_zero, Int.zero_add]
    · exact price_ends h
    · intro b hb
      obtain ⟨m, hm⟩ : ∃ m, l0.length = m + 1 := ⟨l0.length - 1, by have := h.pos; omega⟩
      have ha := aft_last h b
      have hz : wy l0 l1 l0.length b = 0 := by
        have hm12 := h.most
        rw [hm, wy_succ]
        rw [hm] at ha
        by_cases hv : 0 < nx (wy l0 l1 m) b
        · rw [if_pos ⟨by omega, ha, hv⟩]
        · rw [if_neg (fun hh => hv hh.2.2)]
          have a := wy_range l0 l1 m (by omega) b
          have c := wy_range l0 l1 m (by omega) ((b : Int) - 1)
          have e := nx_eq l0 l1 m (by omega) (b : Int)
          omega
      rw [hz, Int.zero_mul]
  rw [← h0, ← hn]
  exact hp _ (Nat.le_refl _)
theorem sP_200 {gy go by_ bo wy wo tk lv : Int} (h : Pure.Ok l0 l1) (hn : l0.length ≤ 6) (hg : okC gy go) (hb : okC by_ bo) (hw : okC wy wo) (hc : okW tk lv) : sP l0 l1 gy go by_ bo wy wo tk lv ≤ 200 * (wo * go ^ l0.length * bo ^ l0.length) := by
  obtain ⟨g1, g2, g3, g4⟩ := hg
  obtain ⟨b1, b2, b3, b4⟩ := hb
  obtain ⟨w1, w2, w3, w4⟩ := hw
  obtain ⟨c1, c2, c3, c4⟩ := hc
  have pg := pow6 go g1 g2 l0.length hn
  have pb := pow6 bo b1 b2 l0.length hn
  have tg := sTaken_bound h g3 g4
  have tb := sTaken_bound h b3 b4
  have lg := sLooks_bound h g3 g4
  have lb := sLooks_bound h b3 b4
  have mg : (l0.length : Int) * go ^ l0.length ≤ 6 * go ^ l0.length := Int.mul_le_mul_of_nonneg_right (by omega) (by omega)
  have mb : (l0.length : Int) * bo ^ l0.length ≤ 6 * bo ^ l0.length := Int.mul_le_mul_of_nonneg_right (by omega) (by omega)
  have e1 := mul_le_of c3 c4 (show 0 ≤ go ^ l0.length - sTaken l0 l1 gy go by omega) (Int.le_refl _)
  have e2 := mul_le_of c1 c2 tb.1 (Int.le_refl _)
  unfold sP
  generalize go ^ l0.length = G at *
  generalize bo ^ l0.length = B at *
  have n1 : 0 ≤ wy * B := Int.mul_nonneg w3 (by omega)
  have n2 : 0 ≤ (wo - wy) * G := Int.mul_nonneg (by omega) (by omega)
  have f1 : wy * B * (sLooks l0 l1 gy go + lv * (G - sTaken l0 l1 gy go)) ≤ wy * B * (200 * G) := Int.mul_le_mul_of_nonneg_left (by omega) n1
  have f2 : (wo - wy) * G * (sLooks l0 l1 by_ bo + tk * sTaken l0 l1 by_ bo) ≤ (wo - wy) * G * (200 * B) := Int.mul_le_mul_of_nonneg_left (by omega) n2
  have f3 : wy * B * (200 * G) + (wo - wy) * G * (200 * B) = 200 * (wo * G * B) := by grind
  omega
end
/-! ### What the program reckons -/
section
variable {t : T8}
theorem cost_ok (h : t.Ok) (n k b : Nat) (hn : n ≤ 6) (hbk : b ≤ k) (hkn : k ≤ n) (does : Int) : Ev (fun r => lots_test_cost.f r t.gy t.go t.by_ t.bo t.py t.po t.tk t.lv k b does 1 n) (t.cA n k b does) := by
  have := cost_ev (tk := t.tk) (lv := t.lv) n (by omega) h.g h.b h.w ⟨k, b, does, 1⟩ ⟨k, b, rfl, rfl, hbk, hkn⟩
  have hb := h.cA_bound n k b hn hbk hkn does
  rw [w_in (n := costI _ _ _ _ _ _ _ _ _ _) (by have := hb.1; unfold T8.cA at this; omega) (by have := hb.2; unfold T8.cA at this; omega)] at this
  exact this
theorem wise_ev (h : t.Ok) (n : Nat) (hn : n ≤ 6) (hn1 : 1 ≤ n) : ∀ d k b : Nat, k + d = n → b ≤ k → Ev (fun r => lots_test_wise.f r t.gy t.go t.by_ t.bo t.py t.po t.tk t.lv k b n) (t.wI n d k b) := by
  intro d
  induction d with
  | zero =>
    intro k b hk hb
    refine Ev.succ (g := fun r => if (k : Int) > 0 then ((lots_test_cost.f r t.gy t.go t.by_ t.bo t.py t.po t.tk t.lv k b 1 1 n).bind fun t478 => ((lots_test_cost.f r t.gy t.go t.by_ t.bo t.py t.po t.tk t.lv k b 2 1 n).bind fun t479 => (lots_test_wise.j0 r k b n (mn t478 t479) t.gy t.go t.by_ t.bo t.py t.po t.tk t.lv))) else (lots_test_wise.j0 r k b n (-1) t.gy t.go t.by_ t.bo t.py t.po t.tk t.lv)) ?_ (fun r => by rw [lots_test_wise.f])
    refine Ev.ifPos (by omega) (Ev.bind (cost_ok h n k b hn hb (by omega) 1) (Ev.bind (cost_ok h n k b hn hb (by omega) 2) ?_))
    exact Ev.succ (g := fun _ => some (t.mI n k b)) (Ev.const rfl) (fun r => by rw [lots_test_wise.j0, if_neg (by omega)]; rfl)
  | succ d ih =>
    intro k b hk hb
    have e1 : wrap64 ((k : Int) + 1) = ((k + 1 : Nat) : Int) := by rw [w_in (by omega) (by omega)]; omega
    have e2 : wrap64 ((b : Int) + 1) = ((b + 1 : Nat) : Int) := by rw [w_in (by omega) (by omega)]; omega
    have a := ih (k + 1) b (by omega) (by omega)
    have c := ih (k + 1) (b + 1) (by omega) (by omega)
    have a1 := h.wI_bound n hn d k b (by omega) (by omega)
    have c1 := h.wI_bound n hn d k (b + 1) (by omega) (by omega)
    have es : wrap64 (t.wI n d (k + 1) b + t.wI n d (k + 1) (b + 1)) = t.wI n d (k + 1) b + t.wI n d (k + 1) (b + 1) := w_in (by omega) (by omega)
    refine Ev.succ (g := fun r => if (k : Int) > 0 then ((lots_test_cost.f r t.gy t.go t.by_ t.bo t.py t.po t.tk t.lv k b 1 1 n).bind fun t478 => ((lots_test_cost.f r t.gy t.go t.by_ t.bo t.py t.po t.tk t.lv k b 2 1 n).bind fun t479 => (lots_test_wise.j0 r k b n (mn t478 t479) t.gy t.go t.by_ t.bo t.py t.po t.tk t.lv))) else (lots_test_wise.j0 r k b n (-1) t.gy t.go t.by_ t.bo t.py t.po t.tk t.lv)) ?_ (fun r => by rw [lots_test_wise.f])
    have hj : ∀ best : Int, Ev (fun r => lots_test_wise.j0 r k b n best t.gy t.go t.by_ t.bo t.py t.po t.tk t.lv) (if best < 0 then t.wI n d (k + 1) b + t.wI n d (k + 1) (b + 1) else if t.wI n d (k + 1) b + t.wI n d (k + 1) (b + 1) < best then t.wI n d (k + 1) b + t.wI n d (k + 1) (b + 1) else best) := by
      intro best
      refine Ev.succ (g := fun r => (lots_test_wise.f r t.gy t.go t.by_ t.bo t.py t.po t.tk t.lv (wrap64 ((k : Int) + 1)) b n).bind fun t480 => ((lots_test_wise.f r t.gy t.go t.by_ t.bo t.py t.po t.tk t.lv (wrap64 ((k : Int) + 1)) (wrap64 ((b : Int) + 1)) n).bind fun t481 => (if best < 0 then (some (wrap64 (t480 + t481))) else (if (wrap64 (t480 + t481)) < best then (some (wrap64 (t480 + t481))) else (some best))))) ?_ (fun r => by rw [lots_test_wise.j0, if_pos (by omega)])
      rw [e1, e2]
      refine Ev.bind a (Ev.bind c (Ev.const ?_))
      rw [es]
      repeat' split
      all_goals rfl
    by_cases h0 : k = 0
    · refine Ev.ifNeg (by omega) ?_
      have := hj (-1)
      rw [if_pos (by omega)] at this
      rw [T8.wI_succ, if_pos h0]
      exact this
    · refine Ev.ifPos (by omega) (Ev.bind (cost_ok h n k b hn hb (by omega) 1) (Ev.bind (cost_ok h n k b hn hb (by omega) 2) ?_))
      have := hj (t.mI n k b)
      have m := (h.mI_bound n k b hn hb (by omega)).1
      rw [if_neg (by omega)] at this
      rw [T8.wI_succ, if_neg h0]
      exact this
/-- The least price, in lowest terms. -/
def T8.wA (t : T8) (n : Nat) : Int × Int := fr (Rat.divInt (t.wI n n 0 0) (t.po * t.go ^ n * t.bo ^ n))
theorem T8.Ok.top (h : t.Ok) (n : Nat) (hn : n ≤ 6) (hn1 : 1 ≤ n) : 0 ≤ t.wI n n 0 0 ∧ t.wI n n 0 0 ≤ 40000000000000000 := by
  refine ⟨h.wI_nonneg n hn n 0 0 (by omega) (by omega), ?_⟩
  obtain ⟨d, rfl⟩ : ∃ d, n = d + 1 := ⟨n - 1, by omega⟩
  have l2 := T8.wI_le2 (t := t) (d + 1) d 0 0
  have a := (h.wI_bound (d + 1) hn d 0 0 (by omega) (by omega)).2
  have c := (h.wI_bound (d + 1) hn d 0 (0 + 1) (by omega) (by omega)).2
  omega
theorem most_ok (a b c d : Int) : lots_Chance_most.f a b c d = some (decide (wrap64 (a * d) ≤ wrap64 (c * b))) := rfl
theorem Wise_ev (h : t.Ok) (n : Nat) (hn : n ≤ 6) (hn1 : 1 ≤ n) (hm : wrap64 (t.gy * t.bo) ≤ wrap64 (t.by_ * t.go)) : Ev (fun k => lots_Wise.f k n t.gy t.go t.by_ t.bo t.py t.po t.tk t.lv) ((t.wA n).1, (t.wA n).2, 0) := by
  have hW := whole_bound (go := t.go) (bo := t.bo) n hn h.g h.b h.w
  have ht := h.top n hn hn1
  unfold lots_Wise.f
  refine Ev.ifNeg (by omega) (Ev.ifNeg (by omega) ?_)
  rw [test_ok, decide_eq_true ⟨h.g, h.b, h.w, h.c⟩, most_ok, decide_eq_true hm]
  simp only [Option.bind_some, if_true, Bool.not_true]
  refine Ev.succ (g := fun k => (lots_test_wise.f k t.gy t.go t.by_ t.bo t.py t.po t.tk t.lv 0 0 n).bind fun t492 => ((lots_test_whole.f k t.gy t.go t.by_ t.bo t.py t.po t.tk t.lv n).bind fun t493 => ((lots_frac.f k t492 t493).bind fun bt494 => (some (bt494.1, bt494.2, (0 : Int)))))) ?_ (fun k => by rw [lots_Wise.j0, if_neg (by decide)])
  refine Ev.bind (wise_ev h n hn hn1 n 0 0 (by omega) (by omega)) (Ev.bind (whole_ev n (by omega)) ?_)
  rw [w_in (n := t.po * _ * _) (by omega) (by omega)]
  exact Ev.bind (lots_frac_ev _ _ (by omega) (by omega) (by omega) (by omega)) (Ev.const rfl)
theorem Wise_no (h : t.Ok) (n : Nat) (hn : n ≤ 6) (hn1 : 1 ≤ n) (hm : ¬ wrap64 (t.gy * t.bo) ≤ wrap64 (t.by_ * t.go)) : Ev (fun k => lots_Wise.f k n t.gy t.go t.by_ t.bo t.py t.po t.tk t.lv) (0, 0, 2) := by
  unfold lots_Wise.f
  refine Ev.ifNeg (by omega) (Ev.ifNeg (by omega) ?_)
  rw [test_ok, decide_eq_true ⟨h.g, h.b, h.w, h.c⟩, most_ok, decide_eq_false hm]
  simp only [Option.bind_some, if_true, Bool.not_false]
  exact Ev.succ (g := fun _ => some (0, 0, 2)) (Ev.const rfl) (fun k => by rw [lots_Wise.j0, if_pos rfl])
end
end Go.Proofs.Ytdppnmfljfdhaaa.Pure
