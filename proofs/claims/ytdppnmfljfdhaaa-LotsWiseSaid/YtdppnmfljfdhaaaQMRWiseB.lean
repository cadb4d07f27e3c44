/- Plain laws for the least price: the reference's wise finds the least cost over all bounds. -/
import Derived.Test.YtdppnmfljfdhaaaQMRWise
set_option linter.unusedVariables false
set_option linter.unusedSimpArgs false
namespace Go.Proofs.Ytdppnmfljfdhaaa.Pure
open Go.RowKit Go.Proofs.Ytdppnmfljfdhaaa.X Go.Proofs.YtdppnmfljfdhaaaW.PrintWords Go.Proofs.YtdppnmfljfdhaaaW.PrintLast Go.Proofs.YtdppnmfljfdhaaaW.PrintMore
/-- The better of the best so far (below 0: none) and a new one. -/
def bm (b s : Int) : Int := if b < 0 then s else if s < b then s else b
/-- The best so far, amid a search of what is least Tg; S: the least one has been met. -/
structure RS (b0 Tg : Int) (S : Prop) (b : Int) : Prop where
  reach : b = b0 ∨ (Tg ≤ b ∧ (b0 < 0 ∨ b < b0))
  seen : S → 0 ≤ b ∧ b ≤ Tg
theorem RS.start (b0 Tg : Int) {S : Prop} (h : ¬ S) : RS b0 Tg S b0 := ⟨.inl rfl, fun s => absurd s h⟩
theorem RS.mono {b0 Tg : Int} {S S' : Prop} {b : Int} (h : RS b0 Tg S b) (hs : S' → S) : RS b0 Tg S' b := ⟨h.reach, fun s => h.seen (hs s)⟩
theorem RS.step {b0 Tg : Int} {S S' : Prop} {b c : Int} (h0 : 0 ≤ Tg) (h : RS b0 Tg S b) (hc : Tg ≤ c) (hs : S' → S ∨ c = Tg) : RS b0 Tg S' (bm b c) := by
  obtain ⟨h1, h2⟩ := h
  refine ⟨?_, fun s => ?_⟩
  · unfold bm
    by_cases c1 : b < 0
    · rw [if_pos c1]; omega
    · rw [if_neg c1]
      by_cases c2 : c < b
      · rw [if_pos c2]; omega
      · rw [if_neg c2]; exact h1
  · unfold bm
    rcases hs s with s | s
    · have := h2 s
      rw [if_neg (by omega), if_neg (by omega)]; exact this
    · by_cases c1 : b < 0
      · rw [if_pos c1]; omega
      · rw [if_neg c1]
        by_cases c2 : c < b
        · rw [if_pos c2]; omega
        · rw [if_neg c2]; omega
theorem RS.done {b0 Tg : Int} {S : Prop} {b : Int} (h0 : 0 ≤ Tg) (h : RS b0 Tg S b) (hS : S) : b = bm b0 Tg := by
  obtain ⟨h1, h2⟩ := h
  have := h2 hS
  unfold bm
  by_cases c1 : b0 < 0
  · rw [if_pos c1]; omega
  · rw [if_neg c1]
    by_cases c2 : Tg < b0
    · rw [if_pos c2]; omega
    · rw [if_neg c2]; omega
section
variable {t : T8}
/-- What stands behind an item: the masses by bad items. -/
structure T8.Mid (t : T8) (d k : Nat) (u v : Nat → Int) : Prop where
  form : t.Form k u v
  su : sI u (k + 1) * t.go ^ d ≤ 106993205379072
  sv : sI v (k + 1) * t.bo ^ d ≤ 106993205379072
theorem sI_nx (y o : Int) (X : Nat → Int) (c : Nat) (h : X (c + 1) = 0) : sI (nxX y o X) (c + 2) = sI X (c + 1) * o := by
  have := sI_next (fun b => X b * (o - y)) (fun b => X b * y) c (by show X (c + 1) * (o - y) = 0; rw [h, Int.zero_mul])
  rw [← sI_mul]
  refine (show sI (nxX y o X) (c + 2) = _ from this).trans (sI_congr _ (fun b _ => ?_))
  rw [← Int.mul_add]
  congr 1
  omega
theorem T8.In.mid {d c : Nat} {x y : List Int} {paid : Int} (h : t.In d c x y paid) : t.Mid d (c + 1) (nxX t.gy t.go (fun b => rd x (b : Int))) (nxX t.by_ t.bo (fun b => rd y (b : Int))) := by
  refine ⟨h.form.next, ?_, ?_⟩
  · rw [sI_nx _ _ _ _ (rd_out (by rw [h.lx]; exact Nat.le_refl _)), Int.mul_assoc, Int.mul_comm t.go, ← Int.pow_succ]; exact h.mx
  · rw [sI_nx _ _ _ _ (rd_out (by rw [h.ly]; exact Nat.le_refl _)), Int.mul_assoc, Int.mul_comm t.bo, ← Int.pow_succ]; exact h.my
theorem T8.Mid.one (hO : t.Ok) {d k : Nat} {u v : Nat → Int} (h : t.Mid d k u v) {b : Nat} (hb : b < k + 1) :
    0 ≤ u b ∧ u b ≤ 106993205379072 ∧ 0 ≤ v b ∧ v b ≤ 106993205379072 ∧ 0 ≤ u b * t.go ^ d ∧ u b * t.go ^ d ≤ 106993205379072 ∧ 0 ≤ v b * t.bo ^ d ∧ v b * t.bo ^ d ≤ 106993205379072 := by
  have hn := h.form.nonneg hO
  have go : ∀ (w : Nat → Int) (o : Int), 1 ≤ o → (∀ b, 0 ≤ w b) → sI w (k + 1) * o ^ d ≤ 106993205379072 → 0 ≤ w b ∧ w b ≤ 106993205379072 ∧ 0 ≤ w b * o ^ d ∧ w b * o ^ d ≤ 106993205379072 := by
    intro w o ho hw hm
    have hp := pow_pos' o ho d
    have h1 := sI_one (f := w) (fun j _ => hw j) hb
    exact ⟨hw b, Int.le_trans h1 (one_mass (sI_nonneg _ (fun j _ => hw j)) hp hm), Int.mul_nonneg (hw b) (by omega), Int.le_trans (Int.mul_le_mul_of_nonneg_right h1 (by omega)) hm⟩
  have a := go u t.go hO.g.1 hn.1 h.su
  have b := go v t.bo hO.b.1 hn.2 h.sv
  exact ⟨a.1, a.2.1, b.1, b.2.1, a.2.2.1, a.2.2.2, b.2.2.1, b.2.2.2⟩
def T8.stF (t : T8) (d : Nat) (u v : Nat → Int) (m l b : Nat) : Int := if b < m then t.tk * v b * t.bo ^ d else if l ≤ b then t.lv * u b * t.go ^ d else 0
theorem T8.Mid.st (hO : t.Ok) {d k : Nat} {u v : Nat → Int} (h : t.Mid d k u v) (m l : Nat) {b : Nat} (hb : b < k + 1) : 0 ≤ t.stF d u v m l b ∧ t.stF d u v m l b ≤ (v b * t.bo ^ d + u b * t.go ^ d) * 100 := by
  have a := h.one hO hb
  have hc := hO.c
  have p := mul_b hc.1 hc.2.1 a.2.2.2.2.2.2.1 (Int.le_refl _)
  have q := mul_b hc.2.2.1 hc.2.2.2 a.2.2.2.2.1 (Int.le_refl _)
  unfold T8.stF
  rw [Int.mul_assoc, Int.mul_assoc]
  repeat' split
  all_goals omega
theorem T8.Mid.stop_le (hO : t.Ok) {d k : Nat} {u v : Nat → Int} (h : t.Mid d k u v) (m l : Nat) : ∀ i, i ≤ k + 1 → 0 ≤ sI (t.stF d u v m l) i ∧ sI (t.stF d u v m l) i ≤ 21398641075814400 := by
  intro i hi
  refine ⟨sI_nonneg _ (fun j hj => (h.st hO m l (by omega)).1), Int.le_trans (sI_upto (fun j hj => (h.st hO m l hj).1) i hi) ?_⟩
  refine Int.le_trans (sI_le _ (fun j hj => (h.st hO m l hj).2)) ?_
  rw [sI_mul, sI_add, sI_mul, sI_mul]
  have := h.su
  have := h.sv
  omega
theorem st_take (hO : t.Ok) {d k : Nat} {u v : Nat → Int} (h : t.Mid d k u v) {P : Int} (hP0 : 0 ≤ P) (hP : P ≤ 213986410758144000) {m l i : Nat} (hi : i < k + 1) (c1 : i < m) :
    wrap64 (P + sI (t.stF d u v m l) i + wrap64 (wrap64 (t.tk * v i) * t.bo ^ d)) = P + sI (t.stF d u v m l) (i + 1) := by
  have a := h.one hO hi
  have hs := h.stop_le hO m l i (by omega)
  have hc := hO.c
  have p := mul_b hc.1 hc.2.1 a.2.2.1 a.2.2.2.1
  have p2 := mul_b hc.1 hc.2.1 a.2.2.2.2.2.2.1 a.2.2.2.2.2.2.2
  rw [← Int.mul_assoc] at p2
  have ef : t.stF d u v m l i = t.tk * v i * t.bo ^ d := if_pos c1
  rw [show sI (t.stF d u v m l) (i + 1) = sI (t.stF d u v m l) i + t.stF d u v m l i from rfl, ef]
  clear a hc ef
  generalize sI (t.stF d u v m l) i = S at *
  rw [w_small (z := t.tk * v i) (by omega) (by omega)]
  generalize t.tk * v i * t.bo ^ d = Z at *
  rw [w_small (z := Z) (by omega) (by omega), w_small (by omega) (by omega), Int.add_assoc]
theorem st_leave (hO : t.Ok) {d k : Nat} {u v : Nat → Int} (h : t.Mid d k u v) {P : Int} (hP0 : 0 ≤ P) (hP : P ≤ 213986410758144000) {m l i : Nat} (hi : i < k + 1) (c1 : ¬ i < m) (c2 : l ≤ i) :
    wrap64 (P + sI (t.stF d u v m l) i + wrap64 (wrap64 (t.lv * u i) * t.go ^ d)) = P + sI (t.stF d u v m l) (i + 1) := by
  have a := h.one hO hi
  have hs := h.stop_le hO m l i (by omega)
  have hc := hO.c
  have p := mul_b hc.2.2.1 hc.2.2.2 a.1 a.2.1
  have p2 := mul_b hc.2.2.1 hc.2.2.2 a.2.2.2.2.1 a.2.2.2.2.2.1
  rw [← Int.mul_assoc] at p2
  have ef : t.stF d u v m l i = t.lv * u i * t.go ^ d := (if_neg c1).trans (if_pos c2)
  rw [show sI (t.stF d u v m l) (i + 1) = sI (t.stF d u v m l) i + t.stF d u v m l i from rfl, ef]
  clear a hc ef
  generalize sI (t.stF d u v m l) i = S at *
  rw [w_small (z := t.lv * u i) (by omega) (by omega)]
  generalize t.lv * u i * t.go ^ d = Z at *
  rw [w_small (z := Z) (by omega) (by omega), w_small (by omega) (by omega), Int.add_assoc]
theorem l4_ev (hO : t.Ok) {d k : Nat} {u v : Nat → Int} (h : t.Mid d k u v) (hn : k + d ≤ 6) (P : Int) (hP0 : 0 ≤ P) (hP : P ≤ 213986410758144000) (m l : Nat) (hm : m ≤ l) (hm2 : m ≤ 8) (hl2 : l ≤ 8) (pd best z : Int) {r0 : Int}
    (hk : Ev (fun r => comfitref02_wise.l4 r ((k + d : Nat) : Int) (k : Int) pd t.tk t.lv (tab (k + 1) u) (tab (k + 1) v) (t.go ^ d) (t.bo ^ d) ((m : Int) - 1) (l : Int) (P + sI (t.stF d u v m l) (k + 1)) (tab (k + 1) (midF u m l)) (tab (k + 1) (midF v m l)) ((k + 1 : Nat) : Int) ((k + 1 : Nat) : Int) t.gy t.go t.by_ t.bo best z) r0) :
    ∀ (j i : Nat), i + j = k + 1 → Ev (fun r => comfitref02_wise.l4 r ((k + d : Nat) : Int) (k : Int) pd t.tk t.lv (tab (k + 1) u) (tab (k + 1) v) (t.go ^ d) (t.bo ^ d) ((m : Int) - 1) (l : Int) (P + sI (t.stF d u v m l) i) (tab (k + 1) (fun b => if b < i then midF u m l b else 0)) (tab (k + 1) (fun b => if b < i then midF v m l b else 0)) ((k + 1 : Nat) : Int) (i : Int) t.gy t.go t.by_ t.bo best z) r0 := by
  intro j
  induction j with
  | zero =>
    intro i hi
    obtain rfl : i = k + 1 := by omega
    rw [tab_congr (G := midF u m l) (fun b hb => if_pos hb), tab_congr (G := midF v m l) (fun b hb => if_pos hb)]
    exact hk
  | succ j ih =>
    intro i hi
    refine Ev.succ (ih (i + 1) (by omega)) (fun r => ?_)
    have hi2 : i < k + 1 := by omega
    have same : ∀ w : Nat → Int, midF w m l i = 0 → tab (k + 1) (fun b => if b < i then midF w m l b else 0) = tab (k + 1) (fun b => if b < i + 1 then midF w m l b else 0) := by
      intro w hw
      refine tab_congr (fun b hb => ?_)
      by_cases c1 : b < i
      · rw [if_pos c1, if_pos (by omega)]
      · rw [if_neg c1]
        by_cases c2 : b = i
        · rw [if_pos (by omega), c2, hw]
        · rw [if_neg (by omega)]
    have put : ∀ w : Nat → Int, midF w m l i = w i → (tab (k + 1) (fun b => if b < i then midF w m l b else 0)).set i (w i) = tab (k + 1) (fun b => if b < i + 1 then midF w m l b else 0) := by
      intro w hw
      rw [tab_set]
      refine tab_congr (fun b hb => ?_)
      by_cases c2 : b = i
      · rw [if_pos c2, if_pos (by omega), c2, hw]
      · rw [if_neg c2]
        by_cases c1 : b < i
        · rw [if_pos c1, if_pos (by omega)]
        · rw [if_neg c1, if_neg (by omega)]
    have n1 : (i : Int) < ((k + 1 : Nat) : Int) := by omega
    have n2 : (0 : Int) ≤ (i : Int) := by omega
    have n3 : ∀ F, (i : Int) < ((tab (k + 1) F).length : Int) := fun F => by rw [tab_len]; omega
    have q1 : i < m → (i : Int) ≤ (m : Int) - 1 := fun h => by omega
    have q2 : ¬ i < m → ¬ (i : Int) ≤ (m : Int) - 1 := fun h => by omega
    have q3 : l ≤ i → (i : Int) ≥ (l : Int) := fun h => by omega
    have q4 : ¬ l ≤ i → ¬ (i : Int) ≥ (l : Int) := fun h => by omega
    have ew : wrap64 ((i : Int) + 1) = ((i + 1 : Nat) : Int) := w_in (by omega) (by omega)
    rw [comfitref02_wise.l4, if_pos n1]
    by_cases c1 : i < m
    · have z0 : ∀ w : Nat → Int, midF w m l i = 0 := fun w => if_pos c1
      rw [if_pos (q1 c1), if_pos n2, if_pos (n3 _), tab_rd hi2, ew, same u (z0 u), same v (z0 v), st_take hO h hP0 hP hi2 c1]
    · rw [if_neg (q2 c1)]
      by_cases c2 : l ≤ i
      · have z0 : ∀ w : Nat → Int, midF w m l i = 0 := fun w => (if_neg c1).trans (if_pos c2)
        rw [if_pos (q3 c2), if_pos n2, if_pos (n3 _), tab_rd hi2, ew, same u (z0 u), same v (z0 v), st_leave hO h hP0 hP hi2 c1 c2]
      · have ef : t.stF d u v m l i = 0 := (if_neg c1).trans (if_neg c2)
        have z0 : ∀ w : Nat → Int, midF w m l i = w i := fun w => (if_neg c1).trans (if_neg c2)
        rw [if_neg (q4 c2), if_pos n2, if_pos (n3 _), if_pos (n3 _), if_pos (n3 _), if_pos (n3 _), tab_rd hi2, tab_rd hi2, Int.toNat_natCast, put u (z0 u), put v (z0 v), ew,
          show sI (t.stF d u v m l) (i + 1) = sI (t.stF d u v m l) i + t.stF d u v m l i from rfl, ef, Int.add_zero]
/-- What bounds m and l cost from here on. -/
def T8.cnd (t : T8) (d k : Nat) (u v : Nat → Int) (m l : Nat) : Int := match d with
  | 0 => t.stop 0 k u v m l
  | e + 1 => t.stop (e + 1) k u v m l + t.V e (k + 1) (midF u m l) (midF v m l)
theorem T8.Ok.cnd_ge (hO : t.Ok) {k : Nat} {u v : Nat → Int} (h : t.Form k u v) (d m l : Nat) (hd : d = 0 → l = m) : sI (fun b => t.E d (u b) (v b)) (k + 1) ≤ t.cnd d k u v m l := by
  cases d with
  | zero => rw [hd rfl]; exact hO.cand0_ge h m
  | succ e => exact hO.cand_ge h e m l
theorem T8.Ok.cnd_eq (hO : t.Ok) (hm : t.gy * t.bo ≤ t.by_ * t.go) {k : Nat} {u v : Nat → Int} (h : t.Form k u v) (d : Nat) : ∃ m l : Nat, m ≤ l ∧ l ≤ k + 1 ∧ (d = 0 → l = m) ∧ t.cnd d k u v m l = sI (fun b => t.E d (u b) (v b)) (k + 1) := by
  cases d with
  | zero =>
    obtain ⟨m, h1, h2⟩ := hO.cand0_eq hm h
    exact ⟨m, m, Nat.le_refl _, h1, fun _ => rfl, h2⟩
  | succ e =>
    obtain ⟨m, l, h1, h2, h3⟩ := hO.cand_eq hm h e
    exact ⟨m, l, h1, h2, fun e0 => by omega, h3⟩
theorem midF_le {f : Nat → Int} (h : ∀ b, 0 ≤ f b) (m l b : Nat) : 0 ≤ midF f m l b ∧ midF f m l b ≤ f b := by
  have := h b
  unfold midF
  repeat' split
  all_goals omega
theorem T8.Form.out {k : Nat} {u v : Nat → Int} (h : t.Form k u v) {b : Nat} (hb : k < b) : u b = 0 ∧ v b = 0 := by
  obtain ⟨w, P, Q, h1, h2, h3, h4, h5, h6⟩ := h.ex
  rw [h5, h6, h4 b hb]
  simp
/-- What comes into the next level. -/
theorem T8.Mid.in' (hO : t.Ok) {e k : Nat} {u v : Nat → Int} (h : t.Mid (e + 1) k u v) (m l : Nat) {P : Int} (hP0 : 0 ≤ P) (hP : P ≤ 21612627486572544 * k) :
    t.In e k (tab (k + 1) (midF u m l)) (tab (k + 1) (midF v m l)) P ∧ (fun b : Nat => rd (tab (k + 1) (midF u m l)) (b : Int)) = midF u m l ∧ (fun b : Nat => rd (tab (k + 1) (midF v m l)) (b : Int)) = midF v m l := by
  have hn := h.form.nonneg hO
  have eq : ∀ w : Nat → Int, (∀ b, k < b → w b = 0) → (fun b : Nat => rd (tab (k + 1) (midF w m l)) (b : Int)) = midF w m l := by
    intro w hw
    funext b
    by_cases c : b < k + 1
    · exact tab_rd c
    · rw [tab_out (by omega)]
      unfold midF
      rw [hw b (by omega)]
      repeat' split
      all_goals rfl
  have e1 := eq u (fun b hb => (h.form.out hb).1)
  have e2 := eq v (fun b hb => (h.form.out hb).2)
  have le : ∀ (w : Nat → Int) (o : Int), (∀ b, 0 ≤ w b) → 1 ≤ o → sI w (k + 1) * o ^ (e + 1) ≤ 106993205379072 → sI (midF w m l) (k + 1) * o ^ (e + 1) ≤ 106993205379072 := by
    intro w o hw ho hm
    exact Int.le_trans (Int.mul_le_mul_of_nonneg_right (sI_le _ (fun b _ => (midF_le hw m l b).2)) (by have := pow_pos' o ho (e + 1); omega)) hm
  refine ⟨⟨tab_len _ _, tab_len _ _, by rw [e1, e2]; exact h.form.mid m l, by rw [e1]; exact le u t.go hn.1 hO.g.1 h.su, by rw [e2]; exact le v t.bo hn.2 hO.b.1 h.sv, hP0, hP⟩, e1, e2⟩
/-- What the reference's wise tells of a level. -/
def T8.Tells (t : T8) (d : Nat) : Prop := ∀ (c : Nat) (x y : List Int) (paid best : Int), t.In d c x y paid → c + 1 + d ≤ 6 →
  Ev (fun r => comfitref02_wise.f r ((c + 1 + d : Nat) : Int) ((c + 1 : Nat) : Int) t.gy t.go t.by_ t.bo x y paid t.tk t.lv best 0) (bm best (paid + t.V d (c + 1) (fun b => rd x (b : Int)) (fun b => rd y (b : Int))))
/-- One pair of bounds. -/
theorem go_ev (hO : t.Ok) {d k : Nat} {u v : Nat → Int} (h : t.Mid d k u v) (hn : k + d ≤ 6) (hT : ∀ e, d = e + 1 → t.Tells e) (P : Int) (hP0 : 0 ≤ P) (hP : P + 21398641075814400 ≤ 21612627486572544 * k) (m l : Nat) (hm : m ≤ l) (hl : l ≤ k + 1) (best : Int) {r0 : Int}
    (hk : Ev (fun r => comfitref02_wise.l3 r ((k + d : Nat) : Int) (k : Int) P t.tk t.lv (tab (k + 1) u) (tab (k + 1) v) (t.go ^ d) (t.bo ^ d) ((m : Int) - 1) ((l + 1 : Nat) : Int) t.gy t.go t.by_ t.bo (bm best (P + t.cnd d k u v m l)) 0) r0) :
    Ev (fun r => comfitref02_wise.j5 r ((k + d : Nat) : Int) (k : Int) P t.tk t.lv (tab (k + 1) u) (tab (k + 1) v) (t.go ^ d) (t.bo ^ d) ((m : Int) - 1) (l : Int) false t.gy t.go t.by_ t.bo best 0) r0 := by
  have hkk : 21612627486572544 * (k : Int) ≤ 21612627486572544 * 6 := Int.mul_le_mul_of_nonneg_left (by omega) (by omega)
  have ek : wrap64 ((k : Int) + 1) = ((k + 1 : Nat) : Int) := w_in (by omega) (by omega)
  have el : wrap64 ((l : Int) + 1) = ((l + 1 : Nat) : Int) := w_in (by omega) (by omega)
  have hs := h.stop_le hO m l (k + 1) (Nat.le_refl _)
  have hend : Ev (fun r => comfitref02_wise.l4 r ((k + d : Nat) : Int) (k : Int) P t.tk t.lv (tab (k + 1) u) (tab (k + 1) v) (t.go ^ d) (t.bo ^ d) ((m : Int) - 1) (l : Int) (P + sI (t.stF d u v m l) (k + 1)) (tab (k + 1) (midF u m l)) (tab (k + 1) (midF v m l)) ((k + 1 : Nat) : Int) ((k + 1 : Nat) : Int) t.gy t.go t.by_ t.bo best 0) r0 := by
    cases d with
    | zero =>
      have n1 : ¬ ((k + 1 : Nat) : Int) < ((k + 1 : Nat) : Int) := Int.lt_irrefl _
      have n2 : ¬ (k : Int) < ((k + 0 : Nat) : Int) := Int.lt_irrefl _
      have ec : t.cnd 0 k u v m l = sI (t.stF 0 u v m l) (k + 1) := rfl
      rw [ec] at hk
      unfold bm at hk
      by_cases c1 : best < 0
      · rw [if_pos c1] at hk
        exact Ev.succ hk (fun r => by rw [comfitref02_wise.l4, if_neg n1, if_neg n2, if_pos c1, el])
      · rw [if_neg c1] at hk
        by_cases c2 : P + sI (t.stF 0 u v m l) (k + 1) < best
        · rw [if_pos c2] at hk
          exact Ev.succ hk (fun r => by rw [comfitref02_wise.l4, if_neg n1, if_neg n2, if_neg c1, if_pos c2, el])
        · rw [if_neg c2] at hk
          exact Ev.succ hk (fun r => by rw [comfitref02_wise.l4, if_neg n1, if_neg n2, if_neg c1, if_neg c2, el])
    | succ f =>
      obtain ⟨hI, e1, e2⟩ := h.in' hO m l (P := P + sI (t.stF (f + 1) u v m l) (k + 1)) (by omega) (by omega)
      have ec : P + t.cnd (f + 1) k u v m l = P + sI (t.stF (f + 1) u v m l) (k + 1) + t.V f (k + 1) (midF u m l) (midF v m l) := by
        show P + (_ + _) = _
        rw [Int.add_assoc]; rfl
      rw [ec] at hk
      have hr := hT f rfl k _ _ _ best hI (by omega)
      rw [e1, e2] at hr
      rw [show k + 1 + f = k + (f + 1) by omega] at hr
      refine Ev.succ (g := fun r => (comfitref02_wise.f r ((k + (f + 1) : Nat) : Int) ((k + 1 : Nat) : Int) t.gy t.go t.by_ t.bo (tab (k + 1) (midF u m l)) (tab (k + 1) (midF v m l)) (P + sI (t.stF (f + 1) u v m l) (k + 1)) t.tk t.lv best 0).bind fun t138 => (comfitref02_wise.l3 r ((k + (f + 1) : Nat) : Int) (k : Int) P t.tk t.lv (tab (k + 1) u) (tab (k + 1) v) (t.go ^ (f + 1)) (t.bo ^ (f + 1)) ((m : Int) - 1) ((l + 1 : Nat) : Int) t.gy t.go t.by_ t.bo t138 0)) (Ev.bind hr hk) (fun r => ?_)
      have n1 : ¬ ((k + 1 : Nat) : Int) < ((k + 1 : Nat) : Int) := Int.lt_irrefl _
      have n2 : (k : Int) < ((k + (f + 1) : Nat) : Int) := by clear ek el hs hkk hk hr ec; omega
      rw [comfitref02_wise.l4, if_neg n1, if_pos n2, el, ek]
  have h4 := l4_ev hO h hn P hP0 (by omega) m l hm (by omega) (by omega) P best 0 hend (k + 1) 0 (by omega)
  refine Ev.succ h4 (fun r => ?_)
  have z0 : ∀ w : Nat → Int, tab (k + 1) (fun b => if b < 0 then midF w m l b else 0) = List.replicate (k + 1) 0 := fun w => by
    rw [tab_zero]
    exact tab_congr (fun b _ => if_neg (by omega))
  have n1 : (0 : Int) ≤ ((k + 1 : Nat) : Int) := Int.natCast_nonneg _
  have n2 : k + 1 ≤ 35184372088832 := by clear ek el hs hkk hk hend h4; omega
  rw [comfitref02_wise.j5, if_neg (by decide), ek, if_pos n1, Int.toNat_natCast, if_pos n2, z0, z0, sI, Int.add_zero]
  rfl
theorem l3_ev (hO : t.Ok) {d k : Nat} {u v : Nat → Int} (h : t.Mid d k u v) (hn : k + d ≤ 6) (hT : ∀ e, d = e + 1 → t.Tells e) (P : Int) (hP0 : 0 ≤ P) (hP : P + 21398641075814400 ≤ 21612627486572544 * k) {b0 Tg : Int} (hTg : Tg = P + sI (fun b => t.E d (u b) (v b)) (k + 1)) (hTg0 : 0 ≤ Tg) {ms ls : Nat} (hml : ms ≤ ls) (hls : ls ≤ k + 1) (hd0 : d = 0 → ls = ms) (heq : P + t.cnd d k u v ms ls = Tg) (m : Nat) (hmk : m ≤ k + 1) {r0 : Int}
    (hk : ∀ b', RS b0 Tg (ms < m + 1) b' → Ev (fun r => comfitref02_wise.l2 r ((k + d : Nat) : Int) (k : Int) P t.tk t.lv (tab (k + 1) u) (tab (k + 1) v) (t.go ^ d) (t.bo ^ d) (m : Int) t.gy t.go t.by_ t.bo b' 0) r0) :
    ∀ (j l : Nat) (b : Int), l + j = k + 2 → m ≤ l → RS b0 Tg (ms < m ∨ (ms = m ∧ ls < l)) b → Ev (fun r => comfitref02_wise.l3 r ((k + d : Nat) : Int) (k : Int) P t.tk t.lv (tab (k + 1) u) (tab (k + 1) v) (t.go ^ d) (t.bo ^ d) ((m : Int) - 1) (l : Int) t.gy t.go t.by_ t.bo b 0) r0 := by
  have ek : wrap64 ((k : Int) + 1) = ((k + 1 : Nat) : Int) := w_in (by omega) (by omega)
  have em : wrap64 ((m : Int) - 1 + 1) = (m : Int) := by rw [w_in (by omega) (by omega)]; omega
  have EK := Aside0.mk ek
  have EM := Aside0.mk em
  clear ek em
  intro j
  induction j with
  | zero =>
    intro l b hl hml2 hR
    have n1 : ¬ (l : Int) ≤ ((k + 1 : Nat) : Int) := by omega
    refine Ev.succ (hk b (hR.mono (fun s => by omega))) (fun r => ?_)
    rw [comfitref02_wise.l3, EK.out, if_neg n1, EM.out]
  | succ j ih =>
    intro l b hl hml2 hR
    have n1 : (l : Int) ≤ ((k + 1 : Nat) : Int) := by omega
    have hgo : (d = 0 → l = m) → Ev (fun r => comfitref02_wise.j5 r ((k + d : Nat) : Int) (k : Int) P t.tk t.lv (tab (k + 1) u) (tab (k + 1) v) (t.go ^ d) (t.bo ^ d) ((m : Int) - 1) (l : Int) false t.gy t.go t.by_ t.bo b 0) r0 := by
      intro hd
      have hge := hO.cnd_ge h.form d m l hd
      have hge2 : Tg ≤ P + t.cnd d k u v m l := by rw [hTg]; exact Int.add_le_add_left hge P
      refine go_ev hO h hn hT P hP0 hP m l hml2 (by omega) b (ih (l + 1) _ (by omega) (by omega) (hR.step hTg0 hge2 (fun s => ?_)))
      by_cases c : ms = m ∧ ls = l
      · obtain ⟨rfl, rfl⟩ := c
        exact .inr heq
      · exact .inl (by clear hge hge2 heq hTg; omega)
    by_cases c : d = 0
    · have n2 : (k : Int) = ((k + d : Nat) : Int) := by omega
      by_cases c2 : l = m
      · refine Ev.succ (hgo (fun _ => c2)) (fun r => ?_)
        rw [comfitref02_wise.l3, EK.out, if_pos n1, if_pos n2, EM.out]
        have : ((l : Int) != (m : Int)) = false := by simp [c2]
        rw [this]
      · have el : wrap64 ((l : Int) + 1) = ((l + 1 : Nat) : Int) := w_in (by omega) (by omega)
        have hR2 : RS b0 Tg (ms < m ∨ (ms = m ∧ ls < l + 1)) b := hR.mono (fun s => by have := hd0 c; clear el heq hTg; omega)
        have := ih (l + 1) b (by clear el; omega) (by clear el; omega) hR2
        refine Ev.succ (g := fun r => comfitref02_wise.j5 r ((k + d : Nat) : Int) (k : Int) P t.tk t.lv (tab (k + 1) u) (tab (k + 1) v) (t.go ^ d) (t.bo ^ d) ((m : Int) - 1) (l : Int) true t.gy t.go t.by_ t.bo b 0) (Ev.succ this (fun r => by rw [comfitref02_wise.j5, if_pos rfl, el])) (fun r => ?_)
        rw [comfitref02_wise.l3, EK.out, if_pos n1, if_pos n2, EM.out]
        have : ((l : Int) != (m : Int)) = true := by
          rw [bne_iff_ne]
          intro e2
          exact c2 (Int.ofNat.inj e2)
        rw [this]
    · have n2 : ¬ (k : Int) = ((k + d : Nat) : Int) := by omega
      refine Ev.succ (hgo (fun e => absurd e c)) (fun r => ?_)
      rw [comfitref02_wise.l3, EK.out, if_pos n1, if_neg n2]
theorem l2_ev (hO : t.Ok) {d k : Nat} {u v : Nat → Int} (h : t.Mid d k u v) (hn : k + d ≤ 6) (hT : ∀ e, d = e + 1 → t.Tells e) (P : Int) (hP0 : 0 ≤ P) (hP : P + 21398641075814400 ≤ 21612627486572544 * k) {b0 Tg : Int} (hTg : Tg = P + sI (fun b => t.E d (u b) (v b)) (k + 1)) (hTg0 : 0 ≤ Tg) {ms ls : Nat} (hml : ms ≤ ls) (hls : ls ≤ k + 1) (hd0 : d = 0 → ls = ms) (heq : P + t.cnd d k u v ms ls = Tg) :
    ∀ (j m : Nat) (b : Int), m + j = k + 2 → RS b0 Tg (ms < m) b → Ev (fun r => comfitref02_wise.l2 r ((k + d : Nat) : Int) (k : Int) P t.tk t.lv (tab (k + 1) u) (tab (k + 1) v) (t.go ^ d) (t.bo ^ d) ((m : Int) - 1) t.gy t.go t.by_ t.bo b 0) (bm b0 Tg) := by
  intro j
  induction j with
  | zero =>
    intro m b hm hR
    have := hR.done hTg0 (by omega)
    refine Ev.succ (g := fun _ => some (bm b0 Tg)) (Ev.const rfl) (fun r => ?_)
    rw [comfitref02_wise.l2, if_neg (by omega), this]
  | succ j ih =>
    intro m b hm hR
    have em : wrap64 ((m : Int) - 1 + 1) = (m : Int) := by rw [w_in (by omega) (by omega)]; omega
    refine Ev.succ (l3_ev hO h hn hT P hP0 hP hTg hTg0 hml hls hd0 heq m (by omega) (fun b' hb' => ?_) (k + 2 - m) m b (by omega) (Nat.le_refl _) (hR.mono (fun s => by omega))) (fun r => ?_)
    · have := ih (m + 1) b' (by omega) hb'
      rw [show ((m + 1 : Nat) : Int) - 1 = (m : Int) by omega] at this
      exact this
    · rw [comfitref02_wise.l2, if_pos (by omega), em]
theorem level (hO : t.Ok) (hm : t.gy * t.bo ≤ t.by_ * t.go) (d : Nat) (hT : ∀ e, d = e + 1 → t.Tells e) : t.Tells d := by
  intro c x y paid best hI hn
  have k1 : (0 : Int) ≤ ((c + 2 : Nat) : Int) := Int.natCast_nonneg _
  have k2 : c + 2 ≤ 35184372088832 := by omega
  have hM := hI.mid
  have hp0 := hI.p0
  have hp1 := hI.p1
  have hpay := hI.pay_le hO (c + 1) (Nat.le_refl _)
  have hc : 21612627486572544 * ((c + 1 : Nat) : Int) = 21612627486572544 * (c : Int) + 21612627486572544 := by rw [Int.natCast_add, Int.mul_add]; rfl
  obtain ⟨ms, ls, g1, g2, g3, g4⟩ := hO.cnd_eq hm hM.form d
  have hnn := hM.form.nonneg hO
  have hE : 0 ≤ sI (fun b => t.E d (nxX t.gy t.go (fun b => rd x (b : Int)) b) (nxX t.by_ t.bo (fun b => rd y (b : Int)) b)) (c + 1 + 1) := sI_nonneg _ (fun b _ => hO.E_nonneg d _ _ (hnn.1 b) (hnn.2 b))
  have eV : paid + t.V d (c + 1) (fun b => rd x (b : Int)) (fun b => rd y (b : Int)) = paid + sI (t.pay d x y) (c + 1) + sI (fun b => t.E d (nxX t.gy t.go (fun b => rd x (b : Int)) b) (nxX t.by_ t.bo (fun b => rd y (b : Int)) b)) (c + 1 + 1) := by
    rw [Int.add_assoc]; rfl
  rw [eV]
  generalize hTg : paid + sI (t.pay d x y) (c + 1) + sI (fun b => t.E d (nxX t.gy t.go (fun b => rd x (b : Int)) b) (nxX t.by_ t.bo (fun b => rd y (b : Int)) b)) (c + 1 + 1) = Tg
  have h2 := l2_ev hO hM hn hT (paid + sI (t.pay d x y) (c + 1)) (by omega) (by omega) (b0 := best) hTg.symm (by omega) g1 g2 g3 (by rw [g4]; exact hTg) (c + 1 + 2) 0 best (by omega) (RS.start _ _ (by omega))
  have hj : ∀ bb : Bool, (bb = true → 0 ≤ best ∧ best ≤ paid + sI (t.pay d x y) (c + 1)) → Ev (fun r => comfitref02_wise.j2 r ((c + 1 + d : Nat) : Int) ((c + 1 : Nat) : Int) (paid + sI (t.pay d x y) (c + 1)) t.tk t.lv (tab (c + 1 + 1) (nxX t.gy t.go (fun b => rd x (b : Int)))) (tab (c + 1 + 1) (nxX t.by_ t.bo (fun b => rd y (b : Int)))) (t.go ^ d) (t.bo ^ d) bb t.gy t.go t.by_ t.bo best 0) (bm best Tg) := by
    intro bb hbb
    cases bb with
    | true =>
      have := hbb rfl
      have e1 : bm best Tg = best := by
        unfold bm
        rw [if_neg (by omega), if_neg (by omega)]
      rw [e1]
      exact Ev.succ (g := fun _ => some best) (Ev.const rfl) (fun r => by rw [comfitref02_wise.j2, if_pos rfl])
    | false => exact Ev.succ h2 (fun r => by rw [comfitref02_wise.j2, if_neg (by decide)]; rfl)
  have h1 : Ev (fun r => comfitref02_wise.l1 r ((c + 1 + d : Nat) : Int) ((c + 1 : Nat) : Int) x y (paid + sI (t.pay d x y) (c + 1)) t.tk t.lv (tab (c + 2) (nxX t.gy t.go (fun b => rd x (b : Int)))) (tab (c + 2) (nxX t.by_ t.bo (fun b => rd y (b : Int)))) (t.go ^ d) (t.bo ^ d) ((c + 1 : Nat) : Int) ((c + 1 : Nat) : Int) t.gy t.go t.by_ t.bo best 0) (bm best Tg) := by
    by_cases c1 : best ≥ 0
    · refine Ev.succ (hj (decide (paid + sI (t.pay d x y) (c + 1) ≥ best)) (fun hb => ⟨c1, of_decide_eq_true hb⟩)) (fun r => ?_)
      rw [comfitref02_wise.l1, if_neg (by omega), if_pos c1]
    · refine Ev.succ (hj false (fun hb => by simp at hb)) (fun r => ?_)
      rw [comfitref02_wise.l1, if_neg (by omega), if_neg c1]
  have h10 := l1_ev hO hI hn best 0 _ _ h1 (c + 1) 0 (by omega)
  rw [show paid + sI (t.pay d x y) 0 = paid by rw [sI, Int.add_zero]] at h10
  have h0 := l0_ev hO hI hn best 0 h10 (c + 1) 0 (by omega)
  have ec : wrap64 (((c + 1 : Nat) : Int) + 1) = ((c + 2 : Nat) : Int) := w_in (by omega) (by omega)
  have z0 : ∀ (y o : Int) (X : Nat → Int), tab (c + 2) (uS y o X 0) = List.replicate (c + 2) 0 := fun y o X => by
    rw [tab_zero]
    exact tab_congr (fun b _ => uS_zero y o X b)
  rw [z0, z0, show ((0 : Nat) : Int) = 0 from rfl] at h0
  refine Ev.succ h0 (fun r => ?_)
  rw [comfitref02_wise.f, ec, if_pos k1, Int.toNat_natCast, if_pos k2]
theorem tells (hO : t.Ok) (hm : t.gy * t.bo ≤ t.by_ * t.go) : ∀ d, t.Tells d := by
  intro d
  induction d with
  | zero => exact level hO hm 0 (fun e h => by omega)
  | succ e ih =>
    refine level hO hm (e + 1) (fun f h => ?_)
    obtain rfl : f = e := by omega
    exact ih
end
end Go.Proofs.Ytdppnmfljfdhaaa.Pure
