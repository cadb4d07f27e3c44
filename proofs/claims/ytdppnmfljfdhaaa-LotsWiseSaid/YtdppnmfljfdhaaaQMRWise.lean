/- Plain laws for the least price: the reference's search over all bounds finds the least cost. -/
import Derived.Test.YtdppnmfljfdhaaaQMBounds
import Derived.Test.YtdppnmfljfdhaaaQHRWise
set_option linter.unusedVariables false
set_option linter.unusedSimpArgs false
namespace Go.Proofs.Ytdppnmfljfdhaaa.Pure
open Go.RowKit Go.Proofs.Ytdppnmfljfdhaaa.X Go.Proofs.YtdppnmfljfdhaaaW.PrintWords Go.Proofs.YtdppnmfljfdhaaaW.PrintLast Go.Proofs.YtdppnmfljfdhaaaW.PrintMore

/-! ### Lists as tables -/
def tab (n : Nat) (F : Nat → Int) : List Int := (List.range n).map F
theorem tab_len (n : Nat) (F : Nat → Int) : (tab n F).length = n := by simp [tab]
theorem tab_rd {n : Nat} {F : Nat → Int} {i : Nat} (h : i < n) : rd (tab n F) (i : Int) = F i := by
  unfold rd tab
  simp [h]
theorem tab_out {n : Nat} {F : Nat → Int} {i : Nat} (h : n ≤ i) : rd (tab n F) (i : Int) = 0 := by
  unfold rd tab
  simp [h]
theorem tab_set {n : Nat} {F : Nat → Int} {i : Nat} (v : Int) : (tab n F).set i v = tab n (fun j => if j = i then v else F j) := by
  refine List.ext_getElem (by simp [tab]) (fun j h1 h2 => ?_)
  rw [List.getElem_set]
  simp only [tab, List.getElem_map, List.getElem_range]
  by_cases h : i = j
  · rw [if_pos h, if_pos h.symm]
  · rw [if_neg h, if_neg (fun e => h e.symm)]
theorem tab_congr {n : Nat} {F G : Nat → Int} (h : ∀ i, i < n → F i = G i) : tab n F = tab n G := by
  unfold tab
  exact List.map_congr_left (fun i hi => h i (List.mem_range.mp hi))
theorem tab_zero (n : Nat) : List.replicate n (0 : Int) = tab n (fun _ => 0) := by
  refine List.ext_getElem (by simp [tab]) (fun j h1 h2 => ?_)
  simp [tab]
theorem mul_b {a b A B : Int} (ha : 0 ≤ a) (hA : a ≤ A) (hb : 0 ≤ b) (hB : b ≤ B) : 0 ≤ a * b ∧ a * b ≤ A * B :=
  ⟨Int.mul_nonneg ha hb, Int.le_trans (Int.mul_le_mul_of_nonneg_right hA hb) (Int.mul_le_mul_of_nonneg_left hB (by omega))⟩
theorem sI_one {f : Nat → Int} {n : Nat} (h : ∀ i, i < n → 0 ≤ f i) {i : Nat} (hi : i < n) : f i ≤ sI f n := by
  have h1 : sI (fun j => if j = i then f i else 0) n ≤ sI f n := sI_le n (fun j hj => by
    by_cases e : j = i
    · rw [if_pos e, e]; exact Int.le_refl _
    · rw [if_neg e]; exact h j hj)
  have h2 : ∀ m, i < m → sI (fun j => if j = i then f i else 0) m = f i := by
    intro m
    induction m with
    | zero => intro h; omega
    | succ m ih =>
      intro hm
      rw [sI]
      by_cases e : m = i
      · rw [if_pos e, sI_zero m (fun j hj => if_neg (by omega))]; omega
      · rw [if_neg e, ih (by omega)]; omega
  rw [h2 n hi] at h1
  exact h1
theorem sI_upto {f : Nat → Int} {n : Nat} (h : ∀ i, i < n → 0 ≤ f i) : ∀ m : Nat, m ≤ n → sI f m ≤ sI f n := by
  intro m hm
  obtain ⟨d, rfl⟩ : ∃ d, n = m + d := ⟨n - m, by omega⟩
  clear hm
  induction d with
  | zero => exact Int.le_refl _
  | succ d ih =>
    have := ih (fun i hi => h i (by omega))
    have h2 := h (m + d) (by omega)
    show sI f m ≤ sI f (m + d) + f (m + d)
    omega
/-! ### The first loop: the masses behind the item -/
def uS (y o : Int) (X : Nat → Int) (i b : Nat) : Int := (if b < i then X b * (o - y) else 0) + (if 1 ≤ b ∧ b ≤ i then X (b - 1) * y else 0)
theorem uS_zero (y o : Int) (X : Nat → Int) (b : Nat) : uS y o X 0 b = 0 := by
  unfold uS
  rw [if_neg (by omega), if_neg (by omega)]; rfl
theorem uS_end (y o : Int) (X : Nat → Int) (k b : Nat) (hX : X k = 0) (hb : b ≤ k) : uS y o X k b = nxX y o X b := by
  unfold uS nxX
  by_cases c : b < k
  · rw [if_pos c]
    by_cases e : b = 0
    · rw [if_neg (by omega), if_pos e]
    · rw [if_pos (by omega), if_neg e]
  · obtain rfl : b = k := by omega
    rw [if_neg c, hX, Int.zero_mul]
    by_cases e : b = 0
    · rw [if_neg (by omega), if_pos e]
    · rw [if_pos (by omega), if_neg e]
theorem uS_set (y o : Int) (X : Nat → Int) (n i : Nat) (hi : i + 1 < n) :
    ((tab n (uS y o X i)).set i (uS y o X i i + X i * (o - y))).set (i + 1) ((if (i + 1 : Nat) = i then uS y o X i i + X i * (o - y) else uS y o X i (i + 1)) + X i * y) = tab n (uS y o X (i + 1)) := by
  rw [tab_set, tab_set]
  refine tab_congr (fun j hj => ?_)
  have ni : ¬ i + 1 = i := by omega
  rw [if_neg ni]
  by_cases e : j = i + 1
  · subst e
    have a : uS y o X i (i + 1) = 0 := by
      unfold uS
      have n1 : ¬ i + 1 < i := by omega
      have n2 : ¬ (1 ≤ i + 1 ∧ i + 1 ≤ i) := by omega
      rw [if_neg n1, if_neg n2]; rfl
    have b : uS y o X (i + 1) (i + 1) = X i * y := by
      unfold uS
      have n1 : ¬ i + 1 < i + 1 := by omega
      have n2 : 1 ≤ i + 1 ∧ i + 1 ≤ i + 1 := by omega
      rw [if_neg n1, if_pos n2, Int.zero_add]; rfl
    rw [if_pos rfl, a, b, Int.zero_add]
  · rw [if_neg e]
    by_cases e2 : j = i
    · subst e2
      rw [if_pos rfl]
      unfold uS
      have n1 : ¬ j < j := by omega
      have n2 : j < j + 1 := by omega
      rw [if_neg n1, if_pos n2]
      by_cases e3 : 1 ≤ j
      · have n3 : 1 ≤ j ∧ j ≤ j := by omega
        have n4 : 1 ≤ j ∧ j ≤ j + 1 := by omega
        rw [if_pos n3, if_pos n4]; omega
      · have n3 : ¬ (1 ≤ j ∧ j ≤ j) := by omega
        have n4 : ¬ (1 ≤ j ∧ j ≤ j + 1) := by omega
        rw [if_neg n3, if_neg n4]; omega
    · rw [if_neg e2]
      unfold uS
      by_cases e3 : j < i
      · have n1 : j < i + 1 := by omega
        rw [if_pos e3, if_pos n1]
        by_cases e4 : 1 ≤ j
        · have n3 : 1 ≤ j ∧ j ≤ i := by omega
          have n4 : 1 ≤ j ∧ j ≤ i + 1 := by omega
          rw [if_pos n3, if_pos n4]
        · have n3 : ¬ (1 ≤ j ∧ j ≤ i) := by omega
          have n4 : ¬ (1 ≤ j ∧ j ≤ i + 1) := by omega
          rw [if_neg n3, if_neg n4]
      · have n1 : ¬ j < i + 1 := by omega
        have n3 : ¬ (1 ≤ j ∧ j ≤ i) := by omega
        have n4 : ¬ (1 ≤ j ∧ j ≤ i + 1) := by omega
        rw [if_neg e3, if_neg n1, if_neg n3, if_neg n4]
theorem uS_bound {y o : Int} {X : Nat → Int} {M : Int} (h : okC y o) (hM : 0 ≤ M) (hX : ∀ i, 0 ≤ X i ∧ X i ≤ M) (i b : Nat) : 0 ≤ uS y o X i b ∧ uS y o X i b ≤ M * 24 := by
  have a := mul_b (hX b).1 (hX b).2 (show 0 ≤ o - y by have := h.2.2.2; omega) (show o - y ≤ 12 by have := h.2.1; have := h.2.2.1; omega)
  have c := mul_b (hX (b - 1)).1 (hX (b - 1)).2 h.2.2.1 (show y ≤ 12 by have := h.2.1; have := h.2.2.2; omega)
  unfold uS
  repeat' split
  all_goals omega
section
variable {t : T8}

/-- What comes into a level: c items so far, d more behind this one. -/
structure T8.In (t : T8) (d c : Nat) (x y : List Int) (paid : Int) : Prop where
  lx : x.length = c + 1
  ly : y.length = c + 1
  form : t.Form c (fun b => rd x (b : Int)) (fun b => rd y (b : Int))
  mx : sI (fun b => rd x (b : Int)) (c + 1) * t.go ^ (d + 1) ≤ 106993205379072
  my : sI (fun b => rd y (b : Int)) (c + 1) * t.bo ^ (d + 1) ≤ 106993205379072
  p0 : 0 ≤ paid
  p1 : paid ≤ 21612627486572544 * c
theorem rd_out {x : List Int} {i : Nat} (h : x.length ≤ i) : rd x (i : Int) = 0 := by
  unfold rd
  simp [h]
theorem one_mass {S p : Int} (h0 : 0 ≤ S) (hp : 1 ≤ p) (h : S * p ≤ 106993205379072) : S ≤ 106993205379072 := by
  have := Int.mul_le_mul_of_nonneg_left hp h0
  omega
theorem T8.In.X (hO : t.Ok) {d c : Nat} {x y : List Int} {paid : Int} (h : t.In d c x y paid) (i : Nat) : 0 ≤ rd x (i : Int) ∧ rd x (i : Int) ≤ 106993205379072 := by
  have hn := (h.form.nonneg hO).1
  refine ⟨hn i, ?_⟩
  by_cases c1 : i < c + 1
  · exact Int.le_trans (sI_one (f := fun b => rd x (b : Int)) (fun j _ => hn j) c1) (one_mass (sI_nonneg _ (fun j _ => hn j)) (pow_pos' _ hO.g.1 _) h.mx)
  · rw [rd_out (by rw [h.lx]; omega)]; decide
theorem T8.In.Y (hO : t.Ok) {d c : Nat} {x y : List Int} {paid : Int} (h : t.In d c x y paid) (i : Nat) : 0 ≤ rd y (i : Int) ∧ rd y (i : Int) ≤ 106993205379072 := by
  have hn := (h.form.nonneg hO).2
  refine ⟨hn i, ?_⟩
  by_cases c1 : i < c + 1
  · exact Int.le_trans (sI_one (f := fun b => rd y (b : Int)) (fun j _ => hn j) c1) (one_mass (sI_nonneg _ (fun j _ => hn j)) (pow_pos' _ hO.b.1 _) h.my)
  · rw [rd_out (by rw [h.ly]; omega)]; decide
theorem w_small {z : Int} (h0 : 0 ≤ z) (h1 : z ≤ 4611686018427387904) : wrap64 z = z := w_in (by omega) (by omega)
/-- A step of the first loop, on one of the two rows. -/
theorem row_step {y o : Int} (h : okC y o) {x : List Int} (hX : ∀ i : Nat, 0 ≤ rd x (i : Int) ∧ rd x (i : Int) ≤ 106993205379072) (n i : Nat) (hi : i + 1 < n) :
    wrap64 (rd (tab n (uS y o (fun b => rd x (b : Int)) i)) (i : Int) + wrap64 (rd x (i : Int) * wrap64 (o - y))) = uS y o (fun b => rd x (b : Int)) i i + rd x (i : Int) * (o - y) ∧
    (((tab n (uS y o (fun b => rd x (b : Int)) i)).set i (uS y o (fun b => rd x (b : Int)) i i + rd x (i : Int) * (o - y))).set (i + 1) (wrap64 (rd ((tab n (uS y o (fun b => rd x (b : Int)) i)).set i (uS y o (fun b => rd x (b : Int)) i i + rd x (i : Int) * (o - y))) ((i + 1 : Nat) : Int) + wrap64 (rd x (i : Int) * y)))) = tab n (uS y o (fun b => rd x (b : Int)) (i + 1)) := by
  have hM : (0 : Int) ≤ 106993205379072 := by omega
  have hb := fun b => uS_bound (X := fun b : Nat => rd x (b : Int)) h hM hX i b
  have a := mul_b (hX i).1 (hX i).2 (show 0 ≤ o - y by have := h.2.2.2; omega) (show o - y ≤ 12 by have := h.2.1; have := h.2.2.1; omega)
  have c := mul_b (hX i).1 (hX i).2 h.2.2.1 (show y ≤ 12 by have := h.2.1; have := h.2.2.2; omega)
  have h1 := hb i
  have h2 := hb (i + 1)
  constructor
  · rw [tab_rd (by omega), w_small (z := o - y) (by have := h.2.2.2; omega) (by have := h.2.1; have := h.2.2.1; omega), w_small (z := _ * (o - y)) (by omega) (by omega), w_small (by omega) (by omega)]
  · rw [tab_set (n := n) (i := i), tab_rd hi, w_small (z := _ * y) (by omega) (by omega), if_neg (by omega : ¬ i + 1 = i), w_small (by omega) (by omega), ← tab_set (n := n) (i := i)]
    have := uS_set y o (fun b => rd x (b : Int)) n i hi
    rw [if_neg (by omega : ¬ i + 1 = i)] at this
    exact this
theorem l0_ev (hO : t.Ok) {d c : Nat} {x y : List Int} {paid : Int} (hI : t.In d c x y paid) (hn : c + 1 + d ≤ 6) (best z : Int) {v : Int}
    (hk : Ev (fun r => comfitref02_wise.l1 r ((c + 1 + d : Nat) : Int) ((c + 1 : Nat) : Int) x y paid t.tk t.lv (tab (c + 2) (nxX t.gy t.go (fun b => rd x (b : Int)))) (tab (c + 2) (nxX t.by_ t.bo (fun b => rd y (b : Int)))) (t.go ^ d) (t.bo ^ d) ((c + 1 : Nat) : Int) 0 t.gy t.go t.by_ t.bo best z) v) :
    ∀ (j i : Nat), i + j = c + 1 → Ev (fun r => comfitref02_wise.l0 r ((c + 1 + d : Nat) : Int) ((c + 1 : Nat) : Int) x y paid t.tk t.lv (tab (c + 2) (uS t.gy t.go (fun b => rd x (b : Int)) i)) (tab (c + 2) (uS t.by_ t.bo (fun b => rd y (b : Int)) i)) ((c + 1 : Nat) : Int) (i : Int) t.gy t.go t.by_ t.bo best z) v := by
  intro j
  induction j with
  | zero =>
    intro i hi
    obtain rfl : i = c + 1 := by omega
    have e1 : tab (c + 2) (uS t.gy t.go (fun b => rd x (b : Int)) (c + 1)) = tab (c + 2) (nxX t.gy t.go (fun b => rd x (b : Int))) := tab_congr (fun b hb => uS_end _ _ _ _ _ (rd_out (by rw [hI.lx]; omega)) (by omega))
    have e2 : tab (c + 2) (uS t.by_ t.bo (fun b => rd y (b : Int)) (c + 1)) = tab (c + 2) (nxX t.by_ t.bo (fun b => rd y (b : Int))) := tab_congr (fun b hb => uS_end _ _ _ _ _ (rd_out (by rw [hI.ly]; omega)) (by omega))
    rw [e1, e2]
    have ed : wrap64 (((c + 1 + d : Nat) : Int) - ((c + 1 : Nat) : Int)) = (d : Int) := by rw [w_in (by omega) (by omega)]; omega
    have pg := ref_power_ev t.go (d : Int) (by omega) (by omega)
    have pb := ref_power_ev t.bo (d : Int) (by omega) (by omega)
    have bg := pow_bound t.go hO.g.1 hO.g.2.1 d (by omega)
    have bb := pow_bound t.bo hO.b.1 hO.b.2.1 d (by omega)
    rw [Int.toNat_natCast, w_small (by omega) (by omega)] at pg pb
    refine Ev.succ (g := fun r => (comfitref02_power.f r t.go (d : Int)).bind fun t122 => ((comfitref02_power.f r t.bo (d : Int)).bind fun t123 => (comfitref02_wise.l1 r ((c + 1 + d : Nat) : Int) ((c + 1 : Nat) : Int) x y paid t.tk t.lv (tab (c + 2) (nxX t.gy t.go (fun b => rd x (b : Int)))) (tab (c + 2) (nxX t.by_ t.bo (fun b => rd y (b : Int)))) t122 t123 ((c + 1 : Nat) : Int) 0 t.gy t.go t.by_ t.bo best z))) (Ev.bind pg (Ev.bind pb hk)) (fun r => ?_)
    rw [comfitref02_wise.l0, if_neg (by omega), ed]
  | succ j ih =>
    intro i hi
    refine Ev.succ (ih (i + 1) (by omega)) (fun r => ?_)
    have lx := hI.lx
    have ly := hI.ly
    have n1 : (i : Int) < ((c + 1 : Nat) : Int) := by omega
    have n2 : (0 : Int) ≤ (i : Int) := by omega
    have n3 : ∀ F, (i : Int) < ((tab (c + 2) F).length : Int) := fun F => by rw [tab_len]; omega
    have n4 : (i : Int) < (x.length : Int) := by omega
    have n5 : (i : Int) < (y.length : Int) := by omega
    have n6 : (0 : Int) ≤ ((i + 1 : Nat) : Int) := by omega
    have n7 : ∀ F, ((i + 1 : Nat) : Int) < ((tab (c + 2) F).length : Int) := fun F => by rw [tab_len]; omega
    have ew : wrap64 ((i : Int) + 1) = ((i + 1 : Nat) : Int) := w_in (by omega) (by omega)
    obtain ⟨a1, a2⟩ := row_step hO.g (hI.X hO) (c + 2) i (by omega)
    obtain ⟨b1, b2⟩ := row_step hO.b (hI.Y hO) (c + 2) i (by omega)
    rw [comfitref02_wise.l0, if_pos n1, if_pos n2, if_pos (n3 _), if_pos n4, Option.bind_some, ew, if_pos n6, if_pos (n7 _), if_pos (n3 _), if_pos n5, Option.bind_some, if_pos (n7 _)]
    rw [Int.toNat_natCast, Int.toNat_natCast, a1, b1, a2, b2]
/-! ### The second loop: what is paid for looking -/
def T8.pay (t : T8) (d : Nat) (x y : List Int) (i : Nat) : Int := rd x (i : Int) * t.go * t.go ^ d + rd y (i : Int) * t.bo * t.bo ^ d
theorem T8.In.term (hO : t.Ok) {d c : Nat} {x y : List Int} {paid : Int} (h : t.In d c x y paid) {i : Nat} (hi : i < c + 1) : 0 ≤ rd x (i : Int) * t.go * t.go ^ d ∧ rd x (i : Int) * t.go * t.go ^ d ≤ 106993205379072 ∧ 0 ≤ rd y (i : Int) * t.bo * t.bo ^ d ∧ rd y (i : Int) * t.bo * t.bo ^ d ≤ 106993205379072 := by
  have hn := h.form.nonneg hO
  have one : ∀ (z : List Int) (o : Int), 1 ≤ o → (∀ b : Nat, 0 ≤ rd z (b : Int)) → sI (fun b => rd z (b : Int)) (c + 1) * o ^ (d + 1) ≤ 106993205379072 → 0 ≤ rd z (i : Int) * o * o ^ d ∧ rd z (i : Int) * o * o ^ d ≤ 106993205379072 := by
    intro z o ho hz hm
    have hp := pow_pos' o ho (d + 1)
    have e : rd z (i : Int) * o * o ^ d = rd z (i : Int) * o ^ (d + 1) := by rw [Int.pow_succ, Int.mul_assoc, Int.mul_comm o]
    rw [e]
    refine ⟨Int.mul_nonneg (hz i) (by omega), Int.le_trans (Int.mul_le_mul_of_nonneg_right (sI_one (f := fun b => rd z (b : Int)) (fun j _ => hz j) hi) (by omega)) hm⟩
  have a := one x t.go hO.g.1 hn.1 h.mx
  have b := one y t.bo hO.b.1 hn.2 h.my
  exact ⟨a.1, a.2, b.1, b.2⟩
theorem T8.In.pay_le (hO : t.Ok) {d c : Nat} {x y : List Int} {paid : Int} (h : t.In d c x y paid) : ∀ i, i ≤ c + 1 → 0 ≤ sI (t.pay d x y) i ∧ sI (t.pay d x y) i ≤ 213986410758144 := by
  intro i hi
  have hpos : ∀ j, j < c + 1 → 0 ≤ t.pay d x y j := fun j hj => by have := h.term hO hj; unfold T8.pay; omega
  refine ⟨sI_nonneg _ (fun j hj => hpos j (by omega)), Int.le_trans (sI_upto hpos i hi) ?_⟩
  unfold T8.pay
  rw [sI_add]
  have e : ∀ (z : List Int) (o : Int), sI (fun k => rd z (k : Int) * o * o ^ d) (c + 1) = sI (fun b => rd z (b : Int)) (c + 1) * o ^ (d + 1) := by
    intro z o
    rw [← sI_mul]
    exact sI_congr _ (fun k _ => by rw [Int.pow_succ, Int.mul_assoc, Int.mul_comm o])
  rw [e, e]
  have := h.mx
  have := h.my
  omega
theorem l1_ev (hO : t.Ok) {d c : Nat} {x y : List Int} {paid : Int} (hI : t.In d c x y paid) (hn : c + 1 + d ≤ 6) (best z : Int) (U V : List Int) {v : Int}
    (hk : Ev (fun r => comfitref02_wise.l1 r ((c + 1 + d : Nat) : Int) ((c + 1 : Nat) : Int) x y (paid + sI (t.pay d x y) (c + 1)) t.tk t.lv U V (t.go ^ d) (t.bo ^ d) ((c + 1 : Nat) : Int) ((c + 1 : Nat) : Int) t.gy t.go t.by_ t.bo best z) v) :
    ∀ (j i : Nat), i + j = c + 1 → Ev (fun r => comfitref02_wise.l1 r ((c + 1 + d : Nat) : Int) ((c + 1 : Nat) : Int) x y (paid + sI (t.pay d x y) i) t.tk t.lv U V (t.go ^ d) (t.bo ^ d) ((c + 1 : Nat) : Int) (i : Int) t.gy t.go t.by_ t.bo best z) v := by
  intro j
  induction j with
  | zero =>
    intro i hi
    obtain rfl : i = c + 1 := by omega
    exact hk
  | succ j ih =>
    intro i hi
    refine Ev.succ (ih (i + 1) (by omega)) (fun r => ?_)
    have lx := hI.lx
    have ly := hI.ly
    have n1 : (i : Int) < ((c + 1 : Nat) : Int) := by omega
    have n2 : (0 : Int) ≤ (i : Int) := by omega
    have n4 : (i : Int) < (x.length : Int) := by omega
    have n5 : (i : Int) < (y.length : Int) := by omega
    have ew : wrap64 ((i : Int) + 1) = ((i + 1 : Nat) : Int) := w_in (by omega) (by omega)
    rw [comfitref02_wise.l1, if_pos n1, if_pos n2, if_pos n4, if_pos n5, ew]
    clear ew n1 n2 n4 n5
    have hp0 := hI.p0
    have hp1 := hI.p1
    have hx := hI.X hO i
    have hy := hI.Y hO i
    have ht := hI.term hO (i := i) (by omega)
    have hs := hI.pay_le hO i (by omega)
    have a := mul_b hx.1 hx.2 (show 0 ≤ t.go by have := hO.g.1; omega) hO.g.2.1
    have b := mul_b hy.1 hy.2 (show 0 ≤ t.bo by have := hO.b.1; omega) hO.b.2.1
    have hc : 21612627486572544 * (c : Int) ≤ 21612627486572544 * 6 := Int.mul_le_mul_of_nonneg_left (by omega) (by omega)
    rw [w_small (z := rd x (i : Int) * t.go) (by omega) (by omega), w_small (z := rd x (i : Int) * t.go * t.go ^ d) (by omega) (by omega), w_small (z := rd y (i : Int) * t.bo) (by omega) (by omega), w_small (z := rd y (i : Int) * t.bo * t.bo ^ d) (by omega) (by omega),
      w_small (z := rd x (i : Int) * t.go * t.go ^ d + rd y (i : Int) * t.bo * t.bo ^ d) (by omega) (by omega), w_small (z := paid + sI (t.pay d x y) i + (rd x (i : Int) * t.go * t.go ^ d + rd y (i : Int) * t.bo * t.bo ^ d)) (by omega) (by omega), Int.add_assoc]
    rfl
end
end Go.Proofs.Ytdppnmfljfdhaaa.Pure
