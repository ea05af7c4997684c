/- The number of a time, as the program and as the document reckon it; what a day's number is. -/
import Derived.Test.YtocdojegoakmoaaDoorM1
import Derived.Test.YtocdojegoakmoaaDoorQ5
import Derived.Test.YtocdojegoakmoaaDoorQ11
namespace Go.Proofs.YtocdojegoakmoaaDoor.Q
open Go.RowKit Go.Proofs.YtocdojegoakmoaaDoorW.PrintWords
set_option linter.unusedVariables false
set_option linter.unusedSimpArgs false

theorem works_is : bulletinlaw22_works.f 60 = some true := by decide +kernel
theorem works_at (k : Nat) (hk : 60 ≤ k) : bulletinlaw22_works.f k = some true := at_rounds bulletinlaw22_works.mono hk works_is

theorem within_is (a lo hi : Int) : date_within.f a lo hi = some (decide (lo ≤ a ∧ a ≤ hi)) := by
  unfold date_within.f
  by_cases h : a ≥ lo
  · rw [if_pos h]; simp [show lo ≤ a from h]
  · rw [if_neg h]; simp [show ¬ lo ≤ a from h]
/-- Is there such a day? -/
def Av (y m d : Int) : Bool := decide (1970 ≤ y ∧ y ≤ 40000 ∧ 1 ≤ m ∧ m ≤ 12 ∧ 1 ≤ d ∧ d ≤ Lg y m)
/-- Is there such a second of a day? -/
def Bv (h i s : Int) : Bool := decide (0 ≤ h ∧ h ≤ 23 ∧ 0 ≤ i ∧ i ≤ 59 ∧ 0 ≤ s ∧ s ≤ 59)
def Sec (y m d h i s : Int) : Int := (Yd y - 719528 + Gd y m + d - 1) * 86400 + h * 3600 + i * 60 + s
def Num (y m d h i s : Int) : Int × Int := if Av y m d = true ∧ Bv h i s = true ∧ 0 ≤ Sec y m d h i s ∧ Sec y m d h i s ≤ 1099511627776 then (Sec y m d h i s, 0) else (0, 1)

theorem sec_range {y m d h i s : Int} (a : Av y m d = true) (b : Bv h i s = true) : 0 ≤ Sec y m d h i s ∧ Sec y m d h i s ≤ 2000000000000 := by
  simp only [Av, Bv, decide_eq_true_eq] at a b
  have y1 := Yd_mono 1970 y (by omega) (by omega)
  have y0 : Yd 1970 = 719528 := by decide +kernel
  have g := Gd_le y m (by omega) (by omega)
  have l := Lg_le y m
  unfold Sec
  omega

theorem num_j1 (k : Nat) (y m d h i s w : Int) (a : Av y m d = true) (b : Bv h i s = true) : date_Number.j1 (k + 1) false y m d h i s w = some (Num y m d h i s) := by
  have r := sec_range a b
  have a' := a; have b' := b
  simp only [Av, Bv, decide_eq_true_eq] at a' b'
  have y1 := Yd_mono 1970 y (by omega) (by omega)
  have y0 : Yd 1970 = 719528 := by decide +kernel
  have g := Gd_le y m (by omega) (by omega)
  have l := Lg_le y m
  rw [date_Number.j1]
  rw [if_neg (by decide), years_is y (by omega) (by omega), years_is 1970 (by omega) (by omega), gone_is y m (by omega) (by omega) (by omega)]
  simp only [Option.bind_some, y0]
  have e : wrap64 ((wrap64 ((wrap64 ((wrap64 ((wrap64 ((wrap64 ((wrap64 ((wrap64 (Yd y - 719528)) + Gd y m)) + d)) - 1)) * 86400)) + (wrap64 (h * 3600)))) + (wrap64 (i * 60)))) + s) = Sec y m d h i s := by
    rw [w64 (n := Yd y - 719528) (by omega) (by omega), w64 (n := Yd y - 719528 + Gd y m) (by omega) (by omega), w64 (n := Yd y - 719528 + Gd y m + d) (by omega) (by omega), w64 (n := Yd y - 719528 + Gd y m + d - 1) (by omega) (by omega), w64 (n := (Yd y - 719528 + Gd y m + d - 1) * 86400) (by omega) (by omega), w64 (n := h * 3600) (by omega) (by omega), w64 (n := i * 60) (by omega) (by omega), w64 (n := (Yd y - 719528 + Gd y m + d - 1) * 86400 + h * 3600) (by omega) (by omega), w64 (n := (Yd y - 719528 + Gd y m + d - 1) * 86400 + h * 3600 + i * 60) (by omega) (by omega)]
    unfold Sec at r ⊢
    rw [w64 (by omega) (by omega)]
  rw [e, moment_is]
  simp only [Option.bind_some]
  unfold Num
  simp only [a, b, true_and]
  by_cases hc : 0 ≤ Sec y m d h i s ∧ Sec y m d h i s ≤ 1099511627776
  · rw [if_pos (by simpa using hc), if_pos hc]
  · rw [if_neg (by simpa using hc), if_neg hc]
theorem num_j1' (k : Nat) (y m d h i s w : Int) : date_Number.j1 (k + 1) true y m d h i s w = some (0, 1) := by
  rw [date_Number.j1, if_pos rfl]
theorem num_j0 (k : Nat) (y m d h i s w : Int) (a : Av y m d = true) : date_Number.j0 (k + 2) false y m d h i s w = some (Num y m d h i s) := by
  rw [date_Number.j0, if_neg (by decide)]
  simp only [within_is, Option.bind_some]
  by_cases h1 : 0 ≤ h ∧ h ≤ 23
  · rw [if_pos (by simpa using h1)]
    by_cases h2 : 0 ≤ i ∧ i ≤ 59
    · rw [if_pos (by simpa using h2)]
      by_cases h3 : 0 ≤ s ∧ s ≤ 59
      · rw [show (!decide (0 ≤ s ∧ s ≤ 59)) = false by simp [h3]]
        exact num_j1 k y m d h i s w a (by simp [Bv, h1, h2, h3])
      · rw [show (!decide (0 ≤ s ∧ s ≤ 59)) = true by simp [h3], num_j1']
        rw [Num, if_neg]
        rintro ⟨_, b, _⟩; simp only [Bv, decide_eq_true_eq] at b; omega
    · rw [if_neg (by simpa using h2), num_j1', Num, if_neg]
      rintro ⟨_, b, _⟩; simp only [Bv, decide_eq_true_eq] at b; omega
  · rw [if_neg (by simpa using h1), num_j1', Num, if_neg]
    rintro ⟨_, b, _⟩; simp only [Bv, decide_eq_true_eq] at b; omega
theorem num_j0' (k : Nat) (y m d h i s w : Int) : date_Number.j0 (k + 1) true y m d h i s w = some (0, 1) := by
  rw [date_Number.j0, if_pos rfl]
theorem num_not {y m d h i s : Int} (a : ¬ (1970 ≤ y ∧ y ≤ 40000 ∧ 1 ≤ m ∧ m ≤ 12 ∧ 1 ≤ d ∧ d ≤ Lg y m)) : Num y m d h i s = (0, 1) := by
  rw [Num, if_neg]
  rintro ⟨b, _⟩; simp only [Av, decide_eq_true_eq] at b; exact a b
/-- The program's number of a time. -/
theorem number_is (k : Nat) (hk : 2 ≤ k) (y m d h i s w : Int) : date_Number.f k y m d h i s w = some (Num y m d h i s) := by
  obtain ⟨k, rfl⟩ : ∃ k', k = k' + 2 := ⟨k - 2, by omega⟩
  unfold date_Number.f
  simp only [within_is, Option.bind_some]
  by_cases h1 : 1970 ≤ y ∧ y ≤ 40000
  · rw [if_pos (by simpa using h1)]
    by_cases h2 : 1 ≤ m ∧ m ≤ 12
    · rw [if_pos (by simpa using h2), long_is y m (by omega) (by omega) (by omega)]
      simp only [Option.bind_some]
      by_cases h3 : 1 ≤ d ∧ d ≤ Lg y m
      · rw [show (!decide (1 ≤ d ∧ d ≤ Lg y m)) = false by simp [h3]]
        exact num_j0 k y m d h i s w (by simp [Av, h1, h2, h3])
      · rw [show (!decide (1 ≤ d ∧ d ≤ Lg y m)) = true by simp [h3], num_j0', num_not (by omega)]
    · rw [if_neg (by simpa using h2), num_j0', num_not (by omega)]
  · rw [if_neg (by simpa using h1), num_j0', num_not (by omega)]

/-! ### The document's -/
theorem refNum_l1 (y m d h i s w : Int) (a : Av y m d = true) (b : Bv h i s = true) : ∀ (j k : Nat) (n m' : Int), m' + j = m → 1 ≤ m' → n = d - 1 + Yd y - 719528 + Gd y m' → bulletinref22_Number.l1 (j + k + 2) n m' y m d h i s w = some (Num y m d h i s) := by
  have r := sec_range a b
  have a' := a; have b' := b
  simp only [Av, Bv, decide_eq_true_eq] at a' b'
  have y1 := Yd_mono 1970 y (by omega) (by omega)
  have y0 : Yd 1970 = 719528 := by decide +kernel
  have l := Lg_le y m
  intro j
  induction j with
  | zero =>
    intro k n m' hm hm1 hn
    obtain rfl : m' = m := by omega
    have g := Gd_le y m' (by omega) (by omega)
    rw [bulletinref22_Number.l1, if_neg (by omega)]
    have e : wrap64 ((wrap64 ((wrap64 ((wrap64 (86400 * n)) + (wrap64 (3600 * h)))) + (wrap64 (60 * i)))) + s) = Sec y m' d h i s := by
      rw [w64 (n := 86400 * n) (by omega) (by omega), w64 (n := 3600 * h) (by omega) (by omega), w64 (n := 60 * i) (by omega) (by omega), w64 (n := 86400 * n + 3600 * h) (by omega) (by omega), w64 (n := 86400 * n + 3600 * h + 60 * i) (by omega) (by omega)]
      unfold Sec at r ⊢
      rw [w64 (by omega) (by omega)]
      omega
    rw [e, refMoment_is]
    simp only [Option.bind_some]
    unfold Num
    simp only [a, b, true_and]
    by_cases hc : 0 ≤ Sec y m' d h i s ∧ Sec y m' d h i s ≤ 1099511627776
    · rw [if_pos (by simpa using hc), if_pos hc]
    · rw [if_neg (by simpa using hc), if_neg hc]
  | succ j ih =>
    intro k n m' hm hm1 hn
    have g := Gd_le y m' (by omega) (by omega)
    have g1 := Gd_next y m' (by omega) (by omega)
    have l' := Lg_le y m'
    rw [show j + 1 + k + 2 = (j + k + 2) + 1 by omega, bulletinref22_Number.l1, if_pos (by omega), refLong_is y m' (by omega) _ (by omega)]
    simp only [Option.bind_some]
    rw [w64 (n := n + Lg y m') (by omega) (by omega), w64 (n := m' + 1) (by omega) (by omega)]
    exact ih k _ _ (by omega) (by omega) (by omega)
theorem refNum_l0 (y m d h i s w : Int) (a : Av y m d = true) (b : Bv h i s = true) : ∀ (j k : Nat) (n y' : Int), y' + j = y → 1970 ≤ y' → n = d - 1 + Yd y' - 719528 → bulletinref22_Number.l0 (j + k + 16) n y' y m d h i s w = some (Num y m d h i s) := by
  have a' := a
  simp only [Av, decide_eq_true_eq] at a'
  have l := Lg_le y m
  intro j
  induction j with
  | zero =>
    intro k n y' hm hm1 hn
    obtain rfl : y' = y := by omega
    have := refNum_l1 y' m d h i s w a b (m - 1).toNat (k + 16 - 3 - (m - 1).toNat) n 1 (by omega) (by omega) (by rw [Gd_one]; omega)
    rw [show (m - 1).toNat + (k + 16 - 3 - (m - 1).toNat) + 2 = k + 15 by omega] at this
    rw [show 0 + k + 16 = k + 15 + 1 by omega, bulletinref22_Number.l0, if_neg (by omega)]
    exact this
  | succ j ih =>
    intro k n y' hm hm1 hn
    have y1 := Yd_mono 1970 y' (by omega) (by omega)
    have y0 : Yd 1970 = 719528 := by decide +kernel
    have y2 := Yd_next y' (by omega)
    have y3 := Yl_or y'
    rw [show j + 1 + k + 16 = (j + k + 16) + 1 by omega, bulletinref22_Number.l0, if_pos (by omega), refYear_is y' (by omega)]
    simp only [Option.bind_some]
    rw [w64 (n := n + Yl y') (by omega) (by omega), w64 (n := y' + 1) (by omega) (by omega)]
    exact ih k _ _ (by omega) (by omega) (by omega)
theorem refNum_j1 (k : Nat) (hk : 60000 ≤ k) (y m d h i s w : Int) (a : Av y m d = true) (b : Bv h i s = true) : bulletinref22_Number.j1 (k + 1) false y m d h i s w = some (Num y m d h i s) := by
  have a' := a
  simp only [Av, decide_eq_true_eq] at a'
  have l := Lg_le y m
  rw [bulletinref22_Number.j1, if_neg (by decide), w64 (n := d - 1) (by omega) (by omega)]
  have := refNum_l0 y m d h i s w a b (y - 1970).toNat (k - 16 - (y - 1970).toNat) (d - 1) 1970 (by omega) (by omega) (by rw [show Yd 1970 = 719528 by decide +kernel]; omega)
  rw [show (y - 1970).toNat + (k - 16 - (y - 1970).toNat) + 16 = k by omega] at this
  exact this
theorem refNum_j1' (k : Nat) (y m d h i s w : Int) : bulletinref22_Number.j1 (k + 1) true y m d h i s w = some (0, 1) := by
  rw [bulletinref22_Number.j1, if_pos rfl]
theorem refNum_j0' (k : Nat) (y m d h i s w : Int) : bulletinref22_Number.j0 (k + 1) true y m d h i s w = some (0, 1) := by
  rw [bulletinref22_Number.j0, if_pos rfl]
theorem num_notB {y m d h i s : Int} (a : ¬ (0 ≤ h ∧ h ≤ 23 ∧ 0 ≤ i ∧ i ≤ 59 ∧ 0 ≤ s ∧ s ≤ 59)) : Num y m d h i s = (0, 1) := by
  rw [Num, if_neg]
  rintro ⟨_, b, _⟩; simp only [Bv, decide_eq_true_eq] at b; exact a b
theorem refNum_j0 (k : Nat) (hk : 60000 ≤ k) (y m d h i s w : Int) (a : Av y m d = true) : bulletinref22_Number.j0 (k + 2) false y m d h i s w = some (Num y m d h i s) := by
  rw [bulletinref22_Number.j0, if_neg (by decide)]
  by_cases h1 : h < 0
  · rw [if_pos h1, refNum_j1', num_notB (by omega)]
  rw [if_neg h1]
  by_cases h2 : h > 23
  · rw [if_pos h2, refNum_j1', num_notB (by omega)]
  rw [if_neg h2]
  by_cases h3 : i < 0
  · rw [if_pos h3, refNum_j1', num_notB (by omega)]
  rw [if_neg h3]
  by_cases h4 : i > 59
  · rw [if_pos h4, refNum_j1', num_notB (by omega)]
  rw [if_neg h4]
  by_cases h5 : s < 0
  · rw [if_pos h5, refNum_j1', num_notB (by omega)]
  rw [if_neg h5]
  by_cases h6 : s > 59
  · rw [decide_eq_true h6, refNum_j1', num_notB (by omega)]
  rw [decide_eq_false h6]
  exact refNum_j1 k hk y m d h i s w a (by simp only [Bv, decide_eq_true_eq]; omega)
/-- The document's number of a time. -/
theorem refNumber_is (k : Nat) (hk : 70000 ≤ k) (y m d h i s w : Int) : bulletinref22_Number.f k y m d h i s w = some (Num y m d h i s) := by
  obtain ⟨k, rfl⟩ : ∃ k', k = k' + 2 := ⟨k - 2, by omega⟩
  unfold bulletinref22_Number.f
  by_cases h1 : y < 1970
  · rw [if_pos h1, refNum_j0', num_not (by omega)]
  rw [if_neg h1]
  by_cases h2 : y > 40000
  · rw [if_pos h2, refNum_j0', num_not (by omega)]
  rw [if_neg h2]
  by_cases h3 : m < 1
  · rw [if_pos h3, refNum_j0', num_not (by omega)]
  rw [if_neg h3]
  by_cases h4 : m > 12
  · rw [if_pos h4, refNum_j0', num_not (by omega)]
  rw [if_neg h4]
  by_cases h5 : d < 1
  · rw [if_pos h5, refNum_j0', num_not (by omega)]
  rw [if_neg h5, refLong_is y m (by omega) _ (by omega)]
  simp only [Option.bind_some]
  by_cases h6 : d > Lg y m
  · rw [decide_eq_true h6, refNum_j0', num_not (by omega)]
  rw [decide_eq_false h6]
  exact refNum_j0 k (by omega) y m d h i s w (by simp only [Av, decide_eq_true_eq]; omega)
end Go.Proofs.YtocdojegoakmoaaDoor.Q
