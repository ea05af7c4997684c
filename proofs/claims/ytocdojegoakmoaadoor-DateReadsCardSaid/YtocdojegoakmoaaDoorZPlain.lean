import Derived.Test.YtocdojegoakmoaaDoorZ
import Derived.Lib.FieldsP
import Derived.Lib.MapLaws
import Derived.Lib.IndexBytes
import Derived.Lib.IndexLaws
import Derived.Lib.Strings
namespace Go.Proofs.YtocdojegoakmoaaDoor.Z
open Go.RowKit Go.Proofs.YtocdojegoakmoaaDoorW.PrintWords
set_option linter.unusedVariables false
set_option linter.unusedSimpArgs false
section
/- The chapter's example: told by the kernel. -/
theorem example_is : bulletinlaw22_works.f 60 = some true := by decide +kernel
theorem example_at (k : Nat) (hk : 60 ≤ k) : bulletinlaw22_works.f k = some true := at_rounds bulletinlaw22_works.mono hk example_is
end
section
/- The calendar: what the program's and the document's loops find, for any moment (plain arithmetic over what the walks told). -/

theorem w64 {n : Int} (h0 : -9223372036854775808 ≤ n) (h1 : n ≤ 9223372036854775807) : wrap64 n = n := by unfold wrap64; omega
theorem td (a : Int) (h : 0 ≤ a) (b : Int) : Int.tdiv a b = a / b := Int.tdiv_eq_ediv_of_nonneg h
theorem tm (a : Int) (h : 0 ≤ a) (b : Int) : Int.tmod a b = a % b := Int.tmod_eq_emod_of_nonneg h

/-- Is a year one of 366 days? -/
def Lp (y : Int) : Bool := decide (y % 4 = 0 ∧ (y % 100 ≠ 0 ∨ y % 400 = 0))
/-- How many days a year has. -/
def Yl (y : Int) : Int := if Lp y then 366 else 365
/-- How many days there are ahead of a year. -/
def Yd (y : Int) : Int := 365 * y + (y - 1) / 4 - (y - 1) / 100 + (y - 1) / 400 + 1
/-- How many days of a year are gone ahead of a month, in a year of 365. -/
def Gb (m : Int) : Int := if m ≤ 1 then 0 else if m = 2 then 31 else if m = 3 then 59 else if m = 4 then 90 else if m = 5 then 120 else if m = 6 then 151 else if m = 7 then 181 else if m = 8 then 212 else if m = 9 then 243 else if m = 10 then 273 else if m = 11 then 304 else if m = 12 then 334 else 365
def Gd (y m : Int) : Int := if 2 < m ∧ Lp y = true then Gb m + 1 else Gb m
def Lg (y m : Int) : Int := if m = 2 then (if Lp y then 29 else 28) else if m = 4 ∨ m = 6 ∨ m = 9 ∨ m = 11 then 30 else 31

theorem Yd_next (y : Int) (h : 1 ≤ y) : Yd (y + 1) = Yd y + Yl y := by
  unfold Yd Yl Lp
  by_cases h4 : y % 4 = 0 <;> by_cases h100 : y % 100 = 0 <;> by_cases h400 : y % 400 = 0 <;> simp [h4, h100, h400] <;> omega
theorem Yl_or (y : Int) : Yl y = 365 ∨ Yl y = 366 := by unfold Yl; split <;> simp
theorem Gd_next (y m : Int) (h1 : 1 ≤ m) (h2 : m ≤ 12) : Gd y (m + 1) = Gd y m + Lg y m := by
  have : m = 1 ∨ m = 2 ∨ m = 3 ∨ m = 4 ∨ m = 5 ∨ m = 6 ∨ m = 7 ∨ m = 8 ∨ m = 9 ∨ m = 10 ∨ m = 11 ∨ m = 12 := by omega
  cases hl : Lp y <;> rcases this with h | h | h | h | h | h | h | h | h | h | h | h <;> subst h <;> simp [Gd, Gb, Lg, hl]
theorem Lg_le (y m : Int) : 28 ≤ Lg y m ∧ Lg y m ≤ 31 := by
  unfold Lg
  cases Lp y <;> (repeat' split) <;> omega
theorem Gd_one (y : Int) : Gd y 1 = 0 := by simp [Gd, Gb]
theorem Gd_end (y : Int) : Gd y 13 = Yl y := by cases hl : Lp y <;> simp [Gd, Gb, Yl, hl]
theorem Gd_le (y m : Int) (h1 : 1 ≤ m) (h2 : m ≤ 13) : 0 ≤ Gd y m ∧ Gd y m ≤ 366 := by
  have : m = 1 ∨ m = 2 ∨ m = 3 ∨ m = 4 ∨ m = 5 ∨ m = 6 ∨ m = 7 ∨ m = 8 ∨ m = 9 ∨ m = 10 ∨ m = 11 ∨ m = 12 ∨ m = 13 := by omega
  cases hl : Lp y <;> rcases this with h | h | h | h | h | h | h | h | h | h | h | h | h <;> subst h <;> simp [Gd, Gb, hl]
theorem Gd_mono (y m m' : Int) (h1 : 1 ≤ m) (h : m ≤ m') (h2 : m' ≤ 13) : Gd y m ≤ Gd y m' := by
  obtain ⟨n, hn⟩ : ∃ n : Nat, m' = m + n := ⟨(m' - m).toNat, by omega⟩
  induction n generalizing m' with
  | zero => rw [hn]; simp
  | succ n ih =>
    have a := ih (m + n) (by omega) (by omega) rfl
    have b := Gd_next y (m + n) (by omega) (by omega)
    have c := Lg_le y (m + n)
    rw [hn, show m + ((n + 1 : Nat) : Int) = m + n + 1 from by omega]; omega
theorem Yd_mono (y y' : Int) (h1 : 1 ≤ y) (h : y ≤ y') : Yd y + 365 * (y' - y) ≤ Yd y' ∧ Yd y' ≤ Yd y + 366 * (y' - y) := by
  obtain ⟨n, hn⟩ : ∃ n : Nat, y' = y + n := ⟨(y' - y).toNat, by omega⟩
  induction n generalizing y' with
  | zero => rw [hn]; simp
  | succ n ih =>
    have a := ih (y + n) (by omega) rfl
    have b := Yd_next (y + n) (by omega)
    have c := Yl_or (y + n)
    rw [hn, show y + ((n + 1 : Nat) : Int) = y + n + 1 from by omega]; omega

/-- What a day's year is, is one. -/
theorem Yd_one (n y y' : Int) (h1 : 1 ≤ y) (h1' : 1 ≤ y') (a : Yd y ≤ n) (b : n < Yd (y + 1)) (a' : Yd y' ≤ n) (b' : n < Yd (y' + 1)) : y = y' := by
  rcases Int.lt_trichotomy y y' with h | h | h
  · have := Yd_mono (y + 1) y' (by omega) (by omega); omega
  · exact h
  · have := Yd_mono (y' + 1) y (by omega) (by omega); omega
theorem Gd_uniq (n y m m' : Int) (h1 : 1 ≤ m) (h2 : m ≤ 12) (h1' : 1 ≤ m') (h2' : m' ≤ 12) (a : Gd y m ≤ n) (b : n < Gd y (m + 1)) (a' : Gd y m' ≤ n) (b' : n < Gd y (m' + 1)) : m = m' := by
  rcases Int.lt_trichotomy m m' with h | h | h
  · have := Gd_mono y (m + 1) m' (by omega) (by omega) (by omega); omega
  · exact h
  · have := Gd_mono y (m' + 1) m (by omega) (by omega) (by omega); omega

/-! ### The program's -/
theorem leap_is (y : Int) (h : 0 ≤ y) : date_leap.f y = some (Lp y) := by
  unfold date_leap.f Lp
  simp only [tm y h]
  by_cases h4 : y % 4 = 0 <;> by_cases h100 : y % 100 = 0 <;> by_cases h400 : y % 400 = 0 <;> simp [h4, h100, h400]
theorem years_is (y : Int) (h : 1 ≤ y) (h' : y ≤ 1000000) : date_years.f y = some (Yd y) := by
  unfold date_years.f Yd
  rw [w64 (n := y - 1) (by omega) (by omega)]
  simp only [td (y - 1) (by omega)]
  simp only [w64 (n := y - 1 + 1) (by omega) (by omega)]
  congr 1
  unfold wrap64
  omega
theorem rd_before (y m : Int) (h1 : 1 ≤ m) (h2 : m ≤ 12) : rd Tab2 (wrap64 (m - 1)) = Gb m := by
  have : m = 1 ∨ m = 2 ∨ m = 3 ∨ m = 4 ∨ m = 5 ∨ m = 6 ∨ m = 7 ∨ m = 8 ∨ m = 9 ∨ m = 10 ∨ m = 11 ∨ m = 12 := by omega
  rcases this with h | h | h | h | h | h | h | h | h | h | h | h <;> subst h <;> decide +kernel
theorem gone_is (y m : Int) (h : 0 ≤ y) (h1 : 1 ≤ m) (h2 : m ≤ 12) : date_gone.f y m = some (Gd y m) := by
  unfold date_gone.f
  have e : wrap64 (m - 1) = m - 1 := w64 (by omega) (by omega)
  rw [if_pos (by rw [e]; omega), if_pos (by rw [e]; omega), rd_before y m h1 h2, leap_is y h]
  have g := Gd_le y m h1 (by omega)
  unfold Gd at *
  by_cases hm : m > 2
  · rw [if_pos hm]
    cases hl : Lp y
    · simp [hl]
    · rw [w64 (by simp [hl] at g; split at g <;> omega) (by simp [hl] at g; split at g <;> omega)]
      simp [hl, show 2 < m from hm]
  · rw [if_neg hm, if_neg (by omega)]
theorem long_is (y m : Int) (h : 0 ≤ y) (h1 : 1 ≤ m) (h2 : m ≤ 12) : date_long.f y m = some (Lg y m) := by
  unfold date_long.f
  by_cases hm : m = 12
  · subst hm; simp [Lg]
  · rw [if_neg hm, w64 (n := m + 1) (by omega) (by omega), gone_is y (m + 1) h (by omega) (by omega), gone_is y m h h1 h2]
    have a := Gd_next y m h1 h2
    have b := Gd_le y m h1 (by omega)
    have c := Lg_le y m
    simp only [Option.bind_some]
    rw [w64 (by omega) (by omega)]
    congr 1; omega

theorem civil_l1 (y n : Int) (h : 0 ≤ y) (h0 : 0 ≤ n) (h1 : n ≤ 366) : ∀ (j : Nat) (k : Nat) (m : Int), m = j → j < k → 1 ≤ m → m ≤ 12 → n < Gd y (m + 1) → ∃ m', 1 ≤ m' ∧ m' ≤ 12 ∧ Gd y m' ≤ n ∧ n < Gd y (m' + 1) ∧ date_civil.l1 k n y m = some (y, m', n - Gd y m' + 1) := by
  intro j
  induction j with
  | zero => intro k m hm _ h1; omega
  | succ j ih =>
    intro k m hm hk hm1 hm2 hn
    obtain ⟨k, rfl⟩ : ∃ k', k = k' + 1 := ⟨k - 1, by omega⟩
    have e : date_civil.l1 (k + 1) n y m = (date_gone.f y m).bind fun t106 => (if t106 > n then (date_civil.l1 k n y (wrap64 (m - 1))) else ((date_gone.f y m).bind fun t107 => (some (y, m, wrap64 ((wrap64 (n - t107)) + 1))))) := by
      conv => lhs; unfold date_civil.l1
    rw [e, gone_is y m h hm1 hm2]
    simp only [Option.bind_some]
    by_cases hg : Gd y m > n
    · rw [if_pos hg, w64 (by omega) (by omega)]
      have : m ≠ 1 := by intro hh; subst hh; rw [Gd_one] at hg; omega
      exact ih k (m - 1) (by omega) (by omega) (by omega) (by omega) (by rw [show m - 1 + 1 = m by omega]; omega)
    · have g := Gd_le y m hm1 (by omega)
      rw [if_neg hg, w64 (n := n - Gd y m) (by omega) (by omega), w64 (by omega) (by omega)]
      exact ⟨m, hm1, hm2, by omega, hn, rfl⟩

/-- What a day's year, month and day are. -/
def Is (N y m d : Int) : Prop := 1 ≤ y ∧ Yd y ≤ N ∧ N < Yd (y + 1) ∧ 1 ≤ m ∧ m ≤ 12 ∧ Gd y m ≤ N - Yd y ∧ N - Yd y < Gd y (m + 1) ∧ d = N - Yd y - Gd y m + 1
theorem Is.one {N y m d y' m' d' : Int} (h : Is N y m d) (h' : Is N y' m' d') : y = y' ∧ m = m' ∧ d = d' := by
  obtain ⟨a1, a2, a3, a4, a5, a6, a7, a8⟩ := h
  obtain ⟨b1, b2, b3, b4, b5, b6, b7, b8⟩ := h'
  have e := Yd_one N y y' a1 b1 a2 a3 b2 b3
  subst e
  have e := Gd_uniq (N - Yd y) y m m' a4 a5 b4 b5 a6 a7 b6 b7
  subst e
  exact ⟨rfl, rfl, by omega⟩

theorem civil_l0 (N : Int) (hN : N ≤ 20000000) : ∀ (j : Nat) (k : Nat) (y : Int), (60000 - y) ≤ j → j + 13 < k → 1 ≤ y → Yd y ≤ N → ∃ m d y', date_civil.l0 k N y = some (y', m, d) ∧ Is N y' m d := by
  intro j
  induction j with
  | zero =>
    intro k y hj _ h1 hy
    have := Yd_mono 1 y (by omega) (by omega)
    have : Yd 1 = 366 := by decide +kernel
    omega
  | succ j ih =>
    intro k y hj hk h1 hy
    have b1 := Yd_mono 1 y (by omega) (by omega)
    have b0 : Yd 1 = 366 := by decide +kernel
    obtain ⟨k, rfl⟩ : ∃ k', k = k' + 1 := ⟨k - 1, by omega⟩
    have e : date_civil.l0 (k + 1) N y = (date_years.f (wrap64 (y + 1))).bind fun t103 => (if t103 ≤ N then ((date_years.f y).bind fun t104 => (date_civil.l0 k N (wrap64 (y + (mx 1 (wrap64 (Int.tdiv (wrap64 (N - t104)) 366))))))) else ((date_years.f y).bind fun t105 => (date_civil.l1 k (wrap64 (N - t105)) y 12))) := by
      conv => lhs; unfold date_civil.l0
    rw [e, w64 (n := y + 1) (by omega) (by omega), years_is (y + 1) (by omega) (by omega), years_is y h1 (by omega)]
    simp only [Option.bind_some]
    have b2 := Yd_next y h1
    have b3 := Yl_or y
    rw [w64 (n := N - Yd y) (by omega) (by omega), td (N - Yd y) (by omega), w64 (n := (N - Yd y) / 366) (by omega) (by omega)]
    have em : mx 1 ((N - Yd y) / 366) = if 1 < (N - Yd y) / 366 then (N - Yd y) / 366 else 1 := by unfold mx; (repeat' split) <;> omega
    by_cases hc : Yd (y + 1) ≤ N
    · rw [if_pos hc, em]
      by_cases hq : 1 < (N - Yd y) / 366
      · rw [if_pos hq, w64 (by omega) (by omega)]
        have b4 := Yd_mono y (y + (N - Yd y) / 366) h1 (by omega)
        exact ih k _ (by omega) (by omega) (by omega) (by omega)
      · rw [if_neg hq, w64 (by omega) (by omega)]
        exact ih k _ (by omega) (by omega) (by omega) (by omega)
    · rw [if_neg hc]
      have g13 := Gd_end y
      obtain ⟨m, m1, m2, m3, m4, m5⟩ := civil_l1 y (N - Yd y) (by omega) (by omega) (by omega) 12 k 12 rfl (by omega) (by omega) (by omega) (by rw [show (12 : Int) + 1 = 13 by rfl, g13]; omega)
      exact ⟨m, _, y, m5, h1, by omega, by omega, m1, m2, m3, m4, rfl⟩
theorem civil_is (n : Int) (h0 : 0 ≤ n) (h1 : n ≤ 12725829) (k : Nat) (hk : 70000 ≤ k) : ∃ y m d, date_civil.f k n = some (y, m, d) ∧ Is (n + 719528) y m d := by
  unfold date_civil.f
  rw [years_is 1970 (by omega) (by omega), show Yd 1970 = 719528 by decide +kernel]
  simp only [Option.bind_some]
  rw [w64 (n := n + 719528) (by omega) (by omega), td (n + 719528) (by omega), w64 (n := (n + 719528) / 146097) (by omega) (by omega), w64 (n := (n + 719528) / 146097 * 400) (by omega) (by omega)]
  obtain ⟨m, d, y, e, i⟩ := civil_l0 (n + 719528) (by omega) 60000 k ((n + 719528) / 146097 * 400) (by omega) (by omega) (by omega) (by unfold Yd; omega)
  exact ⟨y, m, d, e, i⟩
theorem moment_is (a : Int) : date_moment.f a = some (decide (0 ≤ a ∧ a ≤ 1099511627776)) := by
  unfold date_moment.f
  by_cases h : a ≥ 0
  · rw [if_pos h]; simp [show 0 ≤ a from h]
  · rw [if_neg h]; simp [show ¬ 0 ≤ a from h]
/-- The program's time of a moment. -/
theorem of_is (a : Int) (h0 : 0 ≤ a) (h1 : a ≤ 1099511627776) (k : Nat) (hk : 70000 ≤ k) : ∃ y m d, Is (a / 86400 + 719528) y m d ∧ date_Of.f k a = some (y, m, d, a % 86400 / 3600, a % 86400 / 60 % 60, a % 60, (a / 86400 + 4) % 7, true) := by
  unfold date_Of.f
  rw [moment_is, td a h0, w64 (n := a / 86400) (by omega) (by omega)]
  simp only [Option.bind_some, h0, h1, and_self, decide_true, if_true]
  obtain ⟨y, m, d, e, i⟩ := civil_is (a / 86400) (by omega) (by omega) k hk
  refine ⟨y, m, d, i, ?_⟩
  rw [e]
  simp only [Option.bind_some]
  rw [tm a h0, tm a h0, td (a % 86400) (by omega), td (a % 86400) (by omega), w64 (n := a % 86400 / 3600) (by omega) (by omega), w64 (n := a % 86400 / 60) (by omega) (by omega), w64 (n := a / 86400 + 4) (by omega) (by omega), tm (a % 86400 / 60) (by omega), tm (a / 86400 + 4) (by omega)]
theorem of_not (a : Int) (h : ¬ (0 ≤ a ∧ a ≤ 1099511627776)) (k : Nat) : date_Of.f k a = some (0, 0, 0, 0, 0, 0, 0, false) := by
  unfold date_Of.f
  rw [moment_is]
  simp [h]

/-! ### The document's -/
theorem refMoment_is (a : Int) : bulletinref22_Moment.f a = some (decide (0 ≤ a ∧ a ≤ 1099511627776)) := moment_is a
theorem refLeap_is (y : Int) (h : 0 ≤ y) : bulletinref22_Leap.f y = some (Lp y) := by
  unfold bulletinref22_Leap.f Lp
  simp only [tm y h]
  by_cases h4 : y % 4 = 0 <;> by_cases h100 : y % 100 = 0 <;> by_cases h400 : y % 400 = 0 <;> simp [h4, h100, h400] <;> omega
theorem refYear_is (y : Int) (h : 0 ≤ y) : bulletinref22_year.f y = some (Yl y) := by
  unfold bulletinref22_year.f Yl
  rw [refLeap_is y h]
  cases Lp y <;> rfl
theorem refLong_is (y m : Int) (h : 0 ≤ y) (k : Nat) (hk : 1 ≤ k) : bulletinref22_Long.f k y m = some (Lg y m) := by
  obtain ⟨k, rfl⟩ : ∃ k', k = k' + 1 := ⟨k - 1, by omega⟩
  unfold bulletinref22_Long.f Lg
  rw [refLeap_is y h]
  simp only [Option.bind_some, bulletinref22_Long.j0]
  by_cases h2 : m = 2
  · subst h2; cases Lp y <;> rfl
  · by_cases h4 : m = 4 <;> by_cases h6 : m = 6 <;> by_cases h9 : m = 9 <;> by_cases h11 : m = 11 <;> simp [h2, h4, h6, h9, h11]
end
section
/- The number of a time, as the program reckons it. -/

theorem within_is (a lo hi : Int) : date_within.f a lo hi = some (decide (lo ≤ a ∧ a ≤ hi)) := by
  unfold date_within.f
  by_cases h : a ≥ lo
  · rw [if_pos h]; simp [show lo ≤ a from h]
  · rw [if_neg h]; simp [show ¬ lo ≤ a from h]
/-- Is there such a day? -/
def Av (y m d : Int) : Bool := decide (1970 ≤ y ∧ y ≤ 40000 ∧ 1 ≤ m ∧ m ≤ 12 ∧ 1 ≤ d ∧ d ≤ Lg y m)
/-- Is there such a second of a day? -/
def Bv (h i s : Int) : Bool := decide (0 ≤ h ∧ h ≤ 23 ∧ 0 ≤ i ∧ i ≤ 59 ∧ 0 ≤ s ∧ s ≤ 59)
def Sec (y m d h i s : Int) : Int := (Yd y - 719528 + Gd y m + d - 1) * 86400 + h * 3600 + i * 60 + s
def Num (y m d h i s : Int) : Int × Int := if Av y m d = true ∧ Bv h i s = true ∧ 0 ≤ Sec y m d h i s ∧ Sec y m d h i s ≤ 1099511627776 then (Sec y m d h i s, 0) else (0, 1)

theorem sec_range {y m d h i s : Int} (a : Av y m d = true) (b : Bv h i s = true) : 0 ≤ Sec y m d h i s ∧ Sec y m d h i s ≤ 2000000000000 := by
  simp only [Av, Bv, decide_eq_true_eq] at a b
  have y1 := Yd_mono 1970 y (by omega) (by omega)
  have y0 : Yd 1970 = 719528 := by decide +kernel
  have g := Gd_le y m (by omega) (by omega)
  have l := Lg_le y m
  unfold Sec
  omega

theorem num_j1 (k : Nat) (y m d h i s w : Int) (a : Av y m d = true) (b : Bv h i s = true) : date_Number.j1 (k + 1) false y m d h i s w = some (Num y m d h i s) := by
  have r := sec_range a b
  have a' := a; have b' := b
  simp only [Av, Bv, decide_eq_true_eq] at a' b'
  have y1 := Yd_mono 1970 y (by omega) (by omega)
  have y0 : Yd 1970 = 719528 := by decide +kernel
  have g := Gd_le y m (by omega) (by omega)
  have l := Lg_le y m
  rw [date_Number.j1]
  rw [if_neg (by decide), years_is y (by omega) (by omega), years_is 1970 (by omega) (by omega), gone_is y m (by omega) (by omega) (by omega)]
  simp only [Option.bind_some, y0]
  have e : wrap64 ((wrap64 ((wrap64 ((wrap64 ((wrap64 ((wrap64 ((wrap64 ((wrap64 (Yd y - 719528)) + Gd y m)) + d)) - 1)) * 86400)) + (wrap64 (h * 3600)))) + (wrap64 (i * 60)))) + s) = Sec y m d h i s := by
    rw [w64 (n := Yd y - 719528) (by omega) (by omega), w64 (n := Yd y - 719528 + Gd y m) (by omega) (by omega), w64 (n := Yd y - 719528 + Gd y m + d) (by omega) (by omega), w64 (n := Yd y - 719528 + Gd y m + d - 1) (by omega) (by omega), w64 (n := (Yd y - 719528 + Gd y m + d - 1) * 86400) (by omega) (by omega), w64 (n := h * 3600) (by omega) (by omega), w64 (n := i * 60) (by omega) (by omega), w64 (n := (Yd y - 719528 + Gd y m + d - 1) * 86400 + h * 3600) (by omega) (by omega), w64 (n := (Yd y - 719528 + Gd y m + d - 1) * 86400 + h * 3600 + i * 60) (by omega) (by omega)]
    unfold Sec at r ⊢
    rw [w64 (by omega) (by omega)]
  rw [e, moment_is]
  simp only [Option.bind_some]
  unfold Num
  simp only [a, b, true_and]
  by_cases hc : 0 ≤ Sec y m d h i s ∧ Sec y m d h i s ≤ 1099511627776
  · rw [if_pos (by simpa using hc), if_pos hc]
  · rw [if_neg (by simpa using hc), if_neg hc]
theorem num_j1' (k : Nat) (y m d h i s w : Int) : date_Number.j1 (k + 1) true y m d h i s w = some (0, 1) := by
  rw [date_Number.j1, if_pos rfl]
theorem num_j0 (k : Nat) (y m d h i s w : Int) (a : Av y m d = true) : date_Number.j0 (k + 2) false y m d h i s w = some (Num y m d h i s) := by
  rw [date_Number.j0, if_neg (by decide)]
  simp only [within_is, Option.bind_some]
  by_cases h1 : 0 ≤ h ∧ h ≤ 23
  · rw [if_pos (by simpa using h1)]
    by_cases h2 : 0 ≤ i ∧ i ≤ 59
    · rw [if_pos (by simpa using h2)]
      by_cases h3 : 0 ≤ s ∧ s ≤ 59
      · rw [show (!decide (0 ≤ s ∧ s ≤ 59)) = false by simp [h3]]
        exact num_j1 k y m d h i s w a (by simp [Bv, h1, h2, h3])
      · rw [show (!decide (0 ≤ s ∧ s ≤ 59)) = true by simp [h3], num_j1']
        rw [Num, if_neg]
        rintro ⟨_, b, _⟩; simp only [Bv, decide_eq_true_eq] at b; omega
    · rw [if_neg (by simpa using h2), num_j1', Num, if_neg]
      rintro ⟨_, b, _⟩; simp only [Bv, decide_eq_true_eq] at b; omega
  · rw [if_neg (by simpa using h1), num_j1', Num, if_neg]
    rintro ⟨_, b, _⟩; simp only [Bv, decide_eq_true_eq] at b; omega
theorem num_j0' (k : Nat) (y m d h i s w : Int) : date_Number.j0 (k + 1) true y m d h i s w = some (0, 1) := by
  rw [date_Number.j0, if_pos rfl]
theorem num_not {y m d h i s : Int} (a : ¬ (1970 ≤ y ∧ y ≤ 40000 ∧ 1 ≤ m ∧ m ≤ 12 ∧ 1 ≤ d ∧ d ≤ Lg y m)) : Num y m d h i s = (0, 1) := by
  rw [Num, if_neg]
  rintro ⟨b, _⟩; simp only [Av, decide_eq_true_eq] at b; exact a b
/-- The program's number of a time. -/
theorem number_is (k : Nat) (hk : 2 ≤ k) (y m d h i s w : Int) : date_Number.f k y m d h i s w = some (Num y m d h i s) := by
  obtain ⟨k, rfl⟩ : ∃ k', k = k' + 2 := ⟨k - 2, by omega⟩
  unfold date_Number.f
  simp only [within_is, Option.bind_some]
  by_cases h1 : 1970 ≤ y ∧ y ≤ 40000
  · rw [if_pos (by simpa using h1)]
    by_cases h2 : 1 ≤ m ∧ m ≤ 12
    · rw [if_pos (by simpa using h2), long_is y m (by omega) (by omega) (by omega)]
      simp only [Option.bind_some]
      by_cases h3 : 1 ≤ d ∧ d ≤ Lg y m
      · rw [show (!decide (1 ≤ d ∧ d ≤ Lg y m)) = false by simp [h3]]
        exact num_j0 k y m d h i s w (by simp [Av, h1, h2, h3])
      · rw [show (!decide (1 ≤ d ∧ d ≤ Lg y m)) = true by simp [h3], num_j0', num_not (by omega)]
    · rw [if_neg (by simpa using h2), num_j0', num_not (by omega)]
  · rw [if_neg (by simpa using h1), num_j0', num_not (by omega)]
end
section
/- The number of a time, as the document reckons it. -/

/-! ### The document's -/
theorem refNum_l1 (y m d h i s w : Int) (a : Av y m d = true) (b : Bv h i s = true) : ∀ (j k : Nat) (n m' : Int), m' + j = m → 1 ≤ m' → n = d - 1 + Yd y - 719528 + Gd y m' → bulletinref22_Number.l1 (j + k + 2) n m' y m d h i s w = some (Num y m d h i s) := by
  have r := sec_range a b
  have a' := a; have b' := b
  simp only [Av, Bv, decide_eq_true_eq] at a' b'
  have y1 := Yd_mono 1970 y (by omega) (by omega)
  have y0 : Yd 1970 = 719528 := by decide +kernel
  have l := Lg_le y m
  intro j
  induction j with
  | zero =>
    intro k n m' hm hm1 hn
    obtain rfl : m' = m := by omega
    have g := Gd_le y m' (by omega) (by omega)
    rw [bulletinref22_Number.l1, if_neg (by omega)]
    have e : wrap64 ((wrap64 ((wrap64 ((wrap64 (86400 * n)) + (wrap64 (3600 * h)))) + (wrap64 (60 * i)))) + s) = Sec y m' d h i s := by
      rw [w64 (n := 86400 * n) (by omega) (by omega), w64 (n := 3600 * h) (by omega) (by omega), w64 (n := 60 * i) (by omega) (by omega), w64 (n := 86400 * n + 3600 * h) (by omega) (by omega), w64 (n := 86400 * n + 3600 * h + 60 * i) (by omega) (by omega)]
      unfold Sec at r ⊢
      rw [w64 (by omega) (by omega)]
      omega
    rw [e, refMoment_is]
    simp only [Option.bind_some]
    unfold Num
    simp only [a, b, true_and]
    by_cases hc : 0 ≤ Sec y m' d h i s ∧ Sec y m' d h i s ≤ 1099511627776
    · rw [if_pos (by simpa using hc), if_pos hc]
    · rw [if_neg (by simpa using hc), if_neg hc]
  | succ j ih =>
    intro k n m' hm hm1 hn
    have g := Gd_le y m' (by omega) (by omega)
    have g1 := Gd_next y m' (by omega) (by omega)
    have l' := Lg_le y m'
    rw [show j + 1 + k + 2 = (j + k + 2) + 1 by omega, bulletinref22_Number.l1, if_pos (by omega), refLong_is y m' (by omega) _ (by omega)]
    simp only [Option.bind_some]
    rw [w64 (n := n + Lg y m') (by omega) (by omega), w64 (n := m' + 1) (by omega) (by omega)]
    exact ih k _ _ (by omega) (by omega) (by omega)
theorem refNum_l0 (y m d h i s w : Int) (a : Av y m d = true) (b : Bv h i s = true) : ∀ (j k : Nat) (n y' : Int), y' + j = y → 1970 ≤ y' → n = d - 1 + Yd y' - 719528 → bulletinref22_Number.l0 (j + k + 16) n y' y m d h i s w = some (Num y m d h i s) := by
  have a' := a
  simp only [Av, decide_eq_true_eq] at a'
  have l := Lg_le y m
  intro j
  induction j with
  | zero =>
    intro k n y' hm hm1 hn
    obtain rfl : y' = y := by omega
    have := refNum_l1 y' m d h i s w a b (m - 1).toNat (k + 16 - 3 - (m - 1).toNat) n 1 (by omega) (by omega) (by rw [Gd_one]; omega)
    rw [show (m - 1).toNat + (k + 16 - 3 - (m - 1).toNat) + 2 = k + 15 by omega] at this
    rw [show 0 + k + 16 = k + 15 + 1 by omega, bulletinref22_Number.l0, if_neg (by omega)]
    exact this
  | succ j ih =>
    intro k n y' hm hm1 hn
    have y1 := Yd_mono 1970 y' (by omega) (by omega)
    have y0 : Yd 1970 = 719528 := by decide +kernel
    have y2 := Yd_next y' (by omega)
    have y3 := Yl_or y'
    rw [show j + 1 + k + 16 = (j + k + 16) + 1 by omega, bulletinref22_Number.l0, if_pos (by omega), refYear_is y' (by omega)]
    simp only [Option.bind_some]
    rw [w64 (n := n + Yl y') (by omega) (by omega), w64 (n := y' + 1) (by omega) (by omega)]
    exact ih k _ _ (by omega) (by omega) (by omega)
theorem refNum_j1 (k : Nat) (hk : 60000 ≤ k) (y m d h i s w : Int) (a : Av y m d = true) (b : Bv h i s = true) : bulletinref22_Number.j1 (k + 1) false y m d h i s w = some (Num y m d h i s) := by
  have a' := a
  simp only [Av, decide_eq_true_eq] at a'
  have l := Lg_le y m
  rw [bulletinref22_Number.j1, if_neg (by decide), w64 (n := d - 1) (by omega) (by omega)]
  have := refNum_l0 y m d h i s w a b (y - 1970).toNat (k - 16 - (y - 1970).toNat) (d - 1) 1970 (by omega) (by omega) (by rw [show Yd 1970 = 719528 by decide +kernel]; omega)
  rw [show (y - 1970).toNat + (k - 16 - (y - 1970).toNat) + 16 = k by omega] at this
  exact this
theorem refNum_j1' (k : Nat) (y m d h i s w : Int) : bulletinref22_Number.j1 (k + 1) true y m d h i s w = some (0, 1) := by
  rw [bulletinref22_Number.j1, if_pos rfl]
theorem refNum_j0' (k : Nat) (y m d h i s w : Int) : bulletinref22_Number.j0 (k + 1) true y m d h i s w = some (0, 1) := by
  rw [bulletinref22_Number.j0, if_pos rfl]
theorem num_notB {y m d h i s : Int} (a : ¬ (0 ≤ h ∧ h ≤ 23 ∧ 0 ≤ i ∧ i ≤ 59 ∧ 0 ≤ s ∧ s ≤ 59)) : Num y m d h i s = (0, 1) := by
  rw [Num, if_neg]
  rintro ⟨_, b, _⟩; simp only [Bv, decide_eq_true_eq] at b; exact a b
theorem refNum_j0 (k : Nat) (hk : 60000 ≤ k) (y m d h i s w : Int) (a : Av y m d = true) : bulletinref22_Number.j0 (k + 2) false y m d h i s w = some (Num y m d h i s) := by
  rw [bulletinref22_Number.j0, if_neg (by decide)]
  by_cases h1 : h < 0
  · rw [if_pos h1, refNum_j1', num_notB (by omega)]
  rw [if_neg h1]
  by_cases h2 : h > 23
  · rw [if_pos h2, refNum_j1', num_notB (by omega)]
  rw [if_neg h2]
  by_cases h3 : i < 0
  · rw [if_pos h3, refNum_j1', num_notB (by omega)]
  rw [if_neg h3]
  by_cases h4 : i > 59
  · rw [if_pos h4, refNum_j1', num_notB (by omega)]
  rw [if_neg h4]
  by_cases h5 : s < 0
  · rw [if_pos h5, refNum_j1', num_notB (by omega)]
  rw [if_neg h5]
  by_cases h6 : s > 59
  · rw [decide_eq_true h6, refNum_j1', num_notB (by omega)]
  rw [decide_eq_false h6]
  exact refNum_j1 k hk y m d h i s w a (by simp only [Bv, decide_eq_true_eq]; omega)
/-- The document's number of a time. -/
theorem refNumber_is (k : Nat) (hk : 70000 ≤ k) (y m d h i s w : Int) : bulletinref22_Number.f k y m d h i s w = some (Num y m d h i s) := by
  obtain ⟨k, rfl⟩ : ∃ k', k = k' + 2 := ⟨k - 2, by omega⟩
  unfold bulletinref22_Number.f
  by_cases h1 : y < 1970
  · rw [if_pos h1, refNum_j0', num_not (by omega)]
  rw [if_neg h1]
  by_cases h2 : y > 40000
  · rw [if_pos h2, refNum_j0', num_not (by omega)]
  rw [if_neg h2]
  by_cases h3 : m < 1
  · rw [if_pos h3, refNum_j0', num_not (by omega)]
  rw [if_neg h3]
  by_cases h4 : m > 12
  · rw [if_pos h4, refNum_j0', num_not (by omega)]
  rw [if_neg h4]
  by_cases h5 : d < 1
  · rw [if_pos h5, refNum_j0', num_not (by omega)]
  rw [if_neg h5, refLong_is y m (by omega) _ (by omega)]
  simp only [Option.bind_some]
  by_cases h6 : d > Lg y m
  · rw [decide_eq_true h6, refNum_j0', num_not (by omega)]
  rw [decide_eq_false h6]
  exact refNum_j0 k (by omega) y m d h i s w (by simp only [Av, decide_eq_true_eq]; omega)
end
section
open Go.Lib
/- The words of a text, by its bytes alone: what glyph.Words' runes give. -/

/-- Is a byte a blank? -/
def bw (c : UInt8) : Bool := c.toNat == 32 || c.toNat == 9 || c.toNat == 13 || c.toNat == 10
def wordsB : List UInt8 → List UInt8 → List (List UInt8)
  | cur, [] => if cur = [] then [] else [cur]
  | cur, c :: l => if bw c then (if cur = [] then wordsB [] l else cur :: wordsB [] l) else wordsB (cur ++ [c]) l
theorem wordsB_run : ∀ (xs : List UInt8) (cur l : List UInt8), (∀ c ∈ xs, bw c = false) → wordsB cur (xs ++ l) = wordsB (cur ++ xs) l
  | [], cur, l, _ => by simp
  | x :: xs, cur, l, h => by
    rw [List.cons_append, wordsB, h x (by simp)]
    simp only [Bool.false_eq_true, if_false]
    rw [wordsB_run xs _ l (fun c hc => h c (by simp [hc]))]
    simp

theorem get_at (s : ByteArray) (i : Nat) (h : i < s.size) : s.data.toList[i]? = some (s.get! i) := by
  have h' : i < s.data.size := h
  rw [Array.getElem?_toList, Array.getElem?_eq_getElem h']
  simp [ByteArray.get!, getElem!_pos s.data i h']
theorem blank_at (s : ByteArray) (pos : Nat) (hlt : pos < s.size) (hb : glyph_Words.blank (Utf8.decode s pos).1 = true) : (Utf8.decode s pos).2 = 1 ∧ ∃ c, s.data.toList.drop pos = c :: s.data.toList.drop (pos + 1) ∧ bw c = true := by
  have e := decode_at s pos
  rcases decodeN_shape (s.size - pos) (s.get! pos).toNat (s.get! (pos + 1)).toNat (s.get! (pos + 2)).toNat (s.get! (pos + 3)).toNat with ⟨h, hh⟩ | ⟨_, _, _, h, hh⟩ | ⟨_, _, _, _, h, _, hh⟩ | ⟨_, _, _, _, _, h, _, hh⟩ | hh
  · rw [hh] at e
    rw [e] at hb ⊢
    refine ⟨rfl, s.get! pos, ?_, by simpa [glyph_Words.blank, bw] using hb⟩
    have hg := get_at s pos hlt
    have hl : pos < s.data.toList.length := (List.getElem?_eq_some_iff.1 hg).1
    rw [List.drop_eq_getElem_cons hl, (List.getElem?_eq_some_iff.1 hg).2]
  all_goals
    rw [hh] at e
    rw [e] at hb
    simp [glyph_Words.blank] at hb <;> omega
theorem plain_at (s : ByteArray) (pos : Nat) (hlt : pos < s.size) (hb : glyph_Words.blank (Utf8.decode s pos).1 = false) : ∀ c ∈ (s.data.toList.drop pos).take (Utf8.decode s pos).2, bw c = false := by
  have e := decode_at s pos
  have big : ∀ x : UInt8, 128 ≤ x.toNat → bw x = false := by
    intro x hx
    simp only [bw, Bool.or_eq_false_iff, beq_eq_false_iff_ne]
    omega
  have one : ∀ c, c ∈ (s.data.toList.drop pos).take 1 → c = s.get! pos := by
    intro c hc
    have hg := get_at s pos hlt
    have hl : pos < s.data.toList.length := (List.getElem?_eq_some_iff.1 hg).1
    rw [List.drop_eq_getElem_cons hl, (List.getElem?_eq_some_iff.1 hg).2] at hc
    simpa using hc
  have each : ∀ w c, pos + w ≤ s.size → c ∈ (s.data.toList.drop pos).take w → ∃ j, j < w ∧ c = s.get! (pos + j) := by
    intro w c hw hc
    obtain ⟨j, hj⟩ := List.mem_iff_getElem?.1 hc
    rw [List.getElem?_take] at hj
    split at hj
    · rename_i hjw
      rw [List.getElem?_drop, get_at s (pos + j) (by omega)] at hj
      exact ⟨j, hjw, (Option.some.inj hj).symm⟩
    · cases hj
  rcases decodeN_shape (s.size - pos) (s.get! pos).toNat (s.get! (pos + 1)).toNat (s.get! (pos + 2)).toNat (s.get! (pos + 3)).toNat with ⟨h, hh⟩ | ⟨h0, h1, h2, h, hh⟩ | ⟨h0, h1, h2, h3, h, _, hh⟩ | ⟨h0, h1, h2, h3, h4, h, _, hh⟩ | hh
  · rw [hh] at e
    rw [e] at hb ⊢
    intro c hc
    rw [one c hc]
    simpa [glyph_Words.blank, bw] using hb
  · rw [hh] at e
    rw [e]
    intro c hc
    obtain ⟨j, hj, rfl⟩ := each 2 c (by omega) hc
    have : j = 0 ∨ j = 1 := by omega
    rcases this with rfl | rfl <;> exact big _ (by first | omega | (simp only [Nat.add_zero]; omega))
  · rw [hh] at e
    rw [e]
    intro c hc
    obtain ⟨j, hj, rfl⟩ := each 3 c (by omega) hc
    have : j = 0 ∨ j = 1 ∨ j = 2 := by omega
    rcases this with rfl | rfl | rfl <;> exact big _ (by first | omega | (simp only [Nat.add_zero]; omega))
  · rw [hh] at e
    rw [e]
    intro c hc
    obtain ⟨j, hj, rfl⟩ := each 4 c (by omega) hc
    have : j = 0 ∨ j = 1 ∨ j = 2 ∨ j = 3 := by omega
    rcases this with rfl | rfl | rfl | rfl <;> exact big _ (by first | omega | (simp only [Nat.add_zero]; omega))
  · rw [hh] at e
    rw [e]
    intro c hc
    rw [one c hc]
    by_cases h : (s.get! pos).toNat < 128
    · rw [decodeN, if_pos h] at hh
      simp at hh
      omega
    · exact big _ (by omega)

theorem spansB_eq (s : ByteArray) : ∀ (f pos : Nat) (st : Option Nat) (acc : List (Nat × Nat)), s.size ≤ pos + f → pos ≤ s.size → (∀ a, st = some a → a < pos) →
    acc.map (fun p => pieceU s.data.toList p.1 p.2) ++ wordsB (openPiece s.data.toList st pos) (s.data.toList.drop pos) = (closeSpans s (spansFromP glyph_Words.blank s f pos st acc)).map (fun p => pieceU s.data.toList p.1 p.2)
  | 0, pos, st, acc, h, hp, hst => by
    obtain rfl : pos = s.size := by omega
    have hd : s.data.toList.drop s.size = [] := List.drop_eq_nil_of_le (by rw [← size_eq]; exact Nat.le_refl _)
    rw [hd, wordsB]
    cases st with
    | none => simp [spansFromP, closeSpans, openPiece]
    | some a =>
      have := pieceU_ne s.data.toList a s.size (hst a rfl) (by rw [← size_eq]; exact Nat.le_refl _)
      simp [spansFromP, closeSpans, openPiece, this]
  | f + 1, pos, st, acc, h, hp, hst => by
    by_cases hlt : pos < s.size
    · have hw := width_pos s pos
      have hwn : pos + (Utf8.decode s pos).2 ≤ s.size := by
        have := decodeN_le_n' (s.size - pos) (s.get! pos).toNat (s.get! (pos + 1)).toNat (s.get! (pos + 2)).toNat (s.get! (pos + 3)).toNat (by omega)
        rw [← decode_at] at this
        omega
      simp only [spansFromP, if_pos hlt]
      cases hsp : glyph_Words.blank (Utf8.decode s pos).1 with
      | true =>
        obtain ⟨w1, c, hc, hbw⟩ := blank_at s pos hlt hsp
        simp only [if_true, w1, hc, wordsB, hbw]
        cases st with
        | none =>
          have ih := spansB_eq s f (pos + 1) none acc (by omega) (by omega) (fun a h => by cases h)
          simpa [openPiece] using ih
        | some a =>
          have hpn := pieceU_ne s.data.toList a pos (hst a rfl) (by rw [← size_eq]; omega)
          have ih := spansB_eq s f (pos + 1) none (acc ++ [(a, pos)]) (by omega) (by omega) (fun a h => by cases h)
          simpa [openPiece, hpn] using ih
      | false =>
        simp only [Bool.false_eq_true, if_false]
        have hpl := plain_at s pos hlt hsp
        have hsplit : s.data.toList.drop pos = (s.data.toList.drop pos).take (Utf8.decode s pos).2 ++ s.data.toList.drop (pos + (Utf8.decode s pos).2) := by
          rw [← List.drop_drop]; exact (List.take_append_drop _ _).symm
        rw [hsplit, wordsB_run _ _ _ hpl]
        cases st with
        | none =>
          have ih := spansB_eq s f (pos + (Utf8.decode s pos).2) (some pos) acc (by omega) hwn (fun a h => by cases h; omega)
          have e : ([] : List UInt8) ++ (s.data.toList.drop pos).take (Utf8.decode s pos).2 = pieceU s.data.toList pos (pos + (Utf8.decode s pos).2) := by
            unfold pieceU
            rw [List.nil_append, Nat.add_sub_cancel_left]
          simp only [openPiece] at ih ⊢
          rw [e]
          exact ih
        | some a =>
          have ih := spansB_eq s f (pos + (Utf8.decode s pos).2) (some a) acc (by omega) hwn (fun b h => by cases h; have := hst a rfl; omega)
          simp only [openPiece] at ih ⊢
          rw [pieceU_grow _ _ _ _ (Nat.le_of_lt (hst a rfl))]
          exact ih
    · obtain rfl : pos = s.size := by omega
      have hd : s.data.toList.drop s.size = [] := List.drop_eq_nil_of_le (by rw [← size_eq]; exact Nat.le_refl _)
      rw [hd, wordsB, spansFromP_end _ s _ _ _ _ hlt]
      cases st with
      | none => simp [closeSpans, openPiece]
      | some a =>
        have := pieceU_ne s.data.toList a s.size (hst a rfl) (by rw [← size_eq]; exact Nat.le_refl _)
        simp [closeSpans, openPiece, this]
/-- The words of a text are those of its bytes. -/
theorem words_eq (s : ByteArray) : (goFieldsP glyph_Words.blank s).map (·.data.toList) = wordsB [] s.data.toList := by
  have h := spansB_eq s s.size 0 none [] (by omega) (by omega) (fun a h => by cases h)
  simp only [openPiece, List.map_nil, List.nil_append, List.drop_zero] at h
  rw [h]
  unfold goFieldsP spansOfP
  rw [List.map_map]
  apply List.map_congr_left
  intro p _
  simp [pieceU, ByteArray.data_extract, List.extract]
theorem of_lists (l : List ByteArray) (m : List (List UInt8)) (h : l.map (·.data.toList) = m) : l = m.map fun x => ⟨x.toArray⟩ := by
  subst h
  rw [List.map_map]
  conv => lhs; rw [← List.map_id l]
  apply List.map_congr_left
  intro x _
  simp
theorem words_is (s : ByteArray) : goFieldsP glyph_Words.blank s = (wordsB [] s.data.toList).map fun x => ⟨x.toArray⟩ := of_lists _ _ (words_eq s)
end
section
/- What is written of a moment: the program's texts, and the document's. -/

/-- A text of bytes. -/
def bb (l : List UInt8) : ByteArray := ⟨l.toArray⟩
theorem bb_append (a b : List UInt8) : bb a ++ bb b = bb (a ++ b) := by
  apply ByteArray.ext
  simp [bb, ByteArray.data_append]
theorem bb_size (a : List UInt8) : (bb a).size = a.length := by simp [bb, ByteArray.size]
theorem bb_list (a : List UInt8) : (bb a).data.toList = a := by simp [bb]
/-- A number's digits. -/
def num (n : Int) : ByteArray := bb (Lib.itoa n)
theorem itoa_is (n : Int) (h0 : 0 ≤ n) (h1 : n ≤ 1000000) : strconv_Itoa.f n = some (num n) := by
  unfold strconv_Itoa.f
  rw [if_pos (by omega), if_pos (by omega)]; rfl
theorem decDigits_len : ∀ (j n : Nat), n < 10 ^ j → (Lib.decDigits n).length ≤ j + 1
  | 0, n, h => by
    rw [Lib.decDigits_one (by simp at h; omega)]; simp
  | j + 1, n, h => by
    by_cases hn : n < 10
    · rw [Lib.decDigits_one hn]; simp
    · rw [Lib.decDigits, dif_neg hn]
      have := decDigits_len j (n / 10) (by rw [Nat.pow_succ] at h; omega)
      simp; omega
theorem num_size (n : Int) (h0 : 0 ≤ n) (h1 : n ≤ 1000000) : (num n).size ≤ 8 := by
  unfold num
  rw [bb_size, Lib.itoa, if_neg (by omega)]
  exact decDigits_len 7 n.toNat (by omega)
/-- Two digits. -/
def twoB (n : Int) : ByteArray := bb [UInt8.ofNat (48 + n.toNat / 10), UInt8.ofNat (48 + n.toNat % 10)]
theorem two_is (n : Int) (h0 : 0 ≤ n) (h1 : n < 100) : date_two.f n = some (twoB n) := by
  unfold date_two.f twoB strOfNums bb
  rw [td n h0, tm n h0, w64 (n := n / 10) (by omega) (by omega), w64 (n := 48 + n / 10) (by omega) (by omega), w64 (n := 48 + n % 10) (by omega) (by omega)]
  simp only [List.map_cons, List.map_nil]
  rw [show ((48 + n / 10) % 256).toNat = 48 + n.toNat / 10 by omega, show ((48 + n % 10) % 256).toNat = 48 + n.toNat % 10 by omega]
theorem twoB_size (n : Int) : (twoB n).size = 2 := by unfold twoB; rw [bb_size]; rfl
def clockB (h i s : Int) : ByteArray := (((twoB h ++ (⟨#[58]⟩ : ByteArray)) ++ twoB i) ++ (⟨#[58]⟩ : ByteArray)) ++ twoB s
theorem one_size (x : UInt8) : (⟨#[x]⟩ : ByteArray).size = 1 := rfl
theorem clockB_size (h i s : Int) : (clockB h i s).size = 8 := by
  unfold clockB
  simp only [ByteArray.size_append, twoB_size, one_size]
theorem clock_is (y m d h i s w : Int) (h0 : 0 ≤ h) (h1 : h < 24) (i0 : 0 ≤ i) (i1 : i < 60) (s0 : 0 ≤ s) (s1 : s < 60) : date_clock.f y m d h i s w = some (clockB h i s) := by
  unfold date_clock.f
  rw [two_is h h0 (by omega), two_is i i0 (by omega), two_is s s0 (by omega)]
  simp only [Option.bind_some, twoB_size]
  rw [if_pos (by omega), if_pos (by omega), if_pos (by omega), if_pos (by omega)]
  rfl
def weekB (w : Int) : ByteArray := rdOf ByteArray.empty Tab0 w
def monthB (m : Int) : ByteArray := rdOf ByteArray.empty Tab1 (m - 1)
theorem weekB_size (w : Int) (h0 : 0 ≤ w) (h1 : w < 7) : (weekB w).size = 3 := by
  have : w = 0 ∨ w = 1 ∨ w = 2 ∨ w = 3 ∨ w = 4 ∨ w = 5 ∨ w = 6 := by omega
  rcases this with h | h | h | h | h | h | h <;> subst h <;> decide +kernel
theorem monthB_size (m : Int) (h1 : 1 ≤ m) (h2 : m ≤ 12) : (monthB m).size = 3 := by
  have : m = 1 ∨ m = 2 ∨ m = 3 ∨ m = 4 ∨ m = 5 ∨ m = 6 ∨ m = 7 ∨ m = 8 ∨ m = 9 ∨ m = 10 ∨ m = 11 ∨ m = 12 := by omega
  rcases this with h | h | h | h | h | h | h | h | h | h | h | h <;> subst h <;> decide +kernel
def mailB (y m d h i s w : Int) : ByteArray := ((((((((weekB w ++ (⟨#[44, 32]⟩ : ByteArray)) ++ num d) ++ (⟨#[32]⟩ : ByteArray)) ++ monthB m) ++ (⟨#[32]⟩ : ByteArray)) ++ num y) ++ (⟨#[32]⟩ : ByteArray)) ++ clockB h i s) ++ (⟨#[32, 43, 48, 48, 48, 48]⟩ : ByteArray)
def lineB (y m d h i s w : Int) : ByteArray := (((((((weekB w ++ (⟨#[32]⟩ : ByteArray)) ++ monthB m) ++ (⟨#[32]⟩ : ByteArray)) ++ (if d < 10 then (⟨#[32]⟩ : ByteArray) ++ num d else num d)) ++ (⟨#[32]⟩ : ByteArray)) ++ clockB h i s) ++ (⟨#[32]⟩ : ByteArray)) ++ num y
/-- What a moment's year, month and day are, within what is written. -/
theorem Is.small {N y m d : Int} (i : Is N y m d) (h0 : 719528 ≤ N) (h1 : N ≤ 13445357) : 1970 ≤ y ∧ y ≤ 40000 ∧ 1 ≤ m ∧ m ≤ 12 ∧ 1 ≤ d ∧ d ≤ Lg y m := by
  obtain ⟨a1, a2, a3, a4, a5, a6, a7, a8⟩ := i
  have b := Gd_next y m a4 a5
  have l := Lg_le y m
  have c0 : Yd 1970 = 719528 := by decide +kernel
  have c1 : Yd 40001 = 14609861 ∨ Yd 40001 > 13445357 := by right; decide +kernel
  refine ⟨?_, ?_, a4, a5, by omega, by omega⟩
  · by_cases h : 1970 ≤ y
    · exact h
    · have := Yd_mono (y + 1) 1970 (by omega) (by omega); omega
  · by_cases h : y ≤ 40000
    · exact h
    · have := Yd_mono 40001 y (by omega) (by omega)
      have c2 : Yd 40001 > 13445357 := by decide +kernel
      omega
end
section
/- Reading: a text's parts at a byte; what so many digits are worth; a mail's date read. -/

/-! ### A text cut at a byte -/
def splitC (c : UInt8) : List UInt8 → List UInt8 → List (List UInt8)
  | cur, [] => [cur]
  | cur, x :: l => if x = c then cur :: splitC c [] l else splitC c (cur ++ [x]) l
theorem splitC_run (c : UInt8) : ∀ (xs cur l : List UInt8), (∀ x ∈ xs, x ≠ c) → splitC c cur (xs ++ l) = splitC c (cur ++ xs) l
  | [], cur, l, _ => by simp
  | x :: xs, cur, l, h => by
    rw [List.cons_append, splitC, if_neg (h x (by simp)), splitC_run c xs _ l (fun y hy => h y (by simp [hy]))]
    simp
theorem split_is (c : UInt8) : ∀ (n : Nat) (s : List UInt8), s.length ≤ n → Lib.splitK [c] 0 (Lib.count s [c]) s = splitC c [] s := by
  intro n
  induction n with
  | zero =>
    intro s h
    obtain rfl : s = [] := List.eq_nil_of_length_eq_zero (by omega)
    rfl
  | succ n ih =>
    intro s h
    have hi := Lib.index_one s c
    rcases Int.lt_or_le (Lib.indexByte s c) 0 with h0 | h0
    · have hm : Lib.indexByte s c = -1 := by have := Lib.indexByte_ge s c; omega
      rw [Lib.count_miss (hi.trans hm), Lib.splitK]
      have hn := Lib.indexByte_none hm
      have := splitC_run c s [] [] (fun x hx e => by
        obtain ⟨k, hk⟩ := List.mem_iff_getElem?.1 hx
        exact hn k (by rw [hk, e]))
      rw [List.append_nil] at this
      rw [this]
      simp [splitC]
    · obtain ⟨o, ho⟩ : ∃ o : Nat, Lib.indexByte s c = o := ⟨(Lib.indexByte s c).toNat, by omega⟩
      obtain ⟨h1, h2⟩ := Lib.indexByte_some ho
      have hix : Lib.index s [c] = o := hi.trans ho
      rw [Lib.count_hit (by simp) hix, show 1 + Lib.count (s.drop (o + [c].length)) [c] = Lib.count (s.drop (o + 1)) [c] + 1 by simp; omega, Lib.splitK, if_neg (by rw [hix]; simp only [beq_iff_eq]; omega), hix]
      have hol : o < s.length := (List.getElem?_eq_some_iff.1 h1).1
      simp only [Int.toNat_natCast, Nat.add_zero, List.length_cons, List.length_nil]
      rw [ih (s.drop (o + 1)) (by rw [List.length_drop]; omega)]
      have hs : s = s.take o ++ c :: s.drop (o + 1) := by
        conv => lhs; rw [← List.take_append_drop o s, List.drop_eq_getElem_cons hol, (List.getElem?_eq_some_iff.1 h1).2]
      conv => rhs; rw [hs]
      rw [splitC_run c (s.take o) [] _ (fun x hx e => by
        obtain ⟨k, hk⟩ := List.mem_iff_getElem?.1 hx
        rw [List.getElem?_take] at hk
        split at hk
        · rename_i hko
          exact h2 k hko (by rw [hk, e])
        · cases hk)]
      simp [splitC]
theorem splitB_is (c : UInt8) (s : ByteArray) : Lib.splitB (⟨#[c]⟩ : ByteArray) 0 (Lib.countB s (⟨#[c]⟩ : ByteArray)) s = (splitC c [] s.data.toList).map bb := by
  have h := of_lists _ _ ((Lib.splitB_data (⟨#[c]⟩ : ByteArray) 0 (Lib.countB s (⟨#[c]⟩ : ByteArray)) s).trans (split_is c _ s.data.toList (Nat.le_refl _)))
  rw [h]
  rfl

/-! ### What digits are worth -/
def dig (c : UInt8) : Bool := decide (48 ≤ c.toNat ∧ c.toNat ≤ 57)
def step10 (v : Nat) (c : UInt8) : Nat := 10 * v + (c.toNat - 48)
def worth (v : Nat) (l : List UInt8) : Nat := l.foldl step10 v
theorem worth_nil (v : Nat) : worth v [] = v := List.foldl_nil
theorem worth_cons (v : Nat) (c : UInt8) (l : List UInt8) : worth v (c :: l) = worth (10 * v + (c.toNat - 48)) l := List.foldl_cons
theorem worth_append (a b : List UInt8) (v : Nat) : worth v (a ++ b) = worth (worth v a) b := List.foldl_append
theorem worth_one (v : Nat) (c : UInt8) (d : Nat) (h : c.toNat - 48 = d) : worth v [c] = 10 * v + d := by rw [worth_cons, worth_nil, h]
theorem dig_of (n : Nat) (h : n < 10) : dig (UInt8.ofNat (48 + n)) = true ∧ (UInt8.ofNat (48 + n)).toNat - 48 = n := by
  have : n = 0 ∨ n = 1 ∨ n = 2 ∨ n = 3 ∨ n = 4 ∨ n = 5 ∨ n = 6 ∨ n = 7 ∨ n = 8 ∨ n = 9 := by omega
  rcases this with h | h | h | h | h | h | h | h | h | h <;> subst h <;> decide
theorem decDigits_worth (n : Nat) : worth 0 (Lib.decDigits n) = n ∧ ∀ c ∈ Lib.decDigits n, dig c = true := by
  induction n using Nat.strongRecOn with
  | _ n ih =>
    by_cases h : n < 10
    · rw [Lib.decDigits_one h]
      refine ⟨?_, fun c hc => ?_⟩
      · rw [worth_one 0 _ n (dig_of n h).2]; omega
      · obtain rfl : c = UInt8.ofNat (48 + n) := by simpa using hc
        exact (dig_of n h).1
    · have i := ih (n / 10) (by omega)
      have d := dig_of (n % 10) (by omega)
      rw [Lib.decDigits, dif_neg h]
      refine ⟨?_, fun c hc => ?_⟩
      · rw [worth_append, i.1]
        rw [worth_one _ _ _ d.2]
        omega
      · rcases List.mem_append.1 hc with hc | hc
        · exact i.2 c hc
        · obtain rfl : c = UInt8.ofNat (48 + n % 10) := by simpa using hc
          exact d.1
theorem bt_bb (p : List UInt8) (x : UInt8) (l : List UInt8) : bt (bb (p ++ x :: l)) (p.length : Int) = (x.toNat : Int) := by
  unfold bt
  have h : ((p.length : Int)).toNat < (bb (p ++ x :: l)).size := by rw [bb_size]; simp
  rw [dif_pos h]
  have : (bb (p ++ x :: l))[((p.length : Int)).toNat] = x := by
    simp [bb, ByteArray.getElem_eq_getElem_data]
  rw [this]
theorem number_l0 (least most : Int) : ∀ (l p : List UInt8) (v k : Nat), (∀ c ∈ l, dig c = true) → l.length < k → ((p ++ l).length : Int) ≤ most → least ≤ ((p ++ l).length : Int) → (p ++ l).length ≤ 10 → v < 10 ^ p.length →
    date_number.l0 k (bb (p ++ l)) least most (v : Int) ((bb (p ++ l)).size : Int) (p.length : Int) = some (worth v l : Int)
  | [], p, v, k, _, hk, h1, h2, h3, hv => by
    obtain ⟨k, rfl⟩ : ∃ k', k = k' + 1 := ⟨k - 1, by simp at hk; omega⟩
    rw [List.append_nil] at *
    rw [date_number.l0, bb_size, if_neg (by omega), if_neg (by omega), worth_nil]
  | c :: l, p, v, k, hd, hk, h1, h2, h3, hv => by
    obtain ⟨k, rfl⟩ : ∃ k', k = k' + 1 := ⟨k - 1, by simp at hk; omega⟩
    have hc : 48 ≤ c.toNat ∧ c.toNat ≤ 57 := by simpa [dig] using hd c (by simp)
    have hl : (p ++ c :: l).length = p.length + (l.length + 1) := by simp
    have hp : 10 ^ p.length ≤ 10 ^ 10 := Nat.pow_le_pow_right (by omega) (by omega)
    have hp' : (10 : Nat) ^ 10 = 10000000000 := rfl
    rw [date_number.l0, bb_size, if_pos (by omega), if_pos (by omega), if_pos (by omega), bt_bb, if_neg (by omega), if_neg (by omega), if_neg (by omega), w64 (n := 10 * (v : Int)) (by omega) (by omega), w64 (n := 10 * (v : Int) + ((c.toNat : Int) - 48) % 256) (by omega) (by omega), w64 (n := (p.length : Int) + 1) (by omega) (by omega)]
    have ih := number_l0 least most l (p ++ [c]) (10 * v + (c.toNat - 48)) k (fun x hx => hd x (by simp [hx])) (by simp at hk; omega) (by simpa using h1) (by simpa using h2) (by simpa using h3) (by rw [List.length_append, List.length_cons, List.length_nil, Nat.zero_add, Nat.pow_succ]; omega)
    rw [show p ++ [c] ++ l = p ++ c :: l by simp, bb_size] at ih
    rw [show 10 * (v : Int) + ((c.toNat : Int) - 48) % 256 = ((10 * v + (c.toNat - 48) : Nat) : Int) by omega]
    have e : ((p ++ [c]).length : Int) = (p.length : Int) + 1 := by simp
    rw [e] at ih
    rw [ih, worth_cons]
theorem number_digits (k : Nat) (l : List UInt8) (least most : Int) (hd : ∀ c ∈ l, dig c = true) (hk : l.length < k) (h1 : (l.length : Int) ≤ most) (h2 : least ≤ (l.length : Int)) (h3 : l.length ≤ 10) :
    date_number.f k (bb l) least most = some (worth 0 l : Int) := number_l0 least most l [] 0 k hd hk h1 h2 h3 (by simp)
theorem itoa_worth (n : Int) (h : 0 ≤ n) : (worth 0 (Lib.itoa n) : Int) = n ∧ ∀ c ∈ Lib.itoa n, dig c = true := by
  rw [Lib.itoa, if_neg (by omega)]
  have := decDigits_worth n.toNat
  exact ⟨by rw [this.1]; omega, this.2⟩
theorem decDigits_least : ∀ (j n : Nat), 10 ^ j ≤ n → j + 1 ≤ (Lib.decDigits n).length
  | 0, n, h => by
    by_cases hn : n < 10
    · rw [Lib.decDigits_one hn]; simp
    · rw [Lib.decDigits, dif_neg hn]; simp
  | j + 1, n, h => by
    have h1 : (10 : Nat) ^ (j + 1) = 10 * 10 ^ j := by rw [Nat.pow_succ]; omega
    have h2 : 1 ≤ (10 : Nat) ^ j := Nat.one_le_pow _ _ (by omega)
    rw [Lib.decDigits, dif_neg (by omega)]
    have := decDigits_least j (n / 10) (by omega)
    simp; omega
theorem decDigits_most : ∀ (j n : Nat), n < 10 ^ (j + 1) → (Lib.decDigits n).length ≤ j + 1
  | 0, n, h => by rw [Lib.decDigits_one (by simpa using h)]; simp
  | j + 1, n, h => by
    by_cases hn : n < 10
    · rw [Lib.decDigits_one hn]; simp
    · have h1 : (10 : Nat) ^ (j + 1 + 1) = 10 * 10 ^ (j + 1) := by rw [Nat.pow_succ]; omega
      rw [Lib.decDigits, dif_neg hn]
      have := decDigits_most j (n / 10) (by omega)
      simp; omega
theorem dig_plain (c : UInt8) (h : dig c = true) : bw c = false ∧ c ≠ 58 := by
  have hc : 48 ≤ c.toNat ∧ c.toNat ≤ 57 := by simpa [dig] using h
  refine ⟨?_, fun e => by subst e; simp at hc⟩
  simp only [bw, Bool.or_eq_false_iff, beq_eq_false_iff_ne]
  omega
end
section
/- The document's words, folding, parts and digits, by bytes. -/

theorem bb_toList (l : List UInt8) : (bb l).toList = l := by rw [Lib.toList_data, bb_list]
theorem bb_one (p : List UInt8) (c : UInt8) (r : List UInt8) : (bb (p ++ c :: r)).extract p.length (p.length + 1) = bb [c] := by
  apply ByteArray.ext
  have := Lib.extract_data (bb (p ++ c :: r)) p.length (p.length + 1)
  rw [bb_list] at this
  apply Array.ext'
  rw [this, bb_list]
  simp
theorem refWords_l0 : ∀ (rest pre cur : List UInt8) (done : List (List UInt8)) (k : Nat), 2 * rest.length + 4 ≤ k → (pre ++ rest).length ≤ 1000000 → cur.length ≤ pre.length → done.length ≤ pre.length →
    bulletinref06_Words.l0 k (bb (pre ++ rest)) (done.map bb) (bb cur) (pre.length : Int) = some ((done ++ wordsB cur rest).map bb)
  | [], pre, cur, done, k, hk, hl, hc, hd => by
    obtain ⟨k, rfl⟩ : ∃ k', k = k' + 3 := ⟨k - 3, by simp at hk; omega⟩
    rw [List.append_nil] at *
    rw [bulletinref06_Words.l0, bb_size, if_pos (by omega), if_neg (by omega), bulletinref06_Words.j1, if_neg (by decide), bb_toList, w64 (n := (pre.length : Int) + 1) (by omega) (by omega)]
    have fin : ∀ x3 x4, bulletinref06_Words.l0 (k + 1) (bb pre) x3 x4 ((pre.length : Int) + 1) = some x3 := by
      intro x3 x4
      rw [bulletinref06_Words.l0, bb_size, if_neg (by omega)]
    rw [wordsB]
    by_cases hc0 : cur = []
    · rw [if_pos hc0, if_pos hc0, fin, List.append_nil]
    · rw [if_neg hc0, if_neg hc0, if_pos (by rw [List.length_map]; omega), fin]
      simp
  | c :: r, pre, cur, done, k, hk, hl, hc, hd => by
    obtain ⟨k, rfl⟩ : ∃ k', k = k' + 2 := ⟨k - 2, by simp at hk; omega⟩
    have hlen : (pre ++ c :: r).length = pre.length + (r.length + 1) := by simp
    have step : bulletinref06_Words.l0 (k + 2) (bb (pre ++ c :: r)) (done.map bb) (bb cur) (pre.length : Int) = bulletinref06_Words.j1 (k + 1) (bb (pre ++ c :: r)) (done.map bb) (bb cur) (pre.length : Int) (!bw c) := by
      rw [bulletinref06_Words.l0, bb_size, if_pos (by omega), if_pos (by omega), if_pos (by omega), bt_bb]
      have hb : bw c = (c.toNat == 32 || c.toNat == 9 || c.toNat == 13 || c.toNat == 10) := rfl
      by_cases h1 : (c.toNat : Int) = 32
      · rw [if_pos h1, hb, show c.toNat = 32 by omega]; rfl
      rw [if_neg h1]
      by_cases h2 : (c.toNat : Int) = 9
      · rw [if_pos h2, hb, show c.toNat = 9 by omega]; rfl
      rw [if_neg h2]
      by_cases h3 : (c.toNat : Int) = 13
      · rw [if_pos h3, hb, show c.toNat = 13 by omega]; rfl
      rw [if_neg h3]
      congr 1
      rw [hb]
      have e1 : (c.toNat == 32) = false := by simp; omega
      have e2 : (c.toNat == 9) = false := by simp; omega
      have e3 : (c.toNat == 13) = false := by simp; omega
      rw [e1, e2, e3]
      by_cases h4 : c.toNat = 10
      · rw [h4]; rfl
      · have : ((c.toNat : Int) != 10) = true := by simp; omega
        rw [this]; simp [h4]
    have e : (pre.length : Int) + 1 = ((pre ++ [c]).length : Int) := by simp
    have ep : pre ++ c :: r = (pre ++ [c]) ++ r := by simp
    have hk' : 2 * r.length + 4 ≤ k := by simp at hk; omega
    rw [step, bulletinref06_Words.j1, w64 (n := (pre.length : Int) + 1) (by omega) (by omega), wordsB]
    cases hb : bw c with
    | false =>
      rw [if_pos (by decide), if_pos (by omega), if_pos (by omega), bb_size, if_pos (by omega), show ((pre.length : Int)).toNat = pre.length by omega, show ((pre.length : Int) + 1).toNat = pre.length + 1 by omega, bb_one, bb_size, bb_size, if_pos (by simp only [List.length_cons, List.length_nil]; omega), bb_append, e, ep]
      have ih := refWords_l0 r (pre ++ [c]) (cur ++ [c]) done k hk' (by rw [← ep]; exact hl) (by simp; omega) (by simp; omega)
      rw [ih]
      simp
    | true =>
      rw [if_neg (by decide), bb_toList, e, ep, show (⟨#[]⟩ : ByteArray) = bb [] from rfl]
      by_cases hc0 : cur = []
      · rw [if_pos hc0]
        have ih := refWords_l0 r (pre ++ [c]) [] done k hk' (by rw [← ep]; exact hl) (by simp) (by simp; omega)
        rw [ih]
        simp [hc0]
      · rw [if_neg hc0, if_pos (by rw [List.length_map]; omega)]
        have ih := refWords_l0 r (pre ++ [c]) [] (done ++ [cur]) k hk' (by rw [← ep]; exact hl) (by simp) (by simp; omega)
        rw [show done.map bb ++ [bb cur] = (done ++ [cur]).map bb by simp, ih]
        simp [hc0]
theorem refWords_is (l : List UInt8) (k : Nat) (hk : 2 * l.length + 4 ≤ k) (hl : l.length ≤ 1000000) : bulletinref06_Words.f k (bb l) = some ((wordsB [] l).map bb) := by
  have := refWords_l0 l [] [] [] k hk hl (by simp) (by simp)
  exact this

theorem refSplit_l0 (ch : UInt8) : ∀ (rest pre cur : List UInt8) (done : List (List UInt8)) (k : Nat), rest.length < k → (pre ++ rest).length ≤ 1000000 → cur.length ≤ pre.length → done.length ≤ pre.length →
    bulletinref13_Split.l0 k (bb (pre ++ rest)) (ch.toNat : Int) (done.map bb) (bb cur) (pre.length : Int) = some ((done ++ splitC ch cur rest).map bb)
  | [], pre, cur, done, k, hk, hl, hc, hd => by
    obtain ⟨k, rfl⟩ : ∃ k', k = k' + 1 := ⟨k - 1, by simp at hk; omega⟩
    rw [List.append_nil] at *
    rw [bulletinref13_Split.l0, bb_size, if_neg (by omega), if_pos (by rw [List.length_map]; omega), splitC]
    simp
  | c :: r, pre, cur, done, k, hk, hl, hc, hd => by
    obtain ⟨k, rfl⟩ : ∃ k', k = k' + 1 := ⟨k - 1, by simp at hk; omega⟩
    have hlen : (pre ++ c :: r).length = pre.length + (r.length + 1) := by simp
    have e : (pre.length : Int) + 1 = ((pre ++ [c]).length : Int) := by simp
    have ep : pre ++ c :: r = (pre ++ [c]) ++ r := by simp
    have hk' : r.length < k := by simp at hk; omega
    rw [bulletinref13_Split.l0, bb_size, if_pos (by omega), if_pos (by omega), bt_bb, w64 (n := (pre.length : Int) + 1) (by omega) (by omega), splitC]
    by_cases h : c = ch
    · rw [if_pos (by rw [h]), if_pos (by rw [List.length_map]; omega), if_pos h, e, ep, show (⟨#[]⟩ : ByteArray) = bb [] from rfl]
      have ih := refSplit_l0 ch r (pre ++ [c]) [] (done ++ [cur]) k hk' (by rw [← ep]; exact hl) (by simp) (by simp; omega)
      rw [show done.map bb ++ [bb cur] = (done ++ [cur]).map bb by simp, ih]
      simp
    · have hn : ¬ (c.toNat : Int) = (ch.toNat : Int) := fun e => h (UInt8.toNat_inj.1 (by omega))
      rw [if_neg hn, if_neg h, if_pos (by omega), if_pos (by omega), show ((pre.length : Int)).toNat = pre.length by omega, show ((pre.length : Int) + 1).toNat = pre.length + 1 by omega, bb_one, bb_size, bb_size, if_pos (by simp only [List.length_cons, List.length_nil]; omega), bb_append, e, ep]
      have ih := refSplit_l0 ch r (pre ++ [c]) (cur ++ [c]) done k hk' (by rw [← ep]; exact hl) (by simp; omega) (by simp; omega)
      rw [ih]
theorem refSplit_is (l : List UInt8) (k : Nat) (hk : l.length < k) (hl : l.length ≤ 1000000) : bulletinref13_Split.f k (bb l) 58 = some ((splitC 58 [] l).map bb) := by
  have := refSplit_l0 58 l [] [] [] k hk hl (by simp) (by simp)
  exact this

theorem fold_g (l : List UInt8) : glyph_Fold.g (bb l) = bb (l.map glyph_Fold.low) := by
  unfold glyph_Fold.g
  rw [bb_list]
  rfl
theorem refFold_l0 : ∀ (rest pre : List UInt8) (k : Nat), rest.length < k → (pre ++ rest).length ≤ 1000000 →
    bulletinref06_Fold.l0 k (bb (pre ++ rest)) (bb (pre.map glyph_Fold.low)) (pre.length : Int) = some (bb ((pre ++ rest).map glyph_Fold.low))
  | [], pre, k, hk, hl => by
    obtain ⟨k, rfl⟩ : ∃ k', k = k' + 1 := ⟨k - 1, by simp at hk; omega⟩
    rw [List.append_nil] at *
    rw [bulletinref06_Fold.l0, bb_size, if_neg (by omega)]
  | c :: r, pre, k, hk, hl => by
    obtain ⟨k, rfl⟩ : ∃ k', k = k' + 1 := ⟨k - 1, by simp at hk; omega⟩
    have hlen : (pre ++ c :: r).length = pre.length + (r.length + 1) := by simp
    have e : (pre.length : Int) + 1 = ((pre ++ [c]).length : Int) := by simp
    have ep : pre ++ c :: r = (pre ++ [c]) ++ r := by simp
    have hk' : r.length < k := by simp at hk; omega
    have ih := refFold_l0 r (pre ++ [c]) k hk' (by rw [← ep]; exact hl)
    have hc := UInt8.toNat_lt c
    rw [bulletinref06_Fold.l0, bb_size, if_pos (by omega), if_pos (by omega), bt_bb, w64 (n := (pre.length : Int) + 1) (by omega) (by omega)]
    have plain : ¬ (65 ≤ c.toNat ∧ c.toNat ≤ 90) → (if (pre.length : Int) ≤ (pre.length : Int) + 1 then (if (pre.length : Int) + 1 ≤ ((pre ++ c :: r).length : Int) then (if (bb (pre.map glyph_Fold.low)).size + ((bb (pre ++ c :: r)).extract ((pre.length : Int)).toNat ((pre.length : Int) + 1).toNat).size ≤ 9223372036854775807 then bulletinref06_Fold.l0 k (bb (pre ++ c :: r)) (bb (pre.map glyph_Fold.low) ++ (bb (pre ++ c :: r)).extract ((pre.length : Int)).toNat ((pre.length : Int) + 1).toNat) ((pre.length : Int) + 1) else none) else none) else none) = some (bb ((pre ++ c :: r).map glyph_Fold.low)) := by
      intro h
      rw [if_pos (by omega), if_pos (by omega), show ((pre.length : Int)).toNat = pre.length by omega, show ((pre.length : Int) + 1).toNat = pre.length + 1 by omega, bb_one, bb_size, bb_size, if_pos (by simp only [List.length_map, List.length_cons, List.length_nil]; omega), bb_append, e, ep]
      rw [show List.map glyph_Fold.low pre ++ [c] = List.map glyph_Fold.low (pre ++ [c]) by simp [glyph_Fold.low, h], ih]
    by_cases h1 : (c.toNat : Int) ≥ 65
    · rw [if_pos h1]
      by_cases h2 : (c.toNat : Int) ≤ 90
      · rw [if_pos h2]
        simp only [Option.bind_some]
        have hs : strOfNums ([((c.toNat : Int) + 32) % 256] : List Int) = bb [glyph_Fold.low c] := by
          unfold strOfNums bb glyph_Fold.low
          rw [if_pos (by omega)]
          simp only [List.map_cons, List.map_nil]
          congr 2
          rw [show (((c.toNat : Int) + 32) % 256).toNat = c.toNat + 32 by omega]
          congr 1
        rw [hs, bb_size, bb_size, if_pos (by simp only [List.length_map, List.length_cons, List.length_nil]; omega), bb_append, e, ep, show List.map glyph_Fold.low pre ++ [glyph_Fold.low c] = List.map glyph_Fold.low (pre ++ [c]) by simp, ih]
      · rw [if_neg h2]
        exact plain (by omega)
    · rw [if_neg h1]
      exact plain (by omega)
theorem refFold_is (l : List UInt8) (k : Nat) (hk : l.length < k) (hl : l.length ≤ 1000000) : bulletinref06_Fold.f k (bb l) = some (bb (l.map glyph_Fold.low)) := by
  have := refFold_l0 l [] k hk hl
  exact this

/-- What so many digits are worth; -1: they are not so. -/
def DV (l : List UInt8) (least most : Int) : Int := if least ≤ (l.length : Int) ∧ (l.length : Int) ≤ most ∧ l.all dig = true then (worth 0 l : Int) else -1
theorem number_DV_l0 (least most : Int) (hm : most ≤ 10) : ∀ (l p : List UInt8) (v k : Nat), l.length < k → (p.length : Int) ≤ most → (p ++ l).length ≤ 1000000 → v < 10 ^ p.length →
    date_number.l0 k (bb (p ++ l)) least most (v : Int) ((bb (p ++ l)).size : Int) (p.length : Int) = some (if least ≤ ((p ++ l).length : Int) ∧ ((p ++ l).length : Int) ≤ most ∧ l.all dig = true then (worth v l : Int) else -1)
  | [], p, v, k, hk, h1, h2, hv => by
    obtain ⟨k, rfl⟩ : ∃ k', k = k' + 1 := ⟨k - 1, by simp at hk; omega⟩
    rw [List.append_nil] at *
    rw [date_number.l0, bb_size, if_neg (by omega)]
    by_cases h : (p.length : Int) < least
    · rw [if_pos h, if_neg (by omega)]
    · rw [if_neg h, if_pos ⟨by omega, h1, rfl⟩, worth_nil]
  | c :: l, p, v, k, hk, h1, h2, hv => by
    obtain ⟨k, rfl⟩ : ∃ k', k = k' + 1 := ⟨k - 1, by simp at hk; omega⟩
    have hl : (p ++ c :: l).length = p.length + (l.length + 1) := by simp
    have hp : 10 ^ p.length ≤ 10 ^ 10 := Nat.pow_le_pow_right (by omega) (by omega)
    have hp' : (10 : Nat) ^ 10 = 10000000000 := rfl
    have hcl := UInt8.toNat_lt c
    rw [date_number.l0, bb_size, if_pos (by omega), if_pos (by omega), if_pos (by omega), bt_bb]
    by_cases hd : 48 ≤ c.toNat ∧ c.toNat ≤ 57
    · rw [if_neg (by omega), if_neg (by omega)]
      by_cases he : (p.length : Int) = most
      · rw [if_pos he, if_neg (by omega)]
      · rw [if_neg he, w64 (n := 10 * (v : Int)) (by omega) (by omega), w64 (n := 10 * (v : Int) + ((c.toNat : Int) - 48) % 256) (by omega) (by omega), w64 (n := (p.length : Int) + 1) (by omega) (by omega)]
        have ih := number_DV_l0 least most hm l (p ++ [c]) (10 * v + (c.toNat - 48)) k (by simp at hk; omega) (by simp; omega) (by simpa using h2) (by rw [List.length_append, List.length_cons, List.length_nil, Nat.zero_add, Nat.pow_succ]; omega)
        rw [show p ++ [c] ++ l = p ++ c :: l by simp, bb_size, show ((p ++ [c]).length : Int) = (p.length : Int) + 1 by simp] at ih
        rw [show 10 * (v : Int) + ((c.toNat : Int) - 48) % 256 = ((10 * v + (c.toNat - 48) : Nat) : Int) by omega, ih, worth_cons]
        have : dig c = true := by simp [dig, hd]
        simp [this]
    · have hd' : dig c = false := by simp [dig]; omega
      rw [if_neg (show ¬ (least ≤ ((p ++ c :: l).length : Int) ∧ ((p ++ c :: l).length : Int) ≤ most ∧ (c :: l).all dig = true) by simp [hd'])]
      by_cases h3 : (c.toNat : Int) < 48
      · rw [if_pos h3]
      · rw [if_neg h3, if_pos (by omega)]
theorem number_DV (l : List UInt8) (least most : Int) (k : Nat) (hk : l.length < k) (h0 : 0 ≤ most) (hm : most ≤ 10) (hl : l.length ≤ 1000000) : date_number.f k (bb l) least most = some (DV l least most) := by
  have := number_DV_l0 least most hm l [] 0 k hk (by simpa using h0) hl (by simp)
  simpa [DV, date_number.f] using this
theorem refDigitsV_l0 : ∀ (l p : List UInt8) (v k : Nat), l.length < k → (p ++ l).length ≤ 10 → v < 10 ^ p.length →
    bulletinref22_digits.l0 k (bb (p ++ l)) (v : Int) (p.length : Int) = some (if l.all dig = true then (worth v l : Int) else -1)
  | [], p, v, k, hk, h2, hv => by
    obtain ⟨k, rfl⟩ : ∃ k', k = k' + 1 := ⟨k - 1, by simp at hk; omega⟩
    rw [List.append_nil] at *
    rw [bulletinref22_digits.l0, bb_size, if_neg (by omega), if_pos (show ([] : List UInt8).all dig = true from rfl), worth_nil]
  | c :: l, p, v, k, hk, h2, hv => by
    obtain ⟨k, rfl⟩ : ∃ k', k = k' + 1 := ⟨k - 1, by simp at hk; omega⟩
    have hl : (p ++ c :: l).length = p.length + (l.length + 1) := by simp
    have hp : 10 ^ p.length ≤ 10 ^ 10 := Nat.pow_le_pow_right (by omega) (by omega)
    have hp' : (10 : Nat) ^ 10 = 10000000000 := rfl
    have hcl := UInt8.toNat_lt c
    rw [bulletinref22_digits.l0, bb_size, if_pos (by omega), if_pos (by omega), bt_bb]
    by_cases hd : 48 ≤ c.toNat ∧ c.toNat ≤ 57
    · rw [if_neg (by omega), if_neg (by omega), w64 (n := 10 * (v : Int)) (by omega) (by omega), w64 (n := (c.toNat : Int)) (by omega) (by omega), w64 (n := 10 * (v : Int) + (c.toNat : Int)) (by omega) (by omega), w64 (n := 10 * (v : Int) + (c.toNat : Int) - 48) (by omega) (by omega), w64 (n := (p.length : Int) + 1) (by omega) (by omega)]
      have ih := refDigitsV_l0 l (p ++ [c]) (10 * v + (c.toNat - 48)) k (by simp at hk; omega) (by simpa using h2) (by rw [List.length_append, List.length_cons, List.length_nil, Nat.zero_add, Nat.pow_succ]; omega)
      rw [show p ++ [c] ++ l = p ++ c :: l by simp, show ((p ++ [c]).length : Int) = (p.length : Int) + 1 by simp] at ih
      rw [show 10 * (v : Int) + (c.toNat : Int) - 48 = ((10 * v + (c.toNat - 48) : Nat) : Int) by omega, ih, worth_cons]
      have : dig c = true := by simp [dig, hd]
      simp [this]
    · have hd' : dig c = false := by simp [dig]; omega
      rw [if_neg (show ¬ (c :: l).all dig = true by simp [hd'])]
      by_cases h3 : (c.toNat : Int) < 48
      · rw [if_pos h3]
      · rw [if_neg h3, if_pos (by omega)]
theorem refDigits_DV (l : List UInt8) (least most : Int) (k : Nat) (hk : 20 ≤ k) (hm : most ≤ 10) : bulletinref22_digits.f k (bb l) least most = some (DV l least most) := by
  obtain ⟨k, rfl⟩ : ∃ k', k = k' + 1 := ⟨k - 1, by omega⟩
  unfold bulletinref22_digits.f DV
  rw [bb_size]
  by_cases h1 : (l.length : Int) < least
  · rw [if_pos h1, bulletinref22_digits.j0, if_pos rfl, if_neg (by omega)]
  · rw [if_neg h1, bulletinref22_digits.j0]
    by_cases h2 : (l.length : Int) > most
    · rw [if_pos (by simpa using h2), if_neg (by omega)]
    · rw [if_neg (by simpa using h2)]
      have := refDigitsV_l0 l [] 0 k (by omega) (by simp; omega) (by simp)
      simp only [List.nil_append, List.length_nil] at this
      rw [show ((0 : Nat) : Int) = 0 from rfl] at this
      rw [this]
      congr 1
      by_cases h3 : l.all dig = true
      · rw [if_pos h3, if_pos ⟨by omega, by omega, h3⟩]
      · rw [if_neg h3, if_neg (fun x => h3 x.2.2)]
end
section
/- The program's Read, as a function of the text's words. -/

theorem worth_lt : ∀ (l : List UInt8) (v a : Nat), v < 10 ^ a → l.all dig = true → worth v l < 10 ^ (a + l.length)
  | [], v, a, h, _ => by rw [worth_nil]; simpa using h
  | c :: l, v, a, h, hd => by
    have hd' : dig c = true ∧ l.all dig = true := by simpa using hd
    have hc : 48 ≤ c.toNat ∧ c.toNat ≤ 57 := by simpa [dig] using hd'.1
    rw [worth_cons, show a + (c :: l).length = (a + 1) + l.length by simp; omega]
    exact worth_lt l _ (a + 1) (by rw [Nat.pow_succ]; omega) hd'.2
theorem DV_range (l : List UInt8) (least most : Int) (hm : most ≤ 5) : -1 ≤ DV l least most ∧ DV l least most < 100000 := by
  unfold DV
  split
  · rename_i h
    have := worth_lt l 0 0 (by decide) h.2.2
    rw [Nat.zero_add] at this
    have hp : 10 ^ l.length ≤ 10 ^ 5 := Nat.pow_le_pow_right (by omega) (by omega)
    have hp' : (10 : Nat) ^ 5 = 100000 := rfl
    omega
  · omega
theorem DV_two (l : List UInt8) : -1 ≤ DV l 2 2 ∧ DV l 2 2 < 100 := by
  unfold DV
  split
  · rename_i h
    have := worth_lt l 0 0 (by decide) h.2.2
    rw [Nat.zero_add] at this
    have hp : 10 ^ l.length ≤ 10 ^ 2 := Nat.pow_le_pow_right (by omega) (by omega)
    have hp' : (10 : Nat) ^ 2 = 100 := rfl
    omega
  · omega

/-! ### The zone -/
def ZNames (z : List UInt8) : Bool := z.map glyph_Fold.low == [103, 109, 116] || z.map glyph_Fold.low == [117, 116] || z.map glyph_Fold.low == [117, 116, 99] || z.map glyph_Fold.low == [122]
def ZN (z : List UInt8) : Int × Bool :=
  if ZNames z = true then (0, true) else
  match z with
  | [s, a, b, c, d] => if (s = 43 ∨ s = 45) ∧ 0 ≤ DV [a, b] 2 2 ∧ 0 ≤ DV [c, d] 2 2 ∧ DV [c, d] 2 2 ≤ 59 then (if s = 45 then -(DV [a, b] 2 2 * 3600 + DV [c, d] 2 2 * 60) else DV [a, b] 2 2 * 3600 + DV [c, d] 2 2 * 60, true) else (0, false)
  | _ => (0, false)
theorem of_bb2 (s : ByteArray) : s = bb s.data.toList := by simp [bb]
theorem bb_cut (l : List UInt8) (a b : Nat) : (bb l).extract a b = bb ((l.drop a).take (b - a)) := by
  have := Lib.extract_data (bb l) a b
  rw [bb_list] at this
  rw [of_bb2 ((bb l).extract a b), this]
theorem bt_first (c : UInt8) (l : List UInt8) : bt (bb (c :: l)) 0 = (c.toNat : Int) := bt_bb [] c l
theorem zone_j0 (k : Nat) (hk : 10 ≤ k) (s a b c d : UInt8) (hs : s = 43 ∨ s = 45) : date_zone.j0 k (bb [s, a, b, c, d]) false = some (if 0 ≤ DV [a, b] 2 2 ∧ 0 ≤ DV [c, d] 2 2 ∧ DV [c, d] 2 2 ≤ 59 then (if s = 45 then -(DV [a, b] 2 2 * 3600 + DV [c, d] 2 2 * 60) else DV [a, b] 2 2 * 3600 + DV [c, d] 2 2 * 60, true) else (0, false)) := by
  obtain ⟨k, rfl⟩ : ∃ k', k = k' + 2 := ⟨k - 2, by omega⟩
  have e0 : ((bb [s, a, b, c, d]).size : Int) = 5 := by rw [bb_size]; rfl
  have e0' : (bb [s, a, b, c, d]).size = 5 := by rw [bb_size]; rfl
  have r1 := DV_two [a, b]
  have r2 := DV_two [c, d]
  have j1t : date_zone.j1 (k + 1) (bb [s, a, b, c, d]) (DV [a, b] 2 2) (DV [c, d] 2 2) true = some (0, false) := by rw [date_zone.j1, if_pos rfl]
  rw [date_zone.j0, if_neg (by decide), if_pos (by decide), e0, if_pos (by decide), e0', bb_cut, bb_cut]
  simp only [List.drop_succ_cons, List.drop_zero, List.take_succ_cons, List.take_zero, show 3 - 1 = 2 from rfl, show 5 - 3 = 2 from rfl]
  rw [number_DV [a, b] 2 2 (k + 1) (by simp; omega) (by omega) (by omega) (by simp), number_DV [c, d] 2 2 (k + 1) (by simp; omega) (by omega) (by omega) (by simp)]
  simp only [Option.bind_some]
  by_cases h1 : DV [a, b] 2 2 < 0
  · rw [if_pos h1, if_neg (by omega), j1t]
  rw [if_neg h1, within_is]
  simp only [Option.bind_some]
  by_cases h2 : 0 ≤ DV [c, d] 2 2 ∧ DV [c, d] 2 2 ≤ 59
  · rw [if_pos ⟨by omega, h2.1, h2.2⟩, show (!decide (0 ≤ DV [c, d] 2 2 ∧ DV [c, d] 2 2 ≤ 59)) = false by simp [h2], date_zone.j1, if_neg (by decide), e0, if_pos (by decide), bt_first, w64 (n := DV [a, b] 2 2 * 3600) (by omega) (by omega), w64 (n := DV [c, d] 2 2 * 60) (by omega) (by omega), w64 (n := DV [a, b] 2 2 * 3600 + DV [c, d] 2 2 * 60) (by omega) (by omega), w64 (n := -(DV [a, b] 2 2 * 3600 + DV [c, d] 2 2 * 60)) (by omega) (by omega)]
    rcases hs with rfl | rfl
    · rw [if_neg (by decide), if_neg (by decide)]
    · rw [if_pos (by decide), if_pos rfl]
  · rw [if_neg (by omega), show (!decide (0 ≤ DV [c, d] 2 2 ∧ DV [c, d] 2 2 ≤ 59)) = true by simp; omega, j1t]
theorem zone_j0t (k : Nat) (hk : 10 ≤ k) (x : ByteArray) : date_zone.j0 k x true = some (0, false) := by
  obtain ⟨k, rfl⟩ : ∃ k', k = k' + 1 := ⟨k - 1, by omega⟩
  rw [date_zone.j0, if_pos rfl]
theorem ZN_name (z : List UInt8) (h : ZNames z = true) : ZN z = (0, true) := by unfold ZN; rw [if_pos h]
theorem ZN_five (s a b c d : UInt8) (h : ¬ ZNames [s, a, b, c, d] = true) : ZN [s, a, b, c, d] = if (s = 43 ∨ s = 45) ∧ 0 ≤ DV [a, b] 2 2 ∧ 0 ≤ DV [c, d] 2 2 ∧ DV [c, d] 2 2 ≤ 59 then (if s = 45 then -(DV [a, b] 2 2 * 3600 + DV [c, d] 2 2 * 60) else DV [a, b] 2 2 * 3600 + DV [c, d] 2 2 * 60, true) else (0, false) := by unfold ZN; rw [if_neg h]
theorem ZN_other (z : List UInt8) (h : ¬ ZNames z = true) (hl : z.length ≠ 5) : ZN z = (0, false) := by
  unfold ZN
  rw [if_neg h]
  match z with
  | [s, a, b, c, d] => simp at hl
  | [] => rfl
  | [_] => rfl
  | [_, _] => rfl
  | [_, _, _] => rfl
  | [_, _, _, _] => rfl
  | _ :: _ :: _ :: _ :: _ :: _ :: _ => rfl
theorem zone_is (k : Nat) (hk : 10 ≤ k) (z : List UInt8) (hz : z.length ≤ 1000000) : date_zone.f k (bb z) = some (ZN z) := by
  unfold date_zone.f
  rw [glyph_Fold.f, if_pos (by rw [bb_size]; omega), fold_g]
  simp only [Option.bind_some, bb_toList]
  by_cases h1 : z.map glyph_Fold.low = [103, 109, 116]
  · rw [if_pos h1, ZN_name z (by simp [ZNames, h1])]
  rw [if_neg h1]
  by_cases h2 : z.map glyph_Fold.low = [117, 116]
  · rw [if_pos h2, ZN_name z (by simp [ZNames, h2])]
  rw [if_neg h2]
  by_cases h3 : z.map glyph_Fold.low = [117, 116, 99]
  · rw [if_pos h3, ZN_name z (by simp [ZNames, h3])]
  rw [if_neg h3]
  by_cases h4 : z.map glyph_Fold.low = [122]
  · rw [if_pos h4, ZN_name z (by simp [ZNames, h4])]
  have hN : ¬ ZNames z = true := by simp [ZNames, h1, h2, h3, h4]
  rw [if_neg h4]
  clear h1 h2 h3 h4
  by_cases hl : z.length = 5
  · match z, hl with
    | [s, a, b, c, d], _ =>
      have e0 : ((bb [s, a, b, c, d]).size : Int) = 5 := by rw [bb_size]; rfl
      rw [e0, if_pos rfl, if_pos (by decide), bt_first, ZN_five s a b c d hN]
      by_cases p : s = 43
      · subst p
        rw [if_pos (by decide), zone_j0 k hk _ _ _ _ _ (.inl rfl)]
        congr 1
        by_cases q : 0 ≤ DV [a, b] 2 2 ∧ 0 ≤ DV [c, d] 2 2 ∧ DV [c, d] 2 2 ≤ 59
        · rw [if_pos q]; exact (if_pos ⟨.inl rfl, q⟩).symm
        · rw [if_neg q]; exact (if_neg (fun x => q x.2)).symm
      · have pn : ¬ (s.toNat : Int) = 43 := fun e => p (UInt8.toNat_inj.1 (by simp; omega))
        rw [if_neg pn]
        by_cases m : s = 45
        · subst m
          rw [show (((45 : UInt8).toNat : Int) != 45) = false by decide, zone_j0 k hk _ _ _ _ _ (.inr rfl)]
          congr 1
          by_cases q : 0 ≤ DV [a, b] 2 2 ∧ 0 ≤ DV [c, d] 2 2 ∧ DV [c, d] 2 2 ≤ 59
          · rw [if_pos q]; exact (if_pos ⟨.inr rfl, q⟩).symm
          · rw [if_neg q]; exact (if_neg (fun x => q x.2)).symm
        · have mn : ((s.toNat : Int) != 45) = true := by
            simp only [bne_iff_ne]
            exact fun e => m (UInt8.toNat_inj.1 (by simp; omega))
          rw [mn, zone_j0t k hk, if_neg]
          rintro ⟨h | h, _⟩
          · exact p h
          · exact m h
  · rw [if_neg (by rw [bb_size]; omega), zone_j0t k hk, ZN_other z hN hl]
theorem ZN_range (z : List UInt8) : -400000 ≤ (ZN z).1 ∧ (ZN z).1 ≤ 400000 := by
  unfold ZN
  split
  · decide
  · split
    · rename_i s a b c d h
      have r1 := DV_two [a, b]
      have r2 := DV_two [c, d]
      split
      · split <;> simp only <;> omega
      · decide
    · decide

/-! ### Hours, minutes, seconds -/
theorem splitC_short (c : UInt8) : ∀ (l cur : List UInt8), ∀ x ∈ splitC c cur l, x.length ≤ cur.length + l.length
  | [], cur, x, hx => by
    obtain rfl : x = cur := by simpa [splitC] using hx
    simp
  | y :: l, cur, x, hx => by
    rw [splitC] at hx
    by_cases h : y = c
    · rw [if_pos h] at hx
      rcases List.mem_cons.1 hx with rfl | hx
      · omega
      · have := splitC_short c l [] x hx
        simp at this ⊢; omega
    · rw [if_neg h] at hx
      have := splitC_short c l (cur ++ [y]) x hx
      simp at this ⊢; omega
def hrs (w : List UInt8) : List (List UInt8) := if (splitC 58 [] w).length = 2 then splitC 58 [] w ++ [[48, 48]] else splitC 58 [] w
theorem hrs_short (w : List UInt8) : ∀ x ∈ hrs w, x.length ≤ w.length + 2 := by
  intro x hx
  unfold hrs at hx
  split at hx
  · rcases List.mem_append.1 hx with hx | hx
    · have := splitC_short 58 w [] x hx; simp at this; omega
    · obtain rfl : x = [48, 48] := by simpa using hx
      simp
  · have := splitC_short 58 w [] x hx; simp at this; omega
def HR (p : List (List UInt8)) (y m d : Int) : Bool × Int × Int × Int × Int × Int × Int × Int :=
  match p with
  | [a, b, c] => (decide (0 ≤ DV a 2 2 ∧ 0 ≤ DV b 2 2 ∧ 0 ≤ DV c 2 2), y, m, d, DV a 2 2, DV b 2 2, DV c 2 2, 0)
  | _ => (false, y, m, d, 0, 0, 0, 0)
theorem HR_other (p : List (List UInt8)) (y m d : Int) (h : p.length ≠ 3) : HR p y m d = (false, y, m, d, 0, 0, 0, 0) := by
  unfold HR
  split
  · rename_i a b c; simp at h
  · rfl
theorem hours_j0 (k : Nat) (p : List (List UInt8)) (y m d : Int) (hp : ∀ x ∈ p, x.length < k ∧ x.length ≤ 1000000) : date_Time_hours.j0 (k + 1) (p.map bb) y m d 0 0 0 0 = some (HR p y m d) := by
  rw [date_Time_hours.j0, List.length_map]
  by_cases h3 : p.length = 3
  · match p, h3, hp with
    | [a, b, c], _, hp =>
      have ha := hp a (by simp)
      have hb := hp b (by simp)
      have hc := hp c (by simp)
      rw [if_pos (by simp), if_pos (by simp), show rdOf ByteArray.empty ([a, b, c].map bb) 0 = bb a from rfl, show rdOf ByteArray.empty ([a, b, c].map bb) 1 = bb b from rfl, show rdOf ByteArray.empty ([a, b, c].map bb) 2 = bb c from rfl,
        number_DV a 2 2 k ha.1 (by omega) (by omega) ha.2]
      simp only [Option.bind_some]
      rw [if_pos (by simp), number_DV b 2 2 k hb.1 (by omega) (by omega) hb.2]
      simp only [Option.bind_some]
      rw [if_pos (by simp), number_DV c 2 2 k hc.1 (by omega) (by omega) hc.2]
      simp only [Option.bind_some, HR]
      by_cases h1 : DV a 2 2 ≥ 0
      · rw [if_pos h1]
        by_cases h2 : DV b 2 2 ≥ 0
        · rw [if_pos h2]; simp [h1, h2, show 0 ≤ DV a 2 2 from h1, show 0 ≤ DV b 2 2 from h2]
        · rw [if_neg h2]; simp [show ¬ 0 ≤ DV b 2 2 from h2]
      · rw [if_neg h1]; simp [show ¬ 0 ≤ DV a 2 2 from h1]
  · rw [if_neg (by omega), HR_other p y m d h3]
theorem split_bb (w : List UInt8) (h : w.length ≤ 1000000) : strings_Split.f (bb w) (⟨#[58]⟩ : ByteArray) = some ((splitC 58 [] w).map bb) := by
  unfold strings_Split.f
  rw [if_pos (by rw [bb_size]; omega), if_pos (by decide), splitB_is, bb_list]
theorem splitC_count (c : UInt8) : ∀ (l cur : List UInt8), (splitC c cur l).length ≤ l.length + 1
  | [], cur => by simp [splitC]
  | y :: l, cur => by
    rw [splitC]
    split
    · have := splitC_count c l []; simp; omega
    · have := splitC_count c l (cur ++ [y]); simp; omega
theorem hours_is (k : Nat) (w : List UInt8) (y m d : Int) (hk : w.length + 4 < k) (hw : w.length ≤ 100000) : date_Time_hours.f k y m d 0 0 0 0 (bb w) = some (HR (hrs w) y m d) := by
  obtain ⟨k, rfl⟩ : ∃ k', k = k' + 1 := ⟨k - 1, by omega⟩
  have hp : ∀ x ∈ hrs w, x.length < k ∧ x.length ≤ 1000000 := fun x hx => by have := hrs_short w x hx; omega
  have hc := splitC_count 58 w []
  unfold date_Time_hours.f
  rw [split_bb w (by omega)]
  simp only [Option.bind_some, List.length_map]
  unfold hrs at hp ⊢
  by_cases h2 : (splitC 58 [] w).length = 2
  · rw [if_pos h2] at hp ⊢
    rw [if_pos (by omega), if_pos (by omega), show (splitC 58 [] w).map bb ++ [(⟨#[48, 48]⟩ : ByteArray)] = (splitC 58 [] w ++ [[48, 48]]).map bb by simp [bb], hours_j0 k _ y m d hp]
  · rw [if_neg h2] at hp ⊢
    rw [if_neg (by omega), hours_j0 k _ y m d hp]

/-! ### What the five parts behind a day's name tell -/
def MF (w : List UInt8) : Int := date_month.find (bb w) Tab1 1
/-- The moment behind the form. -/
def AT2 (off n : Int) : Int × Int := if 0 ≤ n - off ∧ n - off ≤ 1099511627776 then (n - off, 0) else (0, 1)
def AT (day off : Int) (n : Int × Int) : Int × Int :=
  if n.2 = 0 then (if 0 ≤ day ∧ day ≠ (n.1 / 86400 + 4) % 7 then (0, 3) else AT2 off n.1) else (0, n.2)
def RB (a b c d e : List UInt8) (day : Int) : Int × Int :=
  if (HR (hrs d) 0 0 0).1 = true ∧ (ZN e).2 = true ∧ 0 ≤ DV c 4 5 ∧ 1 ≤ MF b ∧ 0 ≤ DV a 1 2 then
    AT day (ZN e).1 (Num (DV c 4 5) (MF b) (DV a 1 2) (HR (hrs d) 0 0 0).2.2.2.2.1 (HR (hrs d) 0 0 0).2.2.2.2.2.1 (HR (hrs d) 0 0 0).2.2.2.2.2.2.1)
  else (0, 3)
theorem Num_range (y m d h i s : Int) : 0 ≤ (Num y m d h i s).1 ∧ (Num y m d h i s).1 ≤ 1099511627776 := by
  unfold Num
  split
  · rename_i c; exact ⟨c.2.2.1, c.2.2.2⟩
  · simp only; omega
theorem read_j2t (k : Nat) (off n : Int) : date_Read.j2 (k + 1) off n true = some (0, 3) := by rw [date_Read.j2, if_pos rfl]
theorem read_j2 (k : Nat) (off n : Int) (h : -400000 ≤ off ∧ off ≤ 400000) (r : 0 ≤ n ∧ n ≤ 1099511627776) : date_Read.j2 (k + 1) off n false = some (AT2 off n) := by
  rw [date_Read.j2, if_neg (by decide), w64 (n := n - off) (by omega) (by omega), moment_is]
  simp only [Option.bind_some]
  unfold AT2
  by_cases c : 0 ≤ n - off ∧ n - off ≤ 1099511627776
  · rw [if_pos (decide_eq_true c), if_pos c]
  · rw [if_neg (by rw [decide_eq_false c]; decide), if_neg c]
theorem read_j1 (k : Nat) (hk : 10 ≤ k) (day off y m d h i s w : Int) (ho : -400000 ≤ off ∧ off ≤ 400000) : date_Read.j1 k day off false y m d h i s w = some (AT day off (Num y m d h i s)) := by
  obtain ⟨k, rfl⟩ : ∃ k', k = k' + 2 := ⟨k - 2, by omega⟩
  have r := Num_range y m d h i s
  rw [date_Read.j1, if_neg (by decide), number_is (k + 1) (by omega)]
  simp only [Option.bind_some]
  unfold AT
  by_cases hn : (Num y m d h i s).2 = 0
  · rw [if_pos hn, if_pos hn, td _ r.1, w64 (n := (Num y m d h i s).1 / 86400) (by omega) (by omega), w64 (n := (Num y m d h i s).1 / 86400 + 4) (by omega) (by omega), tm _ (by omega)]
    by_cases hd : day ≥ 0
    · rw [if_pos hd]
      by_cases hx : day = ((Num y m d h i s).1 / 86400 + 4) % 7
      · rw [show (day != ((Num y m d h i s).1 / 86400 + 4) % 7) = false by simp [hx], read_j2 k off _ ho r, if_neg (by omega)]
      · rw [show (day != ((Num y m d h i s).1 / 86400 + 4) % 7) = true by simp [hx], read_j2t, if_pos ⟨hd, hx⟩]
    · rw [if_neg hd, read_j2 k off _ ho r, if_neg (by omega)]
  · rw [if_neg hn, if_neg hn]
theorem read_j1t (k : Nat) (hk : 10 ≤ k) (day off y m d h i s w : Int) : date_Read.j1 k day off true y m d h i s w = some (0, 3) := by
  obtain ⟨k, rfl⟩ : ∃ k', k = k' + 1 := ⟨k - 1, by omega⟩
  rw [date_Read.j1, if_pos rfl]
theorem HR_at (p : List (List UInt8)) (y m d : Int) : HR p y m d = ((HR p 0 0 0).1, y, m, d, (HR p 0 0 0).2.2.2.2.1, (HR p 0 0 0).2.2.2.2.2.1, (HR p 0 0 0).2.2.2.2.2.2.1, 0) := by
  unfold HR
  split <;> rfl
theorem read_j0 (k : Nat) (a b c d e : List UInt8) (day : Int) (hk : 400 ≤ k) (ha : a.length ≤ 300) (hb : b.length ≤ 300) (hc : c.length ≤ 300) (hd : d.length ≤ 300) (he : e.length ≤ 300) :
    date_Read.j0 k ([a, b, c, d, e].map bb) day = some (RB a b c d e day) := by
  obtain ⟨k, rfl⟩ : ∃ k', k = k' + 1 := ⟨k - 1, by omega⟩
  have zr := ZN_range e
  rw [date_Read.j0, if_pos (by simp), if_pos (by simp), show rdOf ByteArray.empty ([a, b, c, d, e].map bb) 0 = bb a from rfl, show rdOf ByteArray.empty ([a, b, c, d, e].map bb) 1 = bb b from rfl, show rdOf ByteArray.empty ([a, b, c, d, e].map bb) 2 = bb c from rfl,
    show rdOf ByteArray.empty ([a, b, c, d, e].map bb) 3 = bb d from rfl, show rdOf ByteArray.empty ([a, b, c, d, e].map bb) 4 = bb e from rfl, number_DV c 4 5 k (by omega) (by omega) (by omega) (by omega)]
  simp only [Option.bind_some]
  rw [if_pos (by simp), date_month.f, if_pos (by rw [bb_size]; omega)]
  simp only [Option.bind_some]
  rw [if_pos (by simp), number_DV a 1 2 k (by omega) (by omega) (by omega) (by omega)]
  simp only [Option.bind_some]
  rw [if_pos (by simp), zone_is k (by omega) e (by omega)]
  simp only [Option.bind_some]
  rw [if_pos (by simp), hours_is k d _ _ _ (by omega) (by omega), HR_at]
  simp only [Option.bind_some]
  show _ = some (RB a b c d e day)
  unfold RB MF
  by_cases h1 : (HR (hrs d) 0 0 0).1 = true
  · rw [if_pos h1]
    by_cases h2 : (ZN e).2 = true
    · rw [if_pos h2]
      by_cases h3 : DV c 4 5 < 0
      · rw [if_pos h3, read_j1t k (by omega), if_neg (by omega)]
      · rw [if_neg h3]
        by_cases h4 : date_month.find (bb b) Tab1 1 < 1
        · rw [if_pos h4, read_j1t k (by omega), if_neg (by omega)]
        · rw [if_neg h4]
          by_cases h5 : DV a 1 2 < 0
          · rw [decide_eq_true h5, read_j1t k (by omega), if_neg (by omega)]
          · rw [decide_eq_false h5, read_j1 k (by omega) _ _ _ _ _ _ _ _ _ zr, if_pos ⟨h1, h2, by omega, by omega, by omega⟩]
    · rw [if_neg h2, read_j1t k (by omega), if_neg (fun x => h2 x.2.1)]
  · rw [if_neg h1, read_j1t k (by omega), if_neg (fun x => h1 x.1)]
theorem read_j0n (k : Nat) (hk : 1 ≤ k) (l : List (List UInt8)) (day : Int) (h : l.length ≠ 5) : date_Read.j0 k (l.map bb) day = some (0, 3) := by
  obtain ⟨k, rfl⟩ : ∃ k', k = k' + 1 := ⟨k - 1, by omega⟩
  rw [date_Read.j0, if_neg (by rw [List.length_map]; omega)]
end
section
/-! ### The words' own lengths; the day's name -/
theorem wordsB_short : ∀ (l cur : List UInt8), ∀ x ∈ wordsB cur l, x.length ≤ cur.length + l.length
  | [], cur, x, hx => by
    rw [wordsB] at hx
    split at hx
    · cases hx
    · obtain rfl : x = cur := by simpa using hx
      simp
  | y :: l, cur, x, hx => by
    rw [wordsB] at hx
    split at hx
    · split at hx
      · have := wordsB_short l [] x hx; simp at this ⊢; omega
      · rcases List.mem_cons.1 hx with rfl | hx
        · omega
        · have := wordsB_short l [] x hx; simp at this ⊢; omega
    · have := wordsB_short l (cur ++ [y]) x hx; simp at this ⊢; omega
theorem wordsB_count : ∀ (l cur : List UInt8), (wordsB cur l).length ≤ l.length + 1
  | [], cur => by rw [wordsB]; split <;> simp
  | y :: l, cur => by
    rw [wordsB]
    split
    · split
      · have := wordsB_count l []; simp; omega
      · have := wordsB_count l []; simp; omega
    · have := wordsB_count l (cur ++ [y]); simp; omega
def WD (n : List UInt8) : Int := if n.getLast? = some 44 then date_week.find (bb n.dropLast) Tab0 0 else -1
def RDW (ws : List (List UInt8)) : Int × Int :=
  match ws with
  | [n, a, b, c, d, e] => if WD n < 0 then (0, 3) else RB a b c d e (WD n)
  | [a, b, c, d, e] => RB a b c d e (-1)
  | _ => (0, 3)
theorem RDW_six (n a b c d e : List UInt8) : RDW [n, a, b, c, d, e] = if WD n < 0 then (0, 3) else RB a b c d e (WD n) := rfl
theorem RDW_five (a b c d e : List UInt8) : RDW [a, b, c, d, e] = RB a b c d e (-1) := rfl
theorem WD_pos (n : List UInt8) (h : n.getLast? = some 44) : WD n = date_week.find (bb n.dropLast) Tab0 0 := if_pos h
theorem WD_neg (n : List UInt8) (h : ¬ n.getLast? = some 44) : WD n = -1 := if_neg h
theorem RDW_other (ws : List (List UInt8)) (h6 : ws.length ≠ 6) (h5 : ws.length ≠ 5) : RDW ws = (0, 3) := by
  unfold RDW
  split
  · simp at h6
  · simp at h5
  · rfl
theorem cut_comma (n : List UInt8) (hn : n.length ≤ 1000000) : strings_CutSuffix.f (bb n) (⟨#[44]⟩ : ByteArray) = some (if n.getLast? = some 44 then (bb n.dropLast, true) else (bb n, false)) := by
  have e1 : (⟨#[44]⟩ : ByteArray).size = 1 := rfl
  have e2 : (⟨#[44]⟩ : ByteArray).toList = [44] := by rw [Lib.toList_data]
  unfold strings_CutSuffix.f stringslite_CutSuffix.f stringslite_HasSuffix.f
  rw [bb_size, e1]
  cases hr : n.reverse with
  | nil =>
    have : n = [] := by simpa using hr
    subst this
    simp
  | cons c r =>
    have hnr : n = r.reverse ++ [c] := by
      have := congrArg List.reverse hr
      simpa using this
    have hl : n.length = r.length + 1 := by rw [hnr]; simp
    rw [if_pos (by omega), w64 (n := (n.length : Int) - ((1 : Nat) : Int)) (by omega) (by omega), if_pos (by omega), if_pos (by omega), show ((n.length : Int) - ((1 : Nat) : Int)).toNat = r.length by omega]
    have hx : ((bb n).extract r.length n.length).toList = [c] := by
      rw [Lib.extract_toList, bb_list, hnr, show r.length = r.reverse.length by simp, List.drop_left]
      simp
    have hy : (bb n).extract 0 r.length = bb n.dropLast := by
      rw [bb_cut, hnr]
      simp
    rw [hx, e2, hy]
    simp only [Option.bind_some]
    have hlast : n.getLast? = some c := by rw [hnr]; simp
    rw [hlast]
    by_cases hc : c = 44
    · subst hc; simp; rw [if_pos (by omega), if_pos (by omega)]; rfl
    · rw [if_neg (by simp [hc]), if_neg (by simp [hc])]
      rfl
theorem read_is (k : Nat) (hk : 1000 ≤ k) (l : List UInt8) (hl : l.length ≤ 300) : date_Read.f k (bb l) = some (RDW (wordsB [] l)) := by
  have hs := wordsB_short l []
  simp only [List.length_nil, Nat.zero_add] at hs
  unfold date_Read.f
  rw [glyph_Words.f, if_pos (by rw [bb_size]; omega), show Lib.goFieldsP glyph_Words.blank (bb l) = (wordsB [] l).map bb by rw [words_is, bb_list]; rfl]
  simp only [Option.bind_some, List.length_map]
  generalize wordsB [] l = ws at hs
  by_cases h6 : ws.length = 6
  · match ws, h6, hs with
    | [n, a, b, c, d, e], _, hs =>
      have hn := hs n (by simp)
      have ha := hs a (by simp)
      have hb := hs b (by simp)
      have hc := hs c (by simp)
      have hd := hs d (by simp)
      have he := hs e (by simp)
      rw [if_pos (by simp), if_pos (by simp), show rdOf ByteArray.empty ([n, a, b, c, d, e].map bb) 0 = bb n from rfl, cut_comma n (by omega)]
      simp only [Option.bind_some]
      rw [RDW_six]
      by_cases h44 : n.getLast? = some 44
      · rw [if_pos h44, WD_pos n h44, date_week.f, if_pos (by rw [bb_size, List.length_dropLast]; omega)]
        simp only [Option.bind_some]
        rw [if_pos trivial]
        by_cases hw : date_week.find (bb n.dropLast) Tab0 0 < 0
        · rw [if_pos hw, if_pos hw]
        · rw [if_neg hw, if_neg hw, if_pos (by simp), show ([n, a, b, c, d, e].map bb).drop ((1 : Int)).toNat = [a, b, c, d, e].map bb from rfl, read_j0 k a b c d e _ (by omega) (by omega) (by omega) (by omega) (by omega) (by omega)]
      · rw [if_neg h44, WD_neg n h44, date_week.f, if_pos (by rw [bb_size]; omega)]
        simp only [Option.bind_some]
        rw [if_neg (by decide), if_pos (by decide)]
  · rw [if_neg (by omega)]
    by_cases h5 : ws.length = 5
    · match ws, h5, hs with
      | [a, b, c, d, e], _, hs =>
        rw [read_j0 k a b c d e _ (by omega) (by have := hs a (by simp); omega) (by have := hs b (by simp); omega) (by have := hs c (by simp); omega) (by have := hs d (by simp); omega) (by have := hs e (by simp); omega)]
        rfl
    · rw [read_j0n k (by omega) ws _ h5, RDW_other ws h6 h5]
end
section
/- The document's Read, as the same function of the text's words. -/

/-! ### Behind the form -/
theorem rRead_j9t (k : Nat) (off n : Int) : bulletinref22_Read.j9 (k + 1) off n true = some (0, 3) := by rw [bulletinref22_Read.j9, if_pos rfl]
theorem rRead_j9 (k : Nat) (off n : Int) (h : -400000 ≤ off ∧ off ≤ 400000) (r : 0 ≤ n ∧ n ≤ 1099511627776) : bulletinref22_Read.j9 (k + 1) off n false = some (AT2 off n) := by
  rw [bulletinref22_Read.j9, if_neg (by decide), w64 (n := n - off) (by omega) (by omega), refMoment_is]
  simp only [Option.bind_some]
  unfold AT2
  by_cases c : 0 ≤ n - off ∧ n - off ≤ 1099511627776
  · rw [if_pos (decide_eq_true c), if_pos c]
  · rw [if_neg (by rw [decide_eq_false c]; decide), if_neg c]
theorem rRead_j8 (k : Nat) (hk : 70010 ≤ k) (day off y m d h i s w : Int) (ho : -400000 ≤ off ∧ off ≤ 400000) : bulletinref22_Read.j8 k day off y m d h i s w = some (AT day off (Num y m d h i s)) := by
  obtain ⟨k, rfl⟩ : ∃ k', k = k' + 2 := ⟨k - 2, by omega⟩
  have r := Num_range y m d h i s
  rw [bulletinref22_Read.j8, refNumber_is (k + 1) (by omega)]
  simp only [Option.bind_some]
  unfold AT
  by_cases hn : (Num y m d h i s).2 = 0
  · rw [if_pos hn, if_pos hn, td _ r.1, w64 (n := (Num y m d h i s).1 / 86400) (by omega) (by omega), w64 (n := (Num y m d h i s).1 / 86400 + 4) (by omega) (by omega), tm _ (by omega)]
    by_cases hd : day ≥ 0
    · rw [if_pos hd]
      by_cases hx : day = ((Num y m d h i s).1 / 86400 + 4) % 7
      · rw [show (((Num y m d h i s).1 / 86400 + 4) % 7 != day) = false by simp [hx], rRead_j9 k off _ ho r, if_neg (by omega)]
      · rw [show (((Num y m d h i s).1 / 86400 + 4) % 7 != day) = true by simp; omega, rRead_j9t, if_pos ⟨hd, hx⟩]
    · rw [if_neg hd, rRead_j9 k off _ ho r, if_neg (by omega)]
  · rw [if_neg hn, if_neg hn]

/-! ### The zone -/
theorem DV_cut (a b c d : UInt8) : (0 ≤ DV [a, b, c, d] 4 4) ↔ (0 ≤ DV [a, b] 2 2 ∧ 0 ≤ DV [c, d] 2 2) := by
  unfold DV
  simp only [List.length_cons, List.length_nil, List.all_cons, List.all_nil, Bool.and_true]
  cases dig a <;> cases dig b <;> cases dig c <;> cases dig d <;> simp <;> omega
theorem rRead_j7t (k : Nat) (day : Int) (z : ByteArray) (y m d h i s w : Int) : bulletinref22_Read.j7 (k + 1) day z true y m d h i s w = some (0, 3) := by rw [bulletinref22_Read.j7, if_pos rfl]
/-- What the zone and what stands behind it tell. -/
def ZB (day : Int) (e : List UInt8) (n : Int × Int) : Int × Int := if (ZN e).2 = true then AT day (ZN e).1 n else (0, 3)
theorem rRead_j7 (k : Nat) (hk : 70020 ≤ k) (day : Int) (s0 a b c d : UInt8) (hs : s0 = 43 ∨ s0 = 45) (y m dd h i s w : Int) (hN : ¬ ZNames [s0, a, b, c, d] = true) (h1 : 0 ≤ DV [a, b] 2 2) (h2 : 0 ≤ DV [c, d] 2 2) (h3 : DV [c, d] 2 2 ≤ 59) :
    bulletinref22_Read.j7 k day (bb [s0, a, b, c, d]) false y m dd h i s w = some (ZB day [s0, a, b, c, d] (Num y m dd h i s)) := by
  obtain ⟨k, rfl⟩ : ∃ k', k = k' + 1 := ⟨k - 1, by omega⟩
  have e0 : ((bb [s0, a, b, c, d]).size : Int) = 5 := by rw [bb_size]; rfl
  have e0' : (bb [s0, a, b, c, d]).size = 5 := by rw [bb_size]; rfl
  have r1 := DV_two [a, b]
  have r2 := DV_two [c, d]
  have hz := ZN_five s0 a b c d hN
  rw [if_pos ⟨hs, h1, h2, h3⟩] at hz
  rw [bulletinref22_Read.j7, if_neg (by decide), if_pos (by decide), e0, if_pos (by decide), e0', bb_cut, bb_cut]
  simp only [List.drop_succ_cons, List.drop_zero, List.take_succ_cons, List.take_zero, show 3 - 1 = 2 from rfl, show 5 - 3 = 2 from rfl]
  rw [refDigits_DV [a, b] 2 2 k (by omega) (by omega), refDigits_DV [c, d] 2 2 k (by omega) (by omega)]
  simp only [Option.bind_some]
  rw [if_pos (by decide), bt_first, w64 (n := 3600 * DV [a, b] 2 2) (by omega) (by omega), w64 (n := 60 * DV [c, d] 2 2) (by omega) (by omega), w64 (n := 3600 * DV [a, b] 2 2 + 60 * DV [c, d] 2 2) (by omega) (by omega), w64 (n := -(3600 * DV [a, b] 2 2 + 60 * DV [c, d] 2 2)) (by omega) (by omega)]
  rcases hs with rfl | rfl
  · have hz' : ZN [43, a, b, c, d] = (DV [a, b] 2 2 * 3600 + DV [c, d] 2 2 * 60, true) := by rw [hz, if_neg (by decide)]
    rw [if_neg (by decide), ZB, hz', rRead_j8 k (by omega) _ _ _ _ _ _ _ _ _ (by omega), show 3600 * DV [a, b] 2 2 + 60 * DV [c, d] 2 2 = DV [a, b] 2 2 * 3600 + DV [c, d] 2 2 * 60 by omega]
    rfl
  · have hz' : ZN [45, a, b, c, d] = (-(DV [a, b] 2 2 * 3600 + DV [c, d] 2 2 * 60), true) := by rw [hz, if_pos rfl]
    rw [if_pos (by decide), ZB, hz', rRead_j8 k (by omega) _ _ _ _ _ _ _ _ _ (by omega), show -(3600 * DV [a, b] 2 2 + 60 * DV [c, d] 2 2) = -(DV [a, b] 2 2 * 3600 + DV [c, d] 2 2 * 60) by omega]
    rfl
theorem rRead_j6 (k : Nat) (hk : 70040 ≤ k) (day : Int) (z : List UInt8) (y m d h i s w : Int) : bulletinref22_Read.j6 k day (bb z) 0 (!ZNames z) y m d h i s w = some (ZB day z (Num y m d h i s)) := by
  obtain ⟨k, rfl⟩ : ∃ k', k = k' + 2 := ⟨k - 2, by omega⟩
  rw [bulletinref22_Read.j6]
  by_cases hN : ZNames z = true
  · rw [if_neg (by simp [hN]), rRead_j8 (k + 1) (by omega) _ _ _ _ _ _ _ _ _ (by omega), ZB, ZN_name z hN, if_pos rfl]
  · rw [if_pos (by simpa using hN)]
    by_cases hl : z.length = 5
    · match z, hl, hN with
      | [s0, a, b, c, e], _, hN =>
        have e0 : ((bb [s0, a, b, c, e]).size : Int) = 5 := by rw [bb_size]; rfl
        have e0' : (bb [s0, a, b, c, e]).size = 5 := by rw [bb_size]; rfl
        have hz := ZN_five s0 a b c e hN
        have cut := DV_cut a b c e
        have bad : (¬ ((s0 = 43 ∨ s0 = 45) ∧ 0 ≤ DV [a, b] 2 2 ∧ 0 ≤ DV [c, e] 2 2 ∧ DV [c, e] 2 2 ≤ 59)) → ZB day [s0, a, b, c, e] (Num y m d h i s) = (0, 3) := by
          intro hb
          rw [if_neg hb] at hz
          rw [ZB, hz, if_neg (by decide)]
        have core : (s0 = 43 ∨ s0 = 45) → ((bulletinref22_digits.f (k + 1) ((bb [s0, a, b, c, e]).extract 1 (bb [s0, a, b, c, e]).size) 4 4).bind fun t444 => (if t444 < 0 then (bulletinref22_Read.j7 (k + 1) day (bb [s0, a, b, c, e]) true y m d h i s w) else (if 3 ≤ ((bb [s0, a, b, c, e]).size : Int) then ((bulletinref22_digits.f (k + 1) ((bb [s0, a, b, c, e]).extract 3 (bb [s0, a, b, c, e]).size) 2 2).bind fun t445 => (bulletinref22_Read.j7 (k + 1) day (bb [s0, a, b, c, e]) (decide (t445 > 59)) y m d h i s w)) else (none)))) = some (ZB day [s0, a, b, c, e] (Num y m d h i s)) := by
          intro hs
          rw [e0, e0', bb_cut, bb_cut]
          simp only [List.drop_succ_cons, List.drop_zero, List.take_succ_cons, List.take_zero, show 5 - 1 = 4 from rfl, show 5 - 3 = 2 from rfl]
          rw [refDigits_DV [a, b, c, e] 4 4 (k + 1) (by omega) (by omega)]
          simp only [Option.bind_some]
          by_cases h4 : DV [a, b, c, e] 4 4 < 0
          · rw [if_pos h4, rRead_j7t, bad (fun x => by have := cut.2 ⟨x.2.1, x.2.2.1⟩; omega)]
          · have hc := cut.1 (by omega)
            rw [if_neg h4, if_pos (by decide), refDigits_DV [c, e] 2 2 (k + 1) (by omega) (by omega)]
            simp only [Option.bind_some]
            by_cases h59 : DV [c, e] 2 2 > 59
            · rw [decide_eq_true h59, rRead_j7t, bad (fun x => by omega)]
            · rw [decide_eq_false h59, rRead_j7 (k + 1) (by omega) day s0 a b c e hs y m d h i s w hN hc.1 hc.2 (by omega)]
        rw [e0, if_pos rfl, if_pos (by decide), bt_first]
        by_cases p : s0 = 43
        · rw [if_pos (by rw [p]; rfl), if_pos (by decide)]
          have := core (.inl p)
          rw [e0] at this
          exact this
        · have pn : ¬ (s0.toNat : Int) = 43 := fun e => p (UInt8.toNat_inj.1 (by simp; omega))
          rw [if_neg pn]
          by_cases q : s0 = 45
          · rw [if_pos (by rw [q]; rfl), if_pos (by decide)]
            have := core (.inr q)
            rw [e0] at this
            exact this
          · have qn : ¬ (s0.toNat : Int) = 45 := fun e => q (UInt8.toNat_inj.1 (by simp; omega))
            rw [if_neg qn, rRead_j7t, bad (fun x => by rcases x.1 with x | x; exact p x; exact q x)]
    · rw [if_neg (by rw [bb_size]; omega), rRead_j7t, ZB, ZN_other z hN hl, if_neg (by decide)]

/-! ### Hours; what the five parts tell -/
theorem rRead_j5t (k : Nat) (x : List ByteArray) (day y m d h i s w : Int) : bulletinref22_Read.j5 (k + 1) x day true y m d h i s w = some (0, 3) := by rw [bulletinref22_Read.j5, if_pos rfl]
theorem rRead_j5 (k : Nat) (hk : 70060 ≤ k) (a b c d e : List UInt8) (he : e.length ≤ 300) (day y m dd h i s w : Int) : bulletinref22_Read.j5 k ([a, b, c, d, e].map bb) day false y m dd h i s w = some (ZB day e (Num y m dd h i s)) := by
  obtain ⟨k, rfl⟩ : ∃ k', k = k' + 1 := ⟨k - 1, by omega⟩
  rw [bulletinref22_Read.j5, if_neg (by decide), if_pos (by simp), show rdOf ByteArray.empty ([a, b, c, d, e].map bb) 4 = bb e from rfl, refFold_is e k (by omega) (by omega)]
  simp only [Option.bind_some, bb_toList]
  have j6 := rRead_j6 k (by omega) day e y m dd h i s w
  by_cases h1 : e.map glyph_Fold.low = [103, 109, 116]
  · rw [if_pos h1]
    have : (!ZNames e) = false := by simp [ZNames, h1]
    rw [this] at j6; exact j6
  rw [if_neg h1]
  by_cases h2 : e.map glyph_Fold.low = [117, 116]
  · rw [if_pos h2]
    have : (!ZNames e) = false := by simp [ZNames, h2]
    rw [this] at j6; exact j6
  rw [if_neg h2]
  by_cases h3 : e.map glyph_Fold.low = [117, 116, 99]
  · rw [if_pos h3]
    have : (!ZNames e) = false := by simp [ZNames, h3]
    rw [this] at j6; exact j6
  rw [if_neg h3]
  have : (!ZNames e) = (e.map glyph_Fold.low != ([122] : List UInt8)) := by
    have e1 : (e.map glyph_Fold.low == [103, 109, 116]) = false := beq_eq_false_iff_ne.2 h1
    have e2 : (e.map glyph_Fold.low == [117, 116]) = false := beq_eq_false_iff_ne.2 h2
    have e3 : (e.map glyph_Fold.low == [117, 116, 99]) = false := beq_eq_false_iff_ne.2 h3
    rw [ZNames, e1, e2, e3]
    simp only [Bool.false_or]
    rfl
  rw [this] at j6; exact j6
theorem rRead_j4t (k : Nat) (x : List ByteArray) (day : Int) (p : List ByteArray) (y m d h i s w : Int) : bulletinref22_Read.j4 (k + 1) x day p true y m d h i s w = some (0, 3) := by rw [bulletinref22_Read.j4, if_pos rfl]
theorem rRead_j4 (k : Nat) (hk : 70070 ≤ k) (a b c d e : List UInt8) (he : e.length ≤ 300) (p q r : List UInt8) (day y m dd h0 i0 s0 w : Int) :
    bulletinref22_Read.j4 k ([a, b, c, d, e].map bb) day ([p, q, r].map bb) false y m dd h0 i0 s0 w = some (if 0 ≤ DV p 2 2 ∧ 0 ≤ DV q 2 2 ∧ 0 ≤ DV r 2 2 then ZB day e (Num y m dd (DV p 2 2) (DV q 2 2) (DV r 2 2)) else (0, 3)) := by
  obtain ⟨k, rfl⟩ : ∃ k', k = k' + 2 := ⟨k - 2, by omega⟩
  rw [bulletinref22_Read.j4, if_neg (by decide), if_pos (by simp), show rdOf ByteArray.empty ([p, q, r].map bb) 0 = bb p from rfl, show rdOf ByteArray.empty ([p, q, r].map bb) 1 = bb q from rfl, show rdOf ByteArray.empty ([p, q, r].map bb) 2 = bb r from rfl,
    refDigits_DV p 2 2 (k + 1) (by omega) (by omega)]
  simp only [Option.bind_some]
  rw [if_pos (by simp), refDigits_DV q 2 2 (k + 1) (by omega) (by omega)]
  simp only [Option.bind_some]
  rw [if_pos (by simp), refDigits_DV r 2 2 (k + 1) (by omega) (by omega)]
  simp only [Option.bind_some]
  by_cases h1 : DV p 2 2 < 0
  · rw [if_pos h1, rRead_j5t, if_neg (by omega)]
  rw [if_neg h1]
  by_cases h2 : DV q 2 2 < 0
  · rw [if_pos h2, rRead_j5t, if_neg (by omega)]
  rw [if_neg h2]
  by_cases h3 : DV r 2 2 < 0
  · rw [decide_eq_true h3, rRead_j5t, if_neg (by omega)]
  rw [decide_eq_false h3, rRead_j5 (k + 1) (by omega) a b c d e he, if_pos ⟨by omega, by omega, by omega⟩]
theorem RB_bad (a b c d e : List UInt8) (day : Int) (h : ¬ ((HR (hrs d) 0 0 0).1 = true ∧ 0 ≤ DV c 4 5 ∧ 1 ≤ MF b ∧ 0 ≤ DV a 1 2)) : RB a b c d e day = (0, 3) := by
  rw [RB, if_neg]
  exact fun x => h ⟨x.1, x.2.2.1, x.2.2.2.1, x.2.2.2.2⟩
theorem rRead_j3 (k : Nat) (hk : 70080 ≤ k) (a b c d e : List UInt8) (he : e.length ≤ 300) (day : Int) (hm : 0 ≤ MF b) :
    bulletinref22_Read.j3 k ([a, b, c, d, e].map bb) day ((hrs d).map bb) (DV c 4 5) (MF b) (DV a 1 2) 0 0 0 0 = some (RB a b c d e day) := by
  obtain ⟨k, rfl⟩ : ∃ k', k = k' + 2 := ⟨k - 2, by omega⟩
  rw [bulletinref22_Read.j3, List.length_map]
  by_cases h3 : (hrs d).length = 3
  · rw [if_pos (by omega)]
    by_cases h1 : DV a 1 2 < 0
    · rw [if_pos h1, rRead_j4t, RB_bad _ _ _ _ _ _ (by omega)]
    rw [if_neg h1]
    by_cases h2 : DV c 4 5 < 0
    · rw [if_pos h2, rRead_j4t, RB_bad _ _ _ _ _ _ (by omega)]
    rw [if_neg h2]
    by_cases h4 : MF b = 0
    · rw [show (MF b == 0) = true by simp [h4], rRead_j4t, RB_bad _ _ _ _ _ _ (by omega)]
    rw [show (MF b == 0) = false by simp [h4]]
    unfold RB
    generalize hrs d = p at h3
    match p, h3 with
    | [p, q, r], _ =>
      rw [rRead_j4 (k + 1) (by omega) a b c d e he p q r]
      simp only [HR, ZB, decide_eq_true_eq]
      congr 1
      by_cases c1 : 0 ≤ DV p 2 2 ∧ 0 ≤ DV q 2 2 ∧ 0 ≤ DV r 2 2
      · rw [if_pos c1]
        by_cases c2 : (ZN e).2 = true
        · rw [if_pos c2, if_pos ⟨c1, c2, by omega, by omega, by omega⟩]
        · rw [if_neg c2, if_neg (fun x => c2 x.2.1)]
      · rw [if_neg c1, if_neg (fun x => c1 x.1)]
  · rw [if_neg (by omega), rRead_j4t, RB_bad]
    rw [HR_other _ _ _ _ h3]
    simp

/-! ### The month -/
def chain (X : List UInt8) : List (List UInt8) → Int → Int → Int
  | [], _, z => z
  | F :: l, i, z => if X = F then i else chain X l (i + 1) z
theorem month_chain (s : ByteArray) : ∀ (T : List ByteArray) (i : Int), date_month.find s T i = chain (glyph_Fold.g s).toList (T.map fun t => (glyph_Fold.g t).toList) i 0
  | [], _ => rfl
  | t :: T, i => by
    rw [date_month.find, List.map_cons, chain, month_chain s T]
    by_cases h : (glyph_Fold.g t).toList = (glyph_Fold.g s).toList
    · rw [if_pos (by simp [h]), if_pos h.symm]
    · rw [if_neg (by simp [h]), if_neg (fun x => h x.symm)]
theorem week_chain (s : ByteArray) : ∀ (T : List ByteArray) (i : Int), date_week.find s T i = chain (glyph_Fold.g s).toList (T.map fun t => (glyph_Fold.g t).toList) i (-1)
  | [], _ => rfl
  | t :: T, i => by
    rw [date_week.find, List.map_cons, chain, week_chain s T]
    by_cases h : (glyph_Fold.g t).toList = (glyph_Fold.g s).toList
    · rw [if_pos (by simp [h]), if_pos h.symm]
    · rw [if_neg (by simp [h]), if_neg (fun x => h x.symm)]
def months : List (List UInt8) := [[106, 97, 110], [102, 101, 98], [109, 97, 114], [97, 112, 114], [109, 97, 121], [106, 117, 110], [106, 117, 108], [97, 117, 103], [115, 101, 112], [111, 99, 116], [110, 111, 118], [100, 101, 99]]
def weekdays : List (List UInt8) := [[115, 117, 110], [109, 111, 110], [116, 117, 101], [119, 101, 100], [116, 104, 117], [102, 114, 105], [115, 97, 116]]
theorem months_are : (Tab1.map fun t => (glyph_Fold.g t).toList) = months := by decide +kernel
theorem weekdays_are : (Tab0.map fun t => (glyph_Fold.g t).toList) = weekdays := by decide +kernel
theorem MF_chain (b : List UInt8) : MF b = chain (b.map glyph_Fold.low) months 1 0 := by
  unfold MF
  rw [month_chain, months_are, fold_g, bb_toList]
/-- The last of equal names. -/
def last (X : List UInt8) : List (List UInt8) → Int → Int → Int
  | [], _, z => z
  | F :: l, i, z => last X l (i + 1) (if X = F then i else z)
theorem last_not (X : List UInt8) : ∀ (l : List (List UInt8)) (i z : Int), (∀ F ∈ l, X ≠ F) → last X l i z = z
  | [], _, _, _ => rfl
  | F :: l, i, z, h => by rw [last, if_neg (h F (by simp)), last_not X l _ _ (fun G hG => h G (by simp [hG]))]
theorem last_chain (X : List UInt8) : ∀ (l : List (List UInt8)) (i z : Int), l.Nodup → last X l i z = chain X l i z
  | [], _, _, _ => rfl
  | F :: l, i, z, h => by
    rw [List.nodup_cons] at h
    rw [last, chain]
    by_cases hx : X = F
    · rw [if_pos hx, if_pos hx, last_not X l _ _ (fun G hG e => h.1 (by rw [← hx, e]; exact hG))]
    · rw [if_neg hx, if_neg hx, last_chain X l _ _ h.2]

theorem month_name (j : Nat) (h : j < 12) : ∃ N F : List UInt8, bulletinref22_Month.f ((j : Int) + 1) = some (bb N) ∧ N.map glyph_Fold.low = F ∧ months[j]? = some F ∧ N.length ≤ 300 := by
  have : j = 0 ∨ j = 1 ∨ j = 2 ∨ j = 3 ∨ j = 4 ∨ j = 5 ∨ j = 6 ∨ j = 7 ∨ j = 8 ∨ j = 9 ∨ j = 10 ∨ j = 11 := by omega
  rcases this with h | h | h | h | h | h | h | h | h | h | h | h <;> subst h
  · exact ⟨[74, 97, 110], _, by decide +kernel, rfl, by decide +kernel, by decide⟩
  · exact ⟨[70, 101, 98], _, by decide +kernel, rfl, by decide +kernel, by decide⟩
  · exact ⟨[77, 97, 114], _, by decide +kernel, rfl, by decide +kernel, by decide⟩
  · exact ⟨[65, 112, 114], _, by decide +kernel, rfl, by decide +kernel, by decide⟩
  · exact ⟨[77, 97, 121], _, by decide +kernel, rfl, by decide +kernel, by decide⟩
  · exact ⟨[74, 117, 110], _, by decide +kernel, rfl, by decide +kernel, by decide⟩
  · exact ⟨[74, 117, 108], _, by decide +kernel, rfl, by decide +kernel, by decide⟩
  · exact ⟨[65, 117, 103], _, by decide +kernel, rfl, by decide +kernel, by decide⟩
  · exact ⟨[83, 101, 112], _, by decide +kernel, rfl, by decide +kernel, by decide⟩
  · exact ⟨[79, 99, 116], _, by decide +kernel, rfl, by decide +kernel, by decide⟩
  · exact ⟨[78, 111, 118], _, by decide +kernel, rfl, by decide +kernel, by decide⟩
  · exact ⟨[68, 101, 99], _, by decide +kernel, rfl, by decide +kernel, by decide⟩
/-- The loop over the months. -/
theorem rRead_l1 (a b c d e : List UInt8) (hb : b.length ≤ 300) (day y dd : Int) : ∀ (n j k : Nat) (m : Int), j + n = 12 → 400 + n ≤ k →
    bulletinref22_Read.l1 k ([a, b, c, d, e].map bb) day ((j : Int) + 1) y m dd 0 0 0 0 = bulletinref22_Read.l1 (k - n) ([a, b, c, d, e].map bb) day 13 y (last (b.map glyph_Fold.low) (months.drop j) ((j : Int) + 1) m) dd 0 0 0 0 := by
  intro n
  induction n with
  | zero =>
    intro j k m hj hk
    obtain rfl : j = 12 := by omega
    rw [show months.drop 12 = [] from rfl, last]
    rfl
  | succ n ih =>
    intro j k m hj hk
    obtain ⟨k, rfl⟩ : ∃ k', k = k' + 1 := ⟨k - 1, by omega⟩
    obtain ⟨N, F, h1, h2, h3, h4⟩ := month_name j (by omega)
    have hd : months.drop j = F :: months.drop (j + 1) := by
      have hlt := (List.getElem?_eq_some_iff.1 h3).1
      rw [List.drop_eq_getElem_cons hlt, (List.getElem?_eq_some_iff.1 h3).2]
    rw [bulletinref22_Read.l1, if_pos (by omega), if_pos (by simp), show rdOf ByteArray.empty ([a, b, c, d, e].map bb) 1 = bb b from rfl, refFold_is b k (by omega) (by omega), h1]
    simp only [Option.bind_some]
    rw [refFold_is N k (by omega) (by omega), h2]
    simp only [Option.bind_some, bb_toList]
    rw [w64 (n := (j : Int) + 1 + 1) (by omega) (by omega), hd, last, show k + 1 - (n + 1) = k - n by omega]
    have e1 := ih (j + 1) k (if b.map glyph_Fold.low = F then (j : Int) + 1 else m) (by omega) (by omega)
    rw [show ((j + 1 : Nat) : Int) + 1 = (j : Int) + 1 + 1 by omega] at e1
    rw [← e1]
    by_cases hx : b.map glyph_Fold.low = F
    · rw [if_pos hx, if_pos hx]
    · rw [if_neg hx, if_neg hx]
theorem months_apart : months.Nodup := by decide +kernel
theorem chain_ge (X : List UInt8) : ∀ (l : List (List UInt8)) (i z : Int), z ≤ i → z ≤ chain X l i z
  | [], _, z, _ => Int.le_refl _
  | F :: l, i, z, h => by
    rw [chain]
    split
    · exact h
    · exact chain_ge X l _ _ (by omega)
theorem rRead_j1 (k : Nat) (hk : 70200 ≤ k) (a b c d e : List UInt8) (day : Int) (ha : a.length ≤ 300) (hb : b.length ≤ 300) (hc : c.length ≤ 300) (hd : d.length ≤ 300) (he : e.length ≤ 300) :
    bulletinref22_Read.j1 k ([a, b, c, d, e].map bb) day = some (RB a b c d e day) := by
  obtain ⟨k, rfl⟩ : ∃ k', k = k' + 14 := ⟨k - 14, by omega⟩
  have hcnt := splitC_count 58 d []
  rw [bulletinref22_Read.j1, if_pos (by simp), if_pos (by simp), show rdOf ByteArray.empty ([a, b, c, d, e].map bb) 0 = bb a from rfl, show rdOf ByteArray.empty ([a, b, c, d, e].map bb) 2 = bb c from rfl, refDigits_DV a 1 2 (k + 13) (by omega) (by omega)]
  simp only [Option.bind_some]
  rw [if_pos (by simp), refDigits_DV c 4 5 (k + 13) (by omega) (by omega)]
  simp only [Option.bind_some]
  have l1 := rRead_l1 a b c d e hb day (DV c 4 5) (DV a 1 2) 12 0 (k + 13) 0 rfl (by omega)
  rw [show (((0 : Nat) : Int)) + 1 = 1 from rfl, show k + 13 - 12 = k + 1 by omega, List.drop_zero, last_chain _ _ _ _ months_apart, ← MF_chain] at l1
  rw [l1, bulletinref22_Read.l1, if_neg (by decide), if_pos (by simp), show rdOf ByteArray.empty ([a, b, c, d, e].map bb) 3 = bb d from rfl, refSplit_is d k (by omega) (by omega)]
  simp only [Option.bind_some, List.length_map]
  have hm : 0 ≤ MF b := by rw [MF_chain]; exact chain_ge _ _ _ _ (by omega)
  have j3 := rRead_j3 k (by omega) a b c d e he day hm
  unfold hrs at j3
  by_cases h2 : (splitC 58 [] d).length = 2
  · rw [if_pos h2] at j3
    rw [if_pos (by omega), if_pos (by omega), show (splitC 58 [] d).map bb ++ [(⟨#[48, 48]⟩ : ByteArray)] = (splitC 58 [] d ++ [[48, 48]]).map bb by simp [bb], j3]
  · rw [if_neg h2] at j3
    rw [if_neg (by omega), j3]
theorem rRead_j1n (k : Nat) (hk : 1 ≤ k) (l : List (List UInt8)) (day : Int) (h : l.length ≠ 5) : bulletinref22_Read.j1 k (l.map bb) day = some (0, 3) := by
  obtain ⟨k, rfl⟩ : ∃ k', k = k' + 1 := ⟨k - 1, by omega⟩
  rw [bulletinref22_Read.j1, if_neg (by rw [List.length_map]; omega)]
end
section
/- DateReads, in plain words: both Reads are one function of the text's words. -/

def weekC : List (List UInt8) := weekdays.map (· ++ [44])
theorem weekC_apart : weekC.Nodup := by decide +kernel
theorem chain_comma (A : List UInt8) : ∀ (l : List (List UInt8)) (i z : Int), chain (A ++ [44]) (l.map (· ++ [44])) i z = chain A l i z
  | [], _, _ => rfl
  | F :: l, i, z => by
    rw [List.map_cons, chain, chain, chain_comma A l]
    by_cases h : A = F
    · rw [if_pos (by rw [h]), if_pos h]
    · rw [if_neg (fun x => h (List.append_cancel_right x)), if_neg h]
theorem chain_not (X : List UInt8) : ∀ (l : List (List UInt8)) (i z : Int), (∀ F ∈ l, X ≠ F) → chain X l i z = z
  | [], _, _, _ => rfl
  | F :: l, i, z, h => by rw [chain, if_neg (h F (by simp)), chain_not X l _ _ (fun G hG => h G (by simp [hG]))]
theorem low_comma (c : UInt8) (h : glyph_Fold.low c = 44) : c = 44 := by
  unfold glyph_Fold.low at h
  split at h
  · rename_i hc
    have := congrArg UInt8.toNat h
    rw [UInt8.toNat_add] at this
    simp at this
    omega
  · exact h
theorem WD_chain (n : List UInt8) : WD n = chain (n.map glyph_Fold.low) weekC 0 (-1) := by
  by_cases h : n.getLast? = some 44
  · rw [WD_pos n h, week_chain, weekdays_are, fold_g, bb_toList]
    have hn : n = n.dropLast ++ [44] := by
      have hne : n ≠ [] := by intro e; rw [e] at h; cases h
      have hl : n.getLast hne = 44 := by
        rw [List.getLast?_eq_some_getLast hne] at h
        exact Option.some.inj h
      rw [← hl]; exact (List.dropLast_concat_getLast hne).symm
    have hm : n.map glyph_Fold.low = n.dropLast.map glyph_Fold.low ++ [44] := by
      conv => lhs; rw [hn]
      rw [List.map_append]
      rfl
    rw [hm]
    exact (chain_comma _ weekdays 0 (-1)).symm
  · rw [WD_neg n h, chain_not]
    intro F hF e
    obtain ⟨G, _, rfl⟩ := List.mem_map.1 hF
    have hl : (n.map glyph_Fold.low).getLast? = some 44 := by rw [e]; simp
    rw [List.getLast?_map] at hl
    cases hg : n.getLast? with
    | none => rw [hg] at hl; cases hl
    | some c =>
      rw [hg] at hl
      have : glyph_Fold.low c = 44 := by simpa using hl
      rw [low_comma c this] at hg
      exact h hg
theorem week_name (j : Nat) (h : j < 7) : ∃ N F : List UInt8, bulletinref22_Week.f (j : Int) = some (bb N) ∧ (N ++ [44]).map glyph_Fold.low = F ∧ weekC[j]? = some F ∧ N.length ≤ 200 := by
  have : j = 0 ∨ j = 1 ∨ j = 2 ∨ j = 3 ∨ j = 4 ∨ j = 5 ∨ j = 6 := by omega
  rcases this with h | h | h | h | h | h | h <;> subst h
  · exact ⟨[83, 117, 110], _, by decide +kernel, rfl, by decide +kernel, by decide⟩
  · exact ⟨[77, 111, 110], _, by decide +kernel, rfl, by decide +kernel, by decide⟩
  · exact ⟨[84, 117, 101], _, by decide +kernel, rfl, by decide +kernel, by decide⟩
  · exact ⟨[87, 101, 100], _, by decide +kernel, rfl, by decide +kernel, by decide⟩
  · exact ⟨[84, 104, 117], _, by decide +kernel, rfl, by decide +kernel, by decide⟩
  · exact ⟨[70, 114, 105], _, by decide +kernel, rfl, by decide +kernel, by decide⟩
  · exact ⟨[83, 97, 116], _, by decide +kernel, rfl, by decide +kernel, by decide⟩
theorem rRead_l0 (n : List UInt8) (ws : List (List UInt8)) (hn : n.length ≤ 300) : ∀ (t j k : Nat) (x : Int), j + t = 7 → 400 + t ≤ k →
    bulletinref22_Read.l0 k ((n :: ws).map bb) x (j : Int) = bulletinref22_Read.l0 (k - t) ((n :: ws).map bb) (last (n.map glyph_Fold.low) (weekC.drop j) (j : Int) x) 7 := by
  intro t
  induction t with
  | zero =>
    intro j k x hj hk
    obtain rfl : j = 7 := by omega
    rw [show weekC.drop 7 = [] from rfl, last]
    rfl
  | succ t ih =>
    intro j k x hj hk
    obtain ⟨k, rfl⟩ : ∃ k', k = k' + 1 := ⟨k - 1, by omega⟩
    obtain ⟨N, F, h1, h2, h3, h4⟩ := week_name j (by omega)
    have hd : weekC.drop j = F :: weekC.drop (j + 1) := by
      have hlt := (List.getElem?_eq_some_iff.1 h3).1
      rw [List.drop_eq_getElem_cons hlt, (List.getElem?_eq_some_iff.1 h3).2]
    rw [bulletinref22_Read.l0, if_pos (by omega), if_pos (by simp), show rdOf ByteArray.empty ((n :: ws).map bb) 0 = bb n from rfl, refFold_is n k (by omega) (by omega), h1]
    simp only [Option.bind_some]
    rw [bb_size, if_pos (by omega), show (⟨#[44]⟩ : ByteArray) = bb [44] from rfl, bb_append, refFold_is (N ++ [44]) k (by simp; omega) (by simp; omega), h2]
    simp only [Option.bind_some, bb_toList]
    rw [w64 (n := (j : Int) + 1) (by omega) (by omega), hd, last, show k + 1 - (t + 1) = k - t by omega]
    have e1 := ih (j + 1) k (if n.map glyph_Fold.low = F then (j : Int) else x) (by omega) (by omega)
    rw [show ((j + 1 : Nat) : Int) = (j : Int) + 1 by omega] at e1
    rw [← e1]
    by_cases hx : n.map glyph_Fold.low = F
    · rw [if_pos hx, if_pos hx]
    · rw [if_neg hx, if_neg hx]
theorem refRead_is (k : Nat) (hk : 71000 ≤ k) (l : List UInt8) (hl : l.length ≤ 300) : bulletinref22_Read.f k (bb l) = some (RDW (wordsB [] l)) := by
  have hs := wordsB_short l []
  simp only [List.length_nil, Nat.zero_add] at hs
  unfold bulletinref22_Read.f
  rw [refWords_is l k (by omega) (by omega)]
  simp only [Option.bind_some, List.length_map]
  generalize wordsB [] l = ws at hs
  by_cases h6 : ws.length = 6
  · match ws, h6, hs with
    | [n, a, b, c, d, e], _, hs =>
      have hn := hs n (by simp)
      have ha := hs a (by simp)
      have hb := hs b (by simp)
      have hc := hs c (by simp)
      have hd := hs d (by simp)
      have he := hs e (by simp)
      have l0 := rRead_l0 n [a, b, c, d, e] (by omega) 7 0 k (-1) rfl (by omega)
      rw [List.drop_zero, last_chain _ _ _ _ weekC_apart, show ((0 : Nat) : Int) = 0 from rfl, ← WD_chain] at l0
      obtain ⟨k', hk'⟩ : ∃ k', k - 7 = k' + 1 := ⟨k - 8, by omega⟩
      rw [if_pos (by simp), l0, hk', bulletinref22_Read.l0, if_neg (by decide), RDW_six]
      by_cases hw : WD n < 0
      · rw [if_pos hw, if_pos hw]
      · rw [if_neg hw, if_neg hw, if_pos (by simp), show ([n, a, b, c, d, e].map bb).drop ((1 : Int)).toNat = [a, b, c, d, e].map bb from rfl, rRead_j1 k' (by omega) a b c d e _ (by omega) (by omega) (by omega) (by omega) (by omega)]
  · rw [if_neg (by omega)]
    by_cases h5 : ws.length = 5
    · match ws, h5, hs with
      | [a, b, c, d, e], _, hs =>
        rw [rRead_j1 k (by omega) a b c d e _ (by have := hs a (by simp); omega) (by have := hs b (by simp); omega) (by have := hs c (by simp); omega) (by have := hs d (by simp); omega) (by have := hs e (by simp); omega)]
        rfl
    · rw [rRead_j1n k (by omega) ws _ h5, RDW_other ws h6 h5]
/-- Both Reads of a text of at most 300 bytes are one. -/
theorem reads_both (k : Nat) (hk : 71000 ≤ k) (s : ByteArray) (hs : s.size ≤ 300) : ∃ r, date_Read.f k s = some r ∧ bulletinref22_Read.f k s = some r := by
  rw [of_bb2 s] at hs ⊢
  rw [bb_size] at hs
  exact ⟨_, read_is k (by omega) _ hs, refRead_is k hk _ hs⟩
end
section
/- NOT BUILT YET. DateReads is true of any text. -/
theorem dateReads_pure (s : ByteArray) : bulletinlaw22_DateReads.f 71000 s = some true := by
  unfold bulletinlaw22_DateReads.f
  rw [example_at 71000 (by omega)]
  by_cases h : (s.size : Int) > 300
  · rw [if_pos h]; rfl
  · obtain ⟨r, e1, e2⟩ := reads_both 71000 (Nat.le_refl _) s (by omega)
    rw [if_neg h, e1, e2]
    simp
end
end Go.Proofs.YtocdojegoakmoaaDoor.Z
