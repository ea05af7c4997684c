import Derived.Test.YtcpmoolpbeeedaaGreatDoorQ5
namespace Go.Proofs.YtcpmoolpbeeedaaGreatDoor.Q
open Go.RowKit Go.Proofs.YtcpmoolpbeeedaaGreatDoorW.PrintWords
set_option linter.unusedVariables false
set_option linter.unusedSimpArgs false
theorem w64 {n : Int} (h0 : -9223372036854775808 ≤ n) (h1 : n ≤ 9223372036854775807) : wrap64 n = n := by unfold wrap64; omega
theorem td (a : Int) (h : 0 ≤ a) (b : Int) : Int.tdiv a b = a / b := Int.tdiv_eq_ediv_of_nonneg h
theorem tm (a : Int) (h : 0 ≤ a) (b : Int) : Int.tmod a b = a % b := Int.tmod_eq_emod_of_nonneg h
def Lp (y : Int) : Bool := decide (y % 4 = 0 ∧ (y % 100 ≠ 0 ∨ y % 400 = 0))
def Yl (y : Int) : Int := if Lp y then 366 else 365
def Yd (y : Int) : Int := 365 * y + (y - 1) / 4 - (y - 1) / 100 + (y - 1) / 400 + 1
def Gb (m : Int) : Int := if m ≤ 1 then 0 else if m = 2 then 31 else if m = 3 then 59 else if m = 4 then 90 else if m = 5 then 120 else if m = 6 then 151 else if m = 7 then 181 else if m = 8 then 212 else if m = 9 then 243 else if m = 10 then 273 else if m = 11 then 304 else if m = 12 then 334 else 365
def Gd (y m : Int) : Int := if 2 < m ∧ Lp y = true then Gb m + 1 else Gb m
def Lg (y m : Int) : Int := if m = 2 then (if Lp y then 29 else 28) else if m = 4 ∨ m = 6 ∨ m = 9 ∨ m = 11 then 30 else 31
theorem Yd_next (y : Int) (h : 1 ≤ y) : Yd (y + 1) = Yd y + Yl y := by
  unfold Yd Yl Lp
  by_cases h4 : y % 4 = 0 <;> by_cases h100 : y % 100 = 0 <;> by_cases h400 : y % 400 = 0 <;> simp [h4, h100, h400] <;> omega
theorem Yl_or (y : Int) : Yl y = 365 ∨ Yl y = 366 := by unfold Yl; split <;> simp
theorem Gd_next (y m : Int) (h1 : 1 ≤ m) (h2 : m ≤ 12) : Gd y (m + 1) = Gd y m + Lg y m := by
  have : m = 1 ∨ m = 2 ∨ m = 3 ∨ m = 4 ∨ m = 5 ∨ m = 6 ∨ m = 7 ∨ m = 8 ∨ m = 9 ∨ m = 10 ∨ m = 11 ∨ m = 12 := by omega
  cases hl : Lp y <;> rcases this with h | h | h | h | h | h | h | h | h | h | h | h <;> subst h <;> simp [Gd, Gb, Lg, hl]
theorem Lg_le (y m : Int) : 28 ≤ Lg y m ∧ Lg y m ≤ 31 := by
  unfold Lg
  cases Lp y <;> (repeat' split) <;> omega
theorem Gd_one (y : Int) : Gd y 1 = 0 := by simp [Gd, Gb]
theorem Gd_end (y : Int) : Gd y 13 = Yl y := by cases hl : Lp y <;> simp [Gd, Gb, Yl, hl]
theorem Gd_le (y m : Int) (h1 : 1 ≤ m) (h2 : m ≤ 13) : 0 ≤ Gd y m ∧ Gd y m ≤ 366 := by
  have : m = 1 ∨ m = 2 ∨ m = 3 ∨ m = 4 ∨ m = 5 ∨ m = 6 ∨ m = 7 ∨ m = 8 ∨ m = 9 ∨ m = 10 ∨ m = 11 ∨ m = 12 ∨ m = 13 := by omega
  cases hl : Lp y <;> rcases this with h | h | h | h | h | h | h | h | h | h | h | h | h <;> subst h <;> simp [Gd, Gb, hl]
theorem Gd_mono (y m m' : Int) (h1 : 1 ≤ m) (h : m ≤ m') (h2 : m' ≤ 13) : Gd y m ≤ Gd y m' := by
  obtain ⟨n, hn⟩ : ∃ n : Nat, m' = m + n := ⟨(m' - m).toNat, by omega⟩
  induction n generalizing m' with
  | zero => rw [hn]; simp
  | succ n ih =>
    have a := ih (m + n) (by omega) (by omega) rfl
    have b := Gd_next y (m + n) (by omega) (by omega)
    have c := Lg_le y (m + n)
    rw [hn, show m + ((n + 1 : Nat) : Int) = m + n + 1 from by omega]; omega
theorem Yd_mono (y y' : Int) (h1 : 1 ≤ y) (h : y ≤ y') : Yd y + 365 * (y' - y) ≤ Yd y' ∧ Yd y' ≤ Yd y + 366 * (y' - y) := by
  obtain ⟨n, hn⟩ : ∃ n : Nat, y' = y + n := ⟨(y' - y).toNat, by omega⟩
  induction n generalizing y' with
  | zero => rw [hn]; simp
  | succ n ih =>
    have a := ih (y + n) (by omega) rfl
    have b := Yd_next (y + n) (by omega)
    have c := Yl_or (y + n)
    rw [hn, show y + ((n + 1 : Nat) : Int) = y + n + 1 from by omega]; omega
theorem Yd_one (n y y' : Int) (h1 : 1 ≤ y) (h1' : 1 ≤ y') (a : Yd y ≤ n) (b : n < Yd (y + 1)) (a' : Yd y' ≤ n) (b' : n < Yd (y' + 1)) : y = y' := by
  rcases Int.lt_trichotomy y y' with h | h | h
  · have := Yd_mono (y + 1) y' (by omega) (by omega); omega
  · exact h
  · have := Yd_mono (y' + 1) y (by omega) (by omega); omega
theorem Gd_uniq (n y m m' : Int) (h1 : 1 ≤ m) (h2 : m ≤ 12) (h1' : 1 ≤ m') (h2' : m' ≤ 12) (a : Gd y m ≤ n) (b : n < Gd y (m + 1)) (a' : Gd y m' ≤ n) (b' : n < Gd y (m' + 1)) : m = m' := by
  rcases Int.lt_trichotomy m m' with h | h | h
  · have := Gd_mono y (m + 1) m' (by omega) (by omega) (by omega); omega
  · exact h
  · have := Gd_mono y (m' + 1) m (by omega) (by omega) (by omega); omega
theorem leap_is (y : Int) (h : 0 ≤ y) : date_leap.f y = some (Lp y) := by
  unfold date_leap.f Lp
  simp only [tm y h]
  by_cases h4 : y % 4 = 0 <;> by_cases h100 : y % 100 = 0 <;> by_cases h400 : y % 400 = 0 <;> simp [h4, h100, h400]
theorem years_is (y : Int) (h : 1 ≤ y) (h' : y ≤ 1000000) : date_years.f y = some (Yd y) := by
  unfold date_years.f Yd
  rw [w64 (n := y - 1) (by omega) (by omega)]
  simp only [td (y - 1) (by omega)]
  simp only [w64 (n := y - 1 + 1) (by omega) (by omega)]
  congr 1
  unfold wrap64
  omega
theorem rd_before (y m : Int) (h1 : 1 ≤ m) (h2 : m ≤ 12) : rd Tab3 (wrap64 (m - 1)) = Gb m := by
  have : m = 1 ∨ m = 2 ∨ m = 3 ∨ m = 4 ∨ m = 5 ∨ m = 6 ∨ m = 7 ∨ m = 8 ∨ m = 9 ∨ m = 10 ∨ m = 11 ∨ m = 12 := by omega
  rcases this with h | h | h | h | h | h | h | h | h | h | h | h <;> subst h <;> decide +kernel
theorem gone_is (y m : Int) (h : 0 ≤ y) (h1 : 1 ≤ m) (h2 : m ≤ 12) : date_gone.f y m = some (Gd y m) := by
  unfold date_gone.f
  have e : wrap64 (m - 1) = m - 1 := w64 (by omega) (by omega)
  rw [if_pos (by rw [e]; omega), if_pos (by rw [e]; omega), rd_before y m h1 h2, leap_is y h]
  have g := Gd_le y m h1 (by omega)
  unfold Gd at *
  by_cases hm : m > 2
  · rw [if_pos hm]
    cases hl : Lp y
    · simp [hl]
    · rw [w64 (by simp [hl] at g; split at g <;> omega) (by simp [hl] at g; split at g <;> omega)]
      simp [hl, show 2 < m from hm]
  · rw [if_neg hm, if_neg (by omega)]
theorem civil_l1 (y n : Int) (h : 0 ≤ y) (h0 : 0 ≤ n) (h1 : n ≤ 366) : ∀ (j : Nat) (k : Nat) (m : Int), m = j → j < k → 1 ≤ m → m ≤ 12 → n < Gd y (m + 1) → ∃ m', 1 ≤ m' ∧ m' ≤ 12 ∧ Gd y m' ≤ n ∧ n < Gd y (m' + 1) ∧ date_civil.l1 k n y m = some (y, m', n - Gd y m' + 1) := by
  intro j
  induction j with
  | zero => intro k m hm _ h1; omega
  | succ j ih =>
    intro k m hm hk hm1 hm2 hn
    obtain ⟨k, rfl⟩ : ∃ k', k = k' + 1 := ⟨k - 1, by omega⟩
    have e : date_civil.l1 (k + 1) n y m = (date_gone.f y m).bind fun t106 => (if t106 > n then (date_civil.l1 k n y (wrap64 (m - 1))) else ((date_gone.f y m).bind fun t107 => (some (y, m, wrap64 ((wrap64 (n - t107)) + 1))))) := by
      conv => lhs; unfold date_civil.l1
    rw [e, gone_is y m h hm1 hm2]
    simp only [Option.bind_some]
    by_cases hg : Gd y m > n
    · rw [if_pos hg, w64 (by omega) (by omega)]
      have : m ≠ 1 := by intro hh; subst hh; rw [Gd_one] at hg; omega
      exact ih k (m - 1) (by omega) (by omega) (by omega) (by omega) (by rw [show m - 1 + 1 = m by omega]; omega)
    · have g := Gd_le y m hm1 (by omega)
      rw [if_neg hg, w64 (n := n - Gd y m) (by omega) (by omega), w64 (by omega) (by omega)]
      exact ⟨m, hm1, hm2, by omega, hn, rfl⟩
def Is (N y m d : Int) : Prop := 1 ≤ y ∧ Yd y ≤ N ∧ N < Yd (y + 1) ∧ 1 ≤ m ∧ m ≤ 12 ∧ Gd y m ≤ N - Yd y ∧ N - Yd y < Gd y (m + 1) ∧ d = N - Yd y - Gd y m + 1
theorem Is.one {N y m d y' m' d' : Int} (h : Is N y m d) (h' : Is N y' m' d') : y = y' ∧ m = m' ∧ d = d' := by
  obtain ⟨a1, a2, a3, a4, a5, a6, a7, a8⟩ := h
  obtain ⟨b1, b2, b3, b4, b5, b6, b7, b8⟩ := h'
  have e := Yd_one N y y' a1 b1 a2 a3 b2 b3
  subst e
  have e := Gd_uniq (N - Yd y) y m m' a4 a5 b4 b5 a6 a7 b6 b7
  subst e
  exact ⟨rfl, rfl, by omega⟩
theorem civil_l0 (N : Int) (hN : N ≤ 20000000) : ∀ (j : Nat) (k : Nat) (y : Int), (60000 - y) ≤ j → j + 13 < k → 1 ≤ y → Yd y ≤ N → ∃ m d y', date_civil.l0 k N y = some (y', m, d) ∧ Is N y' m d := by
  intro j
  induction j with
  | zero =>
    intro k y hj _ h1 hy
    have := Yd_mono 1 y (by omega) (by omega)
    have : Yd 1 = 366 := by decide +kernel
    omega
  | succ j ih =>
    intro k y hj hk h1 hy
    have b1 := Yd_mono 1 y (by omega) (by omega)
    have b0 : Yd 1 = 366 := by decide +kernel
    obtain ⟨k, rfl⟩ : ∃ k', k = k' + 1 := ⟨k - 1, by omega⟩
    have e : date_civil.l0 (k + 1) N y = (date_years.f (wrap64 (y + 1))).bind fun t103 => (if t103 ≤ N then ((date_years.f y).bind fun t104 => (date_civil.l0 k N (wrap64 (y + (mx 1 (wrap64 (Int.tdiv (wrap64 (N - t104)) 366))))))) else ((date_years.f y).bind fun t105 => (date_civil.l1 k (wrap64 (N - t105)) y 12))) := by
      conv => lhs; unfold date_civil.l0
    rw [e, w64 (n := y + 1) (by omega) (by omega), years_is (y + 1) (by omega) (by omega), years_is y h1 (by omega)]
    simp only [Option.bind_some]
    have b2 := Yd_next y h1
    have b3 := Yl_or y
    rw [w64 (n := N - Yd y) (by omega) (by omega), td (N - Yd y) (by omega), w64 (n := (N - Yd y) / 366) (by omega) (by omega)]
    have em : mx 1 ((N - Yd y) / 366) = if 1 < (N - Yd y) / 366 then (N - Yd y) / 366 else 1 := by unfold mx; (repeat' split) <;> omega
    by_cases hc : Yd (y + 1) ≤ N
    · rw [if_pos hc, em]
      by_cases hq : 1 < (N - Yd y) / 366
      · rw [if_pos hq, w64 (by omega) (by omega)]
        have b4 := Yd_mono y (y + (N - Yd y) / 366) h1 (by omega)
        exact ih k _ (by omega) (by omega) (by omega) (by omega)
      · rw [if_neg hq, w64 (by omega) (by omega)]
        exact ih k _ (by omega) (by omega) (by omega) (by omega)
    · rw [if_neg hc]
      have g13 := Gd_end y
      obtain ⟨m, m1, m2, m3, m4, m5⟩ := civil_l1 y (N - Yd y) (by omega) (by omega) (by omega) 12 k 12 rfl (by omega) (by omega) (by omega) (by rw [show (12 : Int) + 1 = 13 by rfl, g13]; omega)
      exact ⟨m, _, y, m5, h1, by omega, by omega, m1, m2, m3, m4, rfl⟩
theorem civil_is (n : Int) (h0 : 0 ≤ n) (h1 : n ≤ 12725829) (k : Nat) (hk : 70000 ≤ k) : ∃ y m d, date_civil.f k n = some (y, m, d) ∧ Is (n + 719528) y m d := by
  unfold date_civil.f
  rw [years_is 1970 (by omega) (by omega), show Yd 1970 = 719528 by decide +kernel]
  simp only [Option.bind_some]
  rw [w64 (n := n + 719528) (by omega) (by omega), td (n + 719528) (by omega), w64 (n := (n + 719528) / 146097) (by omega) (by omega), w64 (n := (n + 719528) / 146097 * 400) (by omega) (by omega)]
  obtain ⟨m, d, y, e, i⟩ := civil_l0 (n + 719528) (by omega) 60000 k ((n + 719528) / 146097 * 400) (by omega) (by omega) (by omega) (by unfold Yd; omega)
  exact ⟨y, m, d, e, i⟩
theorem moment_is (a : Int) : date_moment.f a = some (decide (0 ≤ a ∧ a ≤ 1099511627776)) := by
  unfold date_moment.f
  by_cases h : a ≥ 0
  · rw [if_pos h]; simp [show 0 ≤ a from h]
  · rw [if_neg h]; simp [show ¬ 0 ≤ a from h]
theorem of_is (a : Int) (h0 : 0 ≤ a) (h1 : a ≤ 1099511627776) (k : Nat) (hk : 70000 ≤ k) : ∃ y m d, Is (a / 86400 + 719528) y m d ∧ date_Of.f k a = some (y, m, d, a % 86400 / 3600, a % 86400 / 60 % 60, a % 60, (a / 86400 + 4) % 7, true) := by
  unfold date_Of.f
  rw [moment_is, td a h0, w64 (n := a / 86400) (by omega) (by omega)]
  simp only [Option.bind_some, h0, h1, and_self, decide_true, if_true]
  obtain ⟨y, m, d, e, i⟩ := civil_is (a / 86400) (by omega) (by omega) k hk
  refine ⟨y, m, d, i, ?_⟩
  rw [e]
  simp only [Option.bind_some]
  rw [tm a h0, tm a h0, td (a % 86400) (by omega), td (a % 86400) (by omega), w64 (n := a % 86400 / 3600) (by omega) (by omega), w64 (n := a % 86400 / 60) (by omega) (by omega), w64 (n := a / 86400 + 4) (by omega) (by omega), tm (a % 86400 / 60) (by omega), tm (a / 86400 + 4) (by omega)]
theorem of_not (a : Int) (h : ¬ (0 ≤ a ∧ a ≤ 1099511627776)) (k : Nat) : date_Of.f k a = some (0, 0, 0, 0, 0, 0, 0, false) := by
  unfold date_Of.f
  rw [moment_is]
  simp [h]
end Go.Proofs.YtcpmoolpbeeedaaGreatDoor.Q
