/- The number of a time, as the program reckons it. -/
import Derived.Test.YtcpmoolpbeeedaaGreatDoorDM1
import Derived.Test.YtcpmoolpbeeedaaGreatDoorQD
namespace Go.Proofs.YtcpmoolpbeeedaaGreatDoor.Q
open Go.RowKit Go.Proofs.YtcpmoolpbeeedaaGreatDoorW.PrintWords
set_option linter.unusedVariables false
set_option linter.unusedSimpArgs false

theorem within_is (a lo hi : Int) : date_within.f a lo hi = some (decide (lo ≤ a ∧ a ≤ hi)) := by
  unfold date_within.f
  by_cases h : a ≥ lo
  · rw [if_pos h]; simp [show lo ≤ a from h]
  · rw [if_neg h]; simp [show ¬ lo ≤ a from h]
/-- Is there such a day? -/
def Av (y m d : Int) : Bool := decide (1970 ≤ y ∧ y ≤ 40000 ∧ 1 ≤ m ∧ m ≤ 12 ∧ 1 ≤ d ∧ d ≤ Lg y m)
/-- Is there such a second of a day? -/
def Bv (h i s : Int) : Bool := decide (0 ≤ h ∧ h ≤ 23 ∧ 0 ≤ i ∧ i ≤ 59 ∧ 0 ≤ s ∧ s ≤ 59)
def Sec (y m d h i s : Int) : Int := (Yd y - 719528 + Gd y m + d - 1) * 86400 + h * 3600 + i * 60 + s
def Num (y m d h i s : Int) : Int × Int := if Av y m d = true ∧ Bv h i s = true ∧ 0 ≤ Sec y m d h i s ∧ Sec y m d h i s ≤ 1099511627776 then (Sec y m d h i s, 0) else (0, 1)

theorem sec_range {y m d h i s : Int} (a : Av y m d = true) (b : Bv h i s = true) : 0 ≤ Sec y m d h i s ∧ Sec y m d h i s ≤ 2000000000000 := by
  simp only [Av, Bv, decide_eq_true_eq] at a b
  have y1 := Yd_mono 1970 y (by omega) (by omega)
  have y0 : Yd 1970 = 719528 := by decide +kernel
  have g := Gd_le y m (by omega) (by omega)
  have l := Lg_le y m
  unfold Sec
  omega

theorem num_j1 (k : Nat) (y m d h i s w : Int) (a : Av y m d = true) (b : Bv h i s = true) : date_Number.j1 (k + 1) false y m d h i s w = some (Num y m d h i s) := by
  have r := sec_range a b
  have a' := a; have b' := b
  simp only [Av, Bv, decide_eq_true_eq] at a' b'
  have y1 := Yd_mono 1970 y (by omega) (by omega)
  have y0 : Yd 1970 = 719528 := by decide +kernel
  have g := Gd_le y m (by omega) (by omega)
  have l := Lg_le y m
  rw [date_Number.j1]
  rw [if_neg (by decide), years_is y (by omega) (by omega), years_is 1970 (by omega) (by omega), gone_is y m (by omega) (by omega) (by omega)]
  simp only [Option.bind_some, y0]
  have e : wrap64 ((wrap64 ((wrap64 ((wrap64 ((wrap64 ((wrap64 ((wrap64 ((wrap64 (Yd y - 719528)) + Gd y m)) + d)) - 1)) * 86400)) + (wrap64 (h * 3600)))) + (wrap64 (i * 60)))) + s) = Sec y m d h i s := by
    rw [w64 (n := Yd y - 719528) (by omega) (by omega), w64 (n := Yd y - 719528 + Gd y m) (by omega) (by omega), w64 (n := Yd y - 719528 + Gd y m + d) (by omega) (by omega), w64 (n := Yd y - 719528 + Gd y m + d - 1) (by omega) (by omega), w64 (n := (Yd y - 719528 + Gd y m + d - 1) * 86400) (by omega) (by omega), w64 (n := h * 3600) (by omega) (by omega), w64 (n := i * 60) (by omega) (by omega), w64 (n := (Yd y - 719528 + Gd y m + d - 1) * 86400 + h * 3600) (by omega) (by omega), w64 (n := (Yd y - 719528 + Gd y m + d - 1) * 86400 + h * 3600 + i * 60) (by omega) (by omega)]
    unfold Sec at r ⊢
    rw [w64 (by omega) (by omega)]
  rw [e, moment_is]
  simp only [Option.bind_some]
  unfold Num
  simp only [a, b, true_and]
  by_cases hc : 0 ≤ Sec y m d h i s ∧ Sec y m d h i s ≤ 1099511627776
  · rw [if_pos (by simpa using hc), if_pos hc]
  · rw [if_neg (by simpa using hc), if_neg hc]
theorem num_j1' (k : Nat) (y m d h i s w : Int) : date_Number.j1 (k + 1) true y m d h i s w = some (0, 1) := by
  rw [date_Number.j1, if_pos rfl]
theorem num_j0 (k : Nat) (y m d h i s w : Int) (a : Av y m d = true) : date_Number.j0 (k + 2) false y m d h i s w = some (Num y m d h i s) := by
  rw [date_Number.j0, if_neg (by decide)]
  simp only [within_is, Option.bind_some]
  by_cases h1 : 0 ≤ h ∧ h ≤ 23
  · rw [if_pos (by simpa using h1)]
    by_cases h2 : 0 ≤ i ∧ i ≤ 59
    · rw [if_pos (by simpa using h2)]
      by_cases h3 : 0 ≤ s ∧ s ≤ 59
      · rw [show (!decide (0 ≤ s ∧ s ≤ 59)) = false by simp [h3]]
        exact num_j1 k y m d h i s w a (by simp [Bv, h1, h2, h3])
      · rw [show (!decide (0 ≤ s ∧ s ≤ 59)) = true by simp [h3], num_j1']
        rw [Num, if_neg]
        rintro ⟨_, b, _⟩; simp only [Bv, decide_eq_true_eq] at b; omega
    · rw [if_neg (by simpa using h2), num_j1', Num, if_neg]
      rintro ⟨_, b, _⟩; simp only [Bv, decide_eq_true_eq] at b; omega
  · rw [if_neg (by simpa using h1), num_j1', Num, if_neg]
    rintro ⟨_, b, _⟩; simp only [Bv, decide_eq_true_eq] at b; omega
theorem num_j0' (k : Nat) (y m d h i s w : Int) : date_Number.j0 (k + 1) true y m d h i s w = some (0, 1) := by
  rw [date_Number.j0, if_pos rfl]
theorem num_not {y m d h i s : Int} (a : ¬ (1970 ≤ y ∧ y ≤ 40000 ∧ 1 ≤ m ∧ m ≤ 12 ∧ 1 ≤ d ∧ d ≤ Lg y m)) : Num y m d h i s = (0, 1) := by
  rw [Num, if_neg]
  rintro ⟨b, _⟩; simp only [Av, decide_eq_true_eq] at b; exact a b
/-- The program's number of a time. -/
theorem number_is (k : Nat) (hk : 2 ≤ k) (y m d h i s w : Int) : date_Number.f k y m d h i s w = some (Num y m d h i s) := by
  obtain ⟨k, rfl⟩ : ∃ k', k = k' + 2 := ⟨k - 2, by omega⟩
  unfold date_Number.f
  simp only [within_is, Option.bind_some]
  by_cases h1 : 1970 ≤ y ∧ y ≤ 40000
  · rw [if_pos (by simpa using h1)]
    by_cases h2 : 1 ≤ m ∧ m ≤ 12
    · rw [if_pos (by simpa using h2), long_is y m (by omega) (by omega) (by omega)]
      simp only [Option.bind_some]
      by_cases h3 : 1 ≤ d ∧ d ≤ Lg y m
      · rw [show (!decide (1 ≤ d ∧ d ≤ Lg y m)) = false by simp [h3]]
        exact num_j0 k y m d h i s w (by simp [Av, h1, h2, h3])
      · rw [show (!decide (1 ≤ d ∧ d ≤ Lg y m)) = true by simp [h3], num_j0', num_not (by omega)]
    · rw [if_neg (by simpa using h2), num_j0', num_not (by omega)]
  · rw [if_neg (by simpa using h1), num_j0', num_not (by omega)]

end Go.Proofs.YtcpmoolpbeeedaaGreatDoor.Q
