/- DateGoes, in plain words: the next second of the day, or the first of the next day. -/
import Derived.Test.YtocdojegoakmoaaDoorM3
import Derived.Test.YtocdojegoakmoaaDoorQ13
namespace Go.Proofs.YtocdojegoakmoaaDoor.Q
open Go.RowKit Go.Proofs.YtocdojegoakmoaaDoorW.PrintWords
set_option linter.unusedVariables false
set_option linter.unusedSimpArgs false

/-- What a second of a day is made of. -/
theorem clock_sum (a : Int) (h : 0 ≤ a) : wrap64 ((wrap64 ((wrap64 (a % 86400 / 3600 * 3600)) + (wrap64 (a % 86400 / 60 % 60 * 60)))) + a % 60) = a % 86400 := by
  rw [w64 (n := a % 86400 / 3600 * 3600) (by omega) (by omega), w64 (n := a % 86400 / 60 % 60 * 60) (by omega) (by omega), w64 (n := a % 86400 / 3600 * 3600 + a % 86400 / 60 % 60 * 60) (by omega) (by omega), w64 (by omega) (by omega)]
  omega
/-- The next day: the next of the month, or the first of the next month, or of the next year. -/
theorem Is.next {N y m d : Int} (h : Is N y m d) : Is (N + 1) y m (d + 1) ∧ d + 1 ≠ 1 ∨ d ≥ 28 ∧ (m ≤ 11 ∧ Is (N + 1) y (m + 1) 1 ∨ m = 12 ∧ Is (N + 1) (y + 1) 1 1) := by
  obtain ⟨h1, h2, h3, h4, h5, h6, h7, h8⟩ := h
  have g := Gd_next y m h4 h5
  have l := Lg_le y m
  have n := Yd_next y h1
  by_cases hm : N + 1 - Yd y < Gd y (m + 1)
  · left
    refine ⟨⟨h1, by omega, ?_, h4, h5, by omega, hm, by omega⟩, by have := Gd_le y m h4 (by omega); omega⟩
    have e := Gd_end y
    have := Gd_mono y (m + 1) 13 (by omega) (by omega) (by omega)
    omega
  · right
    refine ⟨by omega, ?_⟩
    by_cases h12 : m = 12
    · right
      subst h12
      have e := Gd_end y
      rw [show (12 : Int) + 1 = 13 by rfl] at *
      have n2 := Yd_next (y + 1) (by omega)
      have y2 := Yl_or (y + 1)
      have g1 := Gd_one (y + 1)
      have g2 := Gd_next (y + 1) 1 (by omega) (by omega)
      have l2 := Lg_le (y + 1) 1
      exact ⟨rfl, by omega, by omega, by omega, by omega, by omega, by omega, by omega, by omega⟩
    · left
      have g2 := Gd_next y (m + 1) (by omega) (by omega)
      have l2 := Lg_le y (m + 1)
      have e := Gd_end y
      have := Gd_mono y (m + 1 + 1) 13 (by omega) (by omega) (by omega)
      exact ⟨by omega, h1, by omega, by omega, by omega, by omega, by omega, by omega, by omega⟩

theorem dateGoes_pure (a : Int) : bulletinlaw22_DateGoes.f 70004 a = some true := by
  unfold bulletinlaw22_DateGoes.f
  rw [works_at 70004 (by omega)]
  simp only [Option.bind_some, if_true]
  by_cases h0 : a < 0
  · rw [if_pos h0, bulletinlaw22_DateGoes.j0, if_pos rfl]
  rw [if_neg h0]
  by_cases h1 : a ≥ 1099511627776
  · rw [decide_eq_true h1, bulletinlaw22_DateGoes.j0, if_pos rfl]
  rw [decide_eq_false h1, bulletinlaw22_DateGoes.j0, if_neg (by decide), w64 (n := a + 1) (by omega) (by omega)]
  obtain ⟨y, m, d, i, e⟩ := of_is a (by omega) (by omega) 70003 (by omega)
  obtain ⟨y', m', d', i', e'⟩ := of_is (a + 1) (by omega) (by omega) 70003 (by omega)
  rw [e, e']
  simp only [Option.bind_some, if_true, Bool.not_true]
  rw [bulletinlaw22_DateGoes.j1, if_neg (by decide), clock_sum a (by omega), clock_sum (a + 1) (by omega)]
  have split2 : ∀ r, bulletinlaw22_DateGoes.j2 70002 a (a % 86400) ((a + 1) % 86400) (decide (y = y') && (m == m')) y m d (a % 86400 / 3600) (a % 86400 / 60 % 60) (a % 60) ((a / 86400 + 4) % 7) y' m' d' ((a + 1) % 86400 / 3600) ((a + 1) % 86400 / 60 % 60) ((a + 1) % 60) (((a + 1) / 86400 + 4) % 7) = r →
      (if y = y' then bulletinlaw22_DateGoes.j2 70002 a (a % 86400) ((a + 1) % 86400) (m == m') y m d (a % 86400 / 3600) (a % 86400 / 60 % 60) (a % 60) ((a / 86400 + 4) % 7) y' m' d' ((a + 1) % 86400 / 3600) ((a + 1) % 86400 / 60 % 60) ((a + 1) % 60) (((a + 1) / 86400 + 4) % 7)
       else bulletinlaw22_DateGoes.j2 70002 a (a % 86400) ((a + 1) % 86400) false y m d (a % 86400 / 3600) (a % 86400 / 60 % 60) (a % 60) ((a / 86400 + 4) % 7) y' m' d' ((a + 1) % 86400 / 3600) ((a + 1) % 86400 / 60 % 60) ((a + 1) % 60) (((a + 1) / 86400 + 4) % 7)) = r := by
    intro r hr
    by_cases hy : y = y'
    · rw [if_pos hy]; simpa [hy] using hr
    · rw [if_neg hy]; simpa [hy] using hr
  refine split2 _ ?_
  rw [bulletinlaw22_DateGoes.j2, w64 (n := a % 86400 + 1) (by omega) (by omega), w64 (n := a + 1) (by omega) (by omega), w64 (n := (a / 86400 + 4) % 7 + 1) (by omega) (by omega), tm _ (by omega)]
  by_cases hs : a % 86400 < 86399
  · have ed : (a + 1) / 86400 = a / 86400 := by omega
    rw [ed] at i'
    obtain ⟨rfl, rfl, rfl⟩ := i.one i'
    rw [if_pos hs, if_pos (by omega), if_pos (by simp), if_pos rfl, if_pos (by rw [ed]), day_is, day_is]
    simp only [Option.bind_some]
    rw [if_pos (by omega), if_pos (by omega), ed]
    simp
  · have ed : (a + 1) / 86400 = a / 86400 + 1 := by omega
    rw [if_neg hs, if_pos (by omega), if_pos (by omega), day_is, day_is]
    simp only [Option.bind_some]
    rw [if_pos (by omega), if_pos (by omega), ed, w64 (n := a / 86400 + 1) (by omega) (by omega), show (a / 86400 + 1 != a / 86400 + 1) = false by simp, bulletinlaw22_DateGoes.j3, if_neg (by decide)]
    rw [ed, show a / 86400 + 1 + 719528 = a / 86400 + 719528 + 1 by omega] at i'
    have i0 := i
    obtain ⟨j1, j2, j3, j4, j5, j6, j7, j8⟩ := i0
    have yb := Yd_mono 1 y (by omega) (by omega)
    have y0 : Yd 1 = 366 := by decide +kernel
    have db := Gd_next y m j4 j5
    have dl := Lg_le y m
    rw [w64 (n := m + 1) (by omega) (by omega), w64 (n := y + 1) (by omega) (by omega), w64 (n := d + 1) (by omega) (by omega)]
    rcases i.next with ⟨n, hd⟩ | ⟨h28, ⟨h11, n⟩ | ⟨h12, n⟩⟩
    · obtain ⟨rfl, rfl, rfl⟩ := n.one i'
      rw [if_neg hd]
      simp
    · obtain ⟨rfl, rfl, rfl⟩ := n.one i'
      rw [if_pos rfl, if_pos h28, if_pos rfl, if_pos rfl]
    · obtain ⟨rfl, rfl, rfl⟩ := n.one i'
      rw [if_pos rfl, if_pos h28, if_neg (by omega), if_pos rfl, if_pos rfl, h12]
      rfl
end Go.Proofs.YtocdojegoakmoaaDoor.Q
