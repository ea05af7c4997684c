/- DateTimes, in plain words: it is true of any input. -/
import Derived.Test.YtocdojegoakmoaaDoorM2
import Derived.Test.YtocdojegoakmoaaDoorQ12
namespace Go.Proofs.YtocdojegoakmoaaDoor.Q
open Go.RowKit Go.Proofs.YtocdojegoakmoaaDoorW.PrintWords
set_option linter.unusedVariables false
set_option linter.unusedSimpArgs false

theorem day_is (a : Int) : date_Day.f a = some (if 0 ≤ a ∧ a ≤ 1099511627776 then a / 86400 else -1) := by
  unfold date_Day.f
  rw [moment_is]
  by_cases h : 0 ≤ a ∧ a ≤ 1099511627776
  · simp only [Option.bind_some, h, and_self, decide_true, if_true]
    rw [td a h.1, w64 (by omega) (by omega)]
  · simp [h]
theorem num_snd (y m d h i s : Int) : (Num y m d h i s).2 = 0 ∨ (Num y m d h i s).2 = 1 := by
  unfold Num; split <;> simp
theorem dateTimes_pure (a0 b0 b1 b2 b3 b4 b5 b6 : Int) : bulletinlaw22_DateTimes.f 70000 a0 b0 b1 b2 b3 b4 b5 b6 = some true := by
  unfold bulletinlaw22_DateTimes.f
  by_cases h : 0 ≤ a0 ∧ a0 ≤ 1099511627776
  · obtain ⟨y, m, d, i, e⟩ := of_is a0 h.1 h.2 70000 (Nat.le_refl _)
    obtain ⟨y', m', d', i', e'⟩ := refOf_is a0 h.1 h.2 70000 (Nat.le_refl _)
    obtain ⟨rfl, rfl, rfl⟩ := i.one i'
    rw [e, e']
    simp only [Option.bind_some, bulletinlaw22_To.f]
    rw [number_is 70000 (by omega), refNumber_is 70000 (Nat.le_refl _), day_is, works_at 70000 (by omega)]
    simp only [Option.bind_some, if_pos h]
    rw [td a0 h.1, w64 (n := a0 / 86400) (by omega) (by omega)]
    simp
  · rw [of_not a0 h, refOf_not a0 h]
    simp only [Option.bind_some, bulletinlaw22_To.f]
    rw [number_is 70000 (by omega), refNumber_is 70000 (Nat.le_refl _), day_is, works_at 70000 (by omega)]
    simp only [Option.bind_some, if_neg h]
    simp
end Go.Proofs.YtocdojegoakmoaaDoor.Q
