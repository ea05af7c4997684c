/- DateWrites, in plain words: the document's texts are the program's. -/
import Derived.Test.YtocdojegoakmoaaDoorM0
import Derived.Test.YtocdojegoakmoaaDoorM6
import Derived.Test.YtocdojegoakmoaaDoorQ16
namespace Go.Proofs.YtocdojegoakmoaaDoor.Q
open Go.RowKit Go.Proofs.YtocdojegoakmoaaDoorW.PrintWords
set_option linter.unusedVariables false
set_option linter.unusedSimpArgs false

theorem digit_byte (n : Int) (h : 0 ≤ n) : strOfNums ([(wrap64 (48 + (Int.tmod n 10))) % 256] : List Int) = bb [UInt8.ofNat (48 + n.toNat % 10)] := by
  unfold strOfNums bb
  rw [tm n h, w64 (by omega) (by omega)]
  simp only [List.map_cons, List.map_nil]
  rw [show ((48 + n % 10) % 256).toNat = 48 + n.toNat % 10 by omega]
theorem refDigits_l0 : ∀ (j k : Nat) (n c : Int) (acc : List UInt8), 0 ≤ n → n < (10 : Int) ^ j → 1 ≤ c → c + j ≤ 20 → acc.length ≤ 1000 - j → n ≤ 1000000 →
    bulletinref01_Digits.l0 (j + 1 + k) n (bb acc) c = some (if n = 0 then bb acc else bb (Lib.decDigits n.toNat ++ acc))
  | 0, k, n, c, acc, h0, hn, hc, hj, ha, hb => by
    obtain rfl : n = 0 := by simp at hn; omega
    rw [show 0 + 1 + k = k + 1 by omega, bulletinref01_Digits.l0, if_neg (by omega), if_neg (by omega)]
    simp
  | j + 1, k, n, c, acc, h0, hn, hc, hj, ha, hb => by
    rw [show j + 1 + 1 + k = (j + 1 + k) + 1 by omega, bulletinref01_Digits.l0, if_neg (by omega)]
    by_cases hz : n > 0
    · rw [if_pos hz, if_pos (by omega)]
      simp only [Option.bind_some]
      rw [digit_byte n h0, bb_size, bb_size, if_pos (by simp only [List.length_cons, List.length_nil]; omega), td n h0, w64 (n := n / 10) (by omega) (by omega), w64 (n := c + 1) (by omega) (by omega), bb_append]
      have hp : (10 : Int) ^ (j + 1) = 10 * 10 ^ j := by rw [Int.pow_succ]; omega
      rw [refDigits_l0 j k (n / 10) (c + 1) _ (by omega) (by omega) (by omega) (by omega) (by simp only [List.length_append, List.length_cons, List.length_nil]; omega) (by omega)]
      rw [if_neg (show ¬ n = 0 by omega)]
      congr 1
      by_cases h10 : n / 10 = 0
      · rw [if_pos h10, Lib.decDigits_one (by omega), show n.toNat % 10 = n.toNat by omega]
      · rw [if_neg h10]
        conv => rhs; rw [Lib.decDigits, dif_neg (by omega)]
        rw [show (n / 10).toNat = n.toNat / 10 by omega]
        simp
    · rw [if_neg hz, if_pos (by omega)]
theorem refDigits_is (k : Nat) (hk : 20 ≤ k) (n : Int) (h0 : 0 ≤ n) (h1 : n ≤ 1000000) : bulletinref01_Digits.f k n = some (num n) := by
  obtain ⟨k, rfl⟩ : ∃ k', k = 8 + 1 + k' + 1 := ⟨k - 10, by omega⟩
  unfold bulletinref01_Digits.f
  rw [bulletinref01_Digits.l0, if_pos rfl]
  simp only [Option.bind_some]
  rw [digit_byte n h0, bb_size, if_pos (by simp only [List.length_cons, List.length_nil]; show 1 + 0 ≤ _; omega), td n h0, w64 (n := n / 10) (by omega) (by omega), w64 (n := 0 + 1) (by omega) (by omega), show (⟨#[]⟩ : ByteArray) = bb [] from rfl, bb_append]
  rw [refDigits_l0 8 k (n / 10) (0 + 1) _ (by omega) (by show n / 10 < 100000000; omega) (by omega) (by omega) (by simp) (by omega)]
  unfold num Lib.itoa
  rw [if_neg (show ¬ n < 0 by omega)]
  congr 1
  by_cases h10 : n / 10 = 0
  · rw [if_pos h10, Lib.decDigits_one (by omega), show n.toNat % 10 = n.toNat by omega]; rfl
  · rw [if_neg h10]
    conv => rhs; rw [Lib.decDigits, dif_neg (by omega)]
    rw [show (n / 10).toNat = n.toNat / 10 by omega]
    simp
theorem refTwo_is (k : Nat) (hk : 20 ≤ k) (n : Int) (h0 : 0 ≤ n) (h1 : n < 100) : bulletinref22_two.f k n = some (twoB n) := by
  unfold bulletinref22_two.f
  rw [td n h0, tm n h0, w64 (n := n / 10) (by omega) (by omega), refDigits_is k hk (n / 10) (by omega) (by omega), refDigits_is k hk (n % 10) (by omega) (by omega)]
  have a := num_size (n / 10) (by omega) (by omega)
  have b := num_size (n % 10) (by omega) (by omega)
  simp only [Option.bind_some]
  rw [if_pos (by omega)]
  unfold num twoB Lib.itoa
  rw [if_neg (by omega), if_neg (by omega), Lib.decDigits_one (by omega), Lib.decDigits_one (by omega), bb_append, show (n / 10).toNat = n.toNat / 10 by omega, show (n % 10).toNat = n.toNat % 10 by omega]
  rfl
theorem refClock_is (k : Nat) (hk : 20 ≤ k) (y m d h i s w : Int) (h0 : 0 ≤ h) (h1 : h < 24) (i0 : 0 ≤ i) (i1 : i < 60) (s0 : 0 ≤ s) (s1 : s < 60) : bulletinref22_clock.f k y m d h i s w = some (clockB h i s) := by
  unfold bulletinref22_clock.f
  rw [refTwo_is k hk h h0 (by omega), refTwo_is k hk i i0 (by omega), refTwo_is k hk s s0 (by omega)]
  simp only [Option.bind_some, twoB_size]
  rw [if_pos (by omega), if_pos (by omega), if_pos (by omega), if_pos (by omega)]
  rfl
theorem refWeek_is (w : Int) (h0 : 0 ≤ w) (h1 : w < 7) : bulletinref22_Week.f w = some (weekB w) := by
  have : w = 0 ∨ w = 1 ∨ w = 2 ∨ w = 3 ∨ w = 4 ∨ w = 5 ∨ w = 6 := by omega
  rcases this with h | h | h | h | h | h | h <;> subst h <;> decide +kernel
theorem refMonth_is (m : Int) (h1 : 1 ≤ m) (h2 : m ≤ 12) : bulletinref22_Month.f m = some (monthB m) := by
  have : m = 1 ∨ m = 2 ∨ m = 3 ∨ m = 4 ∨ m = 5 ∨ m = 6 ∨ m = 7 ∨ m = 8 ∨ m = 9 ∨ m = 10 ∨ m = 11 ∨ m = 12 := by omega
  rcases this with h | h | h | h | h | h | h | h | h | h | h | h <;> subst h <;> decide +kernel
theorem refMail_is (a : Int) (h0 : 0 ≤ a) (h1 : a ≤ 1099511627776) (k : Nat) (hk : 20 ≤ k) (y m d : Int) (i : Is (a / 86400 + 719528) y m d) (e : bulletinref22_Of.f k a = some (y, m, d, a % 86400 / 3600, a % 86400 / 60 % 60, a % 60, (a / 86400 + 4) % 7, true)) :
    bulletinref22_Mail.f k a = some (mailB y m d (a % 86400 / 3600) (a % 86400 / 60 % 60) (a % 60) ((a / 86400 + 4) % 7)) := by
  have sm := i.small (by omega) (by omega)
  have l := Lg_le y m
  have hw := weekB_size ((a / 86400 + 4) % 7) (by omega) (by omega)
  have hm := monthB_size m (by omega) (by omega)
  have hd := num_size d (by omega) (by omega)
  have hy := num_size y (by omega) (by omega)
  have hc := clockB_size (a % 86400 / 3600) (a % 86400 / 60 % 60) (a % 60)
  unfold bulletinref22_Mail.f
  rw [e]
  simp only [Option.bind_some, if_true]
  rw [refWeek_is _ (by omega) (by omega), refMonth_is m (by omega) (by omega), refDigits_is k hk d (by omega) (by omega), refDigits_is k hk y (by omega) (by omega), refClock_is k hk _ _ _ _ _ _ _ (by omega) (by omega) (by omega) (by omega) (by omega) (by omega)]
  simp only [Option.bind_some]
  rw [if_pos (by omega), if_pos (by omega), if_pos (by omega), if_pos (by omega), if_pos (by omega), if_pos (by omega), if_pos (by omega), if_pos (by omega), if_pos (by omega)]
  rfl
theorem num_one (d : Int) (h0 : 0 ≤ d) (h1 : d < 100) : ((num d).size : Int) = 1 ↔ d < 10 := by
  unfold num Lib.itoa
  rw [if_neg (by omega), bb_size]
  by_cases h : d < 10
  · rw [Lib.decDigits_one (by omega)]; simp [h]
  · rw [Lib.decDigits_two (by omega) (by omega)]; simp; omega
theorem refLine_is (a : Int) (h0 : 0 ≤ a) (h1 : a ≤ 1099511627776) (k : Nat) (hk : 30 ≤ k) (y m d : Int) (i : Is (a / 86400 + 719528) y m d) (e : bulletinref22_Of.f k a = some (y, m, d, a % 86400 / 3600, a % 86400 / 60 % 60, a % 60, (a / 86400 + 4) % 7, true)) :
    bulletinref22_Line.f k a = some (lineB y m d (a % 86400 / 3600) (a % 86400 / 60 % 60) (a % 60) ((a / 86400 + 4) % 7)) := by
  have sm := i.small (by omega) (by omega)
  have l := Lg_le y m
  have hw := weekB_size ((a / 86400 + 4) % 7) (by omega) (by omega)
  have hm := monthB_size m (by omega) (by omega)
  have hd := num_size d (by omega) (by omega)
  have hy := num_size y (by omega) (by omega)
  have hc := clockB_size (a % 86400 / 3600) (a % 86400 / 60 % 60) (a % 60)
  have ho := num_one d (by omega) (by omega)
  obtain ⟨k, rfl⟩ : ∃ k', k = k' + 1 := ⟨k - 1, by omega⟩
  have j : ∀ x : ByteArray, x.size ≤ 9 → bulletinref22_Line.j0 (k + 1) x y m d (a % 86400 / 3600) (a % 86400 / 60 % 60) (a % 60) ((a / 86400 + 4) % 7) =
      some ((((((((weekB ((a / 86400 + 4) % 7) ++ (⟨#[32]⟩ : ByteArray)) ++ monthB m) ++ (⟨#[32]⟩ : ByteArray)) ++ x) ++ (⟨#[32]⟩ : ByteArray)) ++ clockB (a % 86400 / 3600) (a % 86400 / 60 % 60) (a % 60)) ++ (⟨#[32]⟩ : ByteArray)) ++ num y) := by
    intro x hx
    rw [bulletinref22_Line.j0, refWeek_is _ (by omega) (by omega), refMonth_is m (by omega) (by omega), refDigits_is k (by omega) y (by omega) (by omega), refClock_is k (by omega) _ _ _ _ _ _ _ (by omega) (by omega) (by omega) (by omega) (by omega) (by omega)]
    simp only [Option.bind_some]
    rw [if_pos (by omega), if_pos (by omega), if_pos (by omega), if_pos (by omega), if_pos (by omega), if_pos (by omega), if_pos (by omega), if_pos (by omega)]
  unfold bulletinref22_Line.f lineB
  rw [e]
  simp only [Option.bind_some, if_true]
  rw [refDigits_is (k + 1) (by omega) d (by omega) (by omega)]
  simp only [Option.bind_some]
  by_cases h10 : d < 10
  · rw [if_pos (ho.2 h10), if_pos (by omega), j _ (by rw [ByteArray.size_append, one_size]; omega), if_pos h10]
  · rw [if_neg (fun h => h10 (ho.1 h)), j _ (by omega), if_neg h10]
theorem refMail_not (a : Int) (h : ¬ (0 ≤ a ∧ a ≤ 1099511627776)) (k : Nat) : bulletinref22_Mail.f k a = some (⟨#[]⟩ : ByteArray) := by
  unfold bulletinref22_Mail.f
  rw [refOf_not a h]
  simp
theorem refLine_not (a : Int) (h : ¬ (0 ≤ a ∧ a ≤ 1099511627776)) (k : Nat) : bulletinref22_Line.f k a = some (⟨#[]⟩ : ByteArray) := by
  unfold bulletinref22_Line.f
  rw [refOf_not a h]
  simp
theorem dateWrites_pure (a : Int) : bulletinlaw22_DateWrites.f 70000 a = some true := by
  unfold bulletinlaw22_DateWrites.f
  by_cases h : 0 ≤ a ∧ a ≤ 1099511627776
  · obtain ⟨y, m, d, i, e⟩ := of_is a h.1 h.2 70000 (Nat.le_refl _)
    obtain ⟨y', m', d', i', e'⟩ := refOf_is a h.1 h.2 70000 (Nat.le_refl _)
    obtain ⟨rfl, rfl, rfl⟩ := i.one i'
    rw [mail_is a h.1 h.2 70000 y m d i e, refMail_is a h.1 h.2 70000 (by omega) y m d i e', line_is a h.1 h.2 70000 y m d i e, refLine_is a h.1 h.2 70000 (by omega) y m d i e', example_at 70000 (by omega)]
    simp
  · rw [mail_not a h, refMail_not a h, line_not a h, refLine_not a h, example_at 70000 (by omega)]
    simp
end Go.Proofs.YtocdojegoakmoaaDoor.Q
