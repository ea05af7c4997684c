import Derived.Test.YtcpmoolpbeeedaaGreatDoorDM1
import Derived.Test.YtcpmoolpbeeedaaGreatDoorDM6
import Derived.Test.YtcpmoolpbeeedaaGreatDoorQ21
import Derived.Test.YtcpmoolpbeeedaaGreatDoorQ22
import Derived.Test.YtcpmoolpbeeedaaGreatDoorQ23
namespace Go.Proofs.YtcpmoolpbeeedaaGreatDoor.Q
open Go.RowKit Go.Proofs.YtcpmoolpbeeedaaGreatDoorW.PrintWords
set_option linter.unusedVariables false
set_option linter.unusedSimpArgs false
theorem refMoment_is (a : Int) : bulletinref22_Moment.f a = some (decide (0 ≤ a ∧ a ≤ 1099511627776)) := moment_is a
theorem refLeap_is (y : Int) (h : 0 ≤ y) : bulletinref22_Leap.f y = some (Lp y) := by
  unfold bulletinref22_Leap.f Lp
  simp only [tm y h]
  by_cases h4 : y % 4 = 0 <;> by_cases h100 : y % 100 = 0 <;> by_cases h400 : y % 400 = 0 <;> simp [h4, h100, h400] <;> omega
theorem refYear_is (y : Int) (h : 0 ≤ y) : bulletinref22_year.f y = some (Yl y) := by
  unfold bulletinref22_year.f Yl
  rw [refLeap_is y h]
  cases Lp y <;> rfl
theorem refLong_is (y m : Int) (h : 0 ≤ y) (k : Nat) (hk : 1 ≤ k) : bulletinref22_Long.f k y m = some (Lg y m) := by
  obtain ⟨k, rfl⟩ : ∃ k', k = k' + 1 := ⟨k - 1, by omega⟩
  unfold bulletinref22_Long.f Lg
  rw [refLeap_is y h]
  simp only [Option.bind_some, bulletinref22_Long.j0]
  by_cases h2 : m = 2
  · subst h2; cases Lp y <;> rfl
  · by_cases h4 : m = 4 <;> by_cases h6 : m = 6 <;> by_cases h9 : m = 9 <;> by_cases h11 : m = 11 <;> simp [h2, h4, h6, h9, h11]
theorem refOf_l1 (N y x y0 x3 x4 x5 x6 : Int) (hy : 1 ≤ y) : ∀ (j : Nat) (k : Nat) (m n : Int), 13 - m ≤ j → j + 1 < k → 1 ≤ m → m ≤ 12 → 0 ≤ n → n + Gd y m < Yl y → Yd y + Gd y m + n = N → ∃ m' d', bulletinref22_Of.l1 k n y m x x3 x4 x5 x6 = some (y, m', d', x3, x4, x5, x6, true) ∧ Is N y m' d' := by
  intro j
  induction j with
  | zero => intro k m n hj _ hm1 hm2; omega
  | succ j ih =>
    intro k m n hj hk hm1 hm2 hn0 hn1 hN
    obtain ⟨k, rfl⟩ : ∃ k', k = k' + 1 := ⟨k - 1, by omega⟩
    have e : bulletinref22_Of.l1 (k + 1) n y m x x3 x4 x5 x6 = (bulletinref22_Long.f k y m).bind fun t233 => (if n ≥ t233 then ((bulletinref22_Long.f k y m).bind fun t234 => (bulletinref22_Of.l1 k (wrap64 (n - t234)) y (wrap64 (m + 1)) x x3 x4 x5 x6)) else (some (y, m, wrap64 (n + 1), x3, x4, x5, x6, true))) := by
      conv => lhs; unfold bulletinref22_Of.l1
    have c := Lg_le y m
    have c1 := Gd_next y m hm1 hm2
    have c2 := Yl_or y
    have c3 := Gd_le y m hm1 (by omega)
    rw [e, refLong_is y m (by omega) k (by omega)]
    simp only [Option.bind_some]
    by_cases hg : n ≥ Lg y m
    · rw [if_pos hg, w64 (by omega) (by omega), w64 (n := m + 1) (by omega) (by omega)]
      have : m ≠ 12 := by
        intro hh; subst hh
        have := Gd_end y
        rw [show (12 : Int) + 1 = 13 by rfl] at c1
        omega
      exact ih k (m + 1) (n - Lg y m) (by omega) (by omega) (by omega) (by omega) (by omega) (by omega) (by omega)
    · rw [if_neg hg, w64 (by omega) (by omega)]
      have c4 := Yd_next y hy
      exact ⟨m, _, rfl, hy, by omega, by omega, hm1, hm2, by omega, by omega, by omega⟩
theorem refOf_l0 (N x x3 x4 x5 x6 : Int) (hN : N ≤ 20000000) : ∀ (j : Nat) (k : Nat) (y n : Int), (60000 - y) ≤ j → j + 15 < k → 1 ≤ y → 0 ≤ n → Yd y + n = N → ∃ y' m' d', bulletinref22_Of.l0 k n y 1 x x3 x4 x5 x6 = some (y', m', d', x3, x4, x5, x6, true) ∧ Is N y' m' d' := by
  intro j
  induction j with
  | zero =>
    intro k y n hj _ h1 hn hy
    have := Yd_mono 1 y (by omega) (by omega)
    have : Yd 1 = 366 := by decide +kernel
    omega
  | succ j ih =>
    intro k y n hj hk h1 hn hy
    have b1 := Yd_mono 1 y (by omega) (by omega)
    have b0 : Yd 1 = 366 := by decide +kernel
    obtain ⟨k, rfl⟩ : ∃ k', k = k' + 1 := ⟨k - 1, by omega⟩
    have e : bulletinref22_Of.l0 (k + 1) n y 1 x x3 x4 x5 x6 = (bulletinref22_year.f y).bind fun t231 => (if n ≥ t231 then ((bulletinref22_year.f y).bind fun t232 => (bulletinref22_Of.l0 k (wrap64 (n - t232)) (wrap64 (y + 1)) 1 x x3 x4 x5 x6)) else (bulletinref22_Of.l1 k n y 1 x x3 x4 x5 x6)) := by
      conv => lhs; unfold bulletinref22_Of.l0
    have b2 := Yd_next y h1
    have b3 := Yl_or y
    rw [e, refYear_is y (by omega)]
    simp only [Option.bind_some]
    by_cases hc : n ≥ Yl y
    · rw [if_pos hc, w64 (by omega) (by omega), w64 (n := y + 1) (by omega) (by omega)]
      exact ih k (y + 1) (n - Yl y) (by omega) (by omega) (by omega) (by omega) (by omega)
    · rw [if_neg hc]
      obtain ⟨m, d, e1, e2⟩ := refOf_l1 N y x 0 x3 x4 x5 x6 h1 13 k 1 n (by omega) (by omega) (by omega) (by omega) hn (by rw [Gd_one]; omega) (by rw [Gd_one]; omega)
      exact ⟨y, m, d, e1, e2⟩
theorem refOf_is (a : Int) (h0 : 0 ≤ a) (h1 : a ≤ 1099511627776) (k : Nat) (hk : 70000 ≤ k) : ∃ y m d, Is (a / 86400 + 719528) y m d ∧ bulletinref22_Of.f k a = some (y, m, d, a % 86400 / 3600, a % 86400 / 60 % 60, a % 60, (a / 86400 + 4) % 7, true) := by
  unfold bulletinref22_Of.f
  rw [refMoment_is, td a h0, w64 (n := a / 86400) (by omega) (by omega)]
  simp only [Option.bind_some, h0, h1, and_self, decide_true, if_true]
  rw [tm a h0, tm a h0, tm a h0, td (a % 86400) (by omega), td (a % 3600) (by omega), w64 (n := a % 86400 / 3600) (by omega) (by omega), w64 (n := a % 3600 / 60) (by omega) (by omega), w64 (n := a / 86400 + 4) (by omega) (by omega), tm (a / 86400 + 4) (by omega)]
  obtain ⟨y, m, d, e, i⟩ := refOf_l0 (a / 86400 + 719528) 0 (a % 86400 / 3600) (a % 3600 / 60) (a % 60) ((a / 86400 + 4) % 7) (by omega) 60000 k 1970 (a / 86400) (by omega) (by omega) (by omega) (by omega) (by rw [show Yd 1970 = 719528 by decide +kernel]; omega)
  exact ⟨y, m, d, i, by rw [e, show a % 3600 / 60 = a % 86400 / 60 % 60 by omega]⟩
theorem refOf_not (a : Int) (h : ¬ (0 ≤ a ∧ a ≤ 1099511627776)) (k : Nat) : bulletinref22_Of.f k a = some (0, 0, 0, 0, 0, 0, 0, false) := by
  unfold bulletinref22_Of.f
  rw [refMoment_is]
  simp [h]
theorem digit_byte (n : Int) (h : 0 ≤ n) : strOfNums ([(wrap64 (48 + (Int.tmod n 10))) % 256] : List Int) = bb [UInt8.ofNat (48 + n.toNat % 10)] := by
  unfold strOfNums bb
  rw [tm n h, w64 (by omega) (by omega)]
  simp only [List.map_cons, List.map_nil]
  rw [show ((48 + n % 10) % 256).toNat = 48 + n.toNat % 10 by omega]
theorem refDigits_l0 : ∀ (j k : Nat) (n c : Int) (acc : List UInt8), 0 ≤ n → n < (10 : Int) ^ j → 1 ≤ c → c + j ≤ 20 → acc.length ≤ 1000 - j → n ≤ 1000000 →
    bulletinref01_Digits.l0 (j + 1 + k) n (bb acc) c = some (if n = 0 then bb acc else bb (Lib.decDigits n.toNat ++ acc))
  | 0, k, n, c, acc, h0, hn, hc, hj, ha, hb => by
    obtain rfl : n = 0 := by simp at hn; omega
    rw [show 0 + 1 + k = k + 1 by omega, bulletinref01_Digits.l0, if_neg (by omega), if_neg (by omega)]
    simp
  | j + 1, k, n, c, acc, h0, hn, hc, hj, ha, hb => by
    rw [show j + 1 + 1 + k = (j + 1 + k) + 1 by omega, bulletinref01_Digits.l0, if_neg (by omega)]
    by_cases hz : n > 0
    · rw [if_pos hz, if_pos (by omega)]
      simp only [Option.bind_some]
      rw [digit_byte n h0, bb_size, bb_size, if_pos (by simp only [List.length_cons, List.length_nil]; omega), td n h0, w64 (n := n / 10) (by omega) (by omega), w64 (n := c + 1) (by omega) (by omega), bb_append]
      have hp : (10 : Int) ^ (j + 1) = 10 * 10 ^ j := by rw [Int.pow_succ]; omega
      rw [refDigits_l0 j k (n / 10) (c + 1) _ (by omega) (by omega) (by omega) (by omega) (by simp only [List.length_append, List.length_cons, List.length_nil]; omega) (by omega)]
      rw [if_neg (show ¬ n = 0 by omega)]
      congr 1
      by_cases h10 : n / 10 = 0
      · rw [if_pos h10, Lib.decDigits_one (by omega), show n.toNat % 10 = n.toNat by omega]
      · rw [if_neg h10]
        conv => rhs; rw [Lib.decDigits, dif_neg (by omega)]
        rw [show (n / 10).toNat = n.toNat / 10 by omega]
        simp
    · rw [if_neg hz, if_pos (by omega)]
theorem refDigits_is (k : Nat) (hk : 20 ≤ k) (n : Int) (h0 : 0 ≤ n) (h1 : n ≤ 1000000) : bulletinref01_Digits.f k n = some (num n) := by
  obtain ⟨k, rfl⟩ : ∃ k', k = 8 + 1 + k' + 1 := ⟨k - 10, by omega⟩
  unfold bulletinref01_Digits.f
  rw [bulletinref01_Digits.l0, if_pos rfl]
  simp only [Option.bind_some]
  rw [digit_byte n h0, bb_size, if_pos (by simp only [List.length_cons, List.length_nil]; show 1 + 0 ≤ _; omega), td n h0, w64 (n := n / 10) (by omega) (by omega), w64 (n := 0 + 1) (by omega) (by omega), show (⟨#[]⟩ : ByteArray) = bb [] from rfl, bb_append]
  rw [refDigits_l0 8 k (n / 10) (0 + 1) _ (by omega) (by show n / 10 < 100000000; omega) (by omega) (by omega) (by simp) (by omega)]
  unfold num Lib.itoa
  rw [if_neg (show ¬ n < 0 by omega)]
  congr 1
  by_cases h10 : n / 10 = 0
  · rw [if_pos h10, Lib.decDigits_one (by omega), show n.toNat % 10 = n.toNat by omega]; rfl
  · rw [if_neg h10]
    conv => rhs; rw [Lib.decDigits, dif_neg (by omega)]
    rw [show (n / 10).toNat = n.toNat / 10 by omega]
    simp
theorem refTwo_is (k : Nat) (hk : 20 ≤ k) (n : Int) (h0 : 0 ≤ n) (h1 : n < 100) : bulletinref22_two.f k n = some (twoB n) := by
  unfold bulletinref22_two.f
  rw [td n h0, tm n h0, w64 (n := n / 10) (by omega) (by omega), refDigits_is k hk (n / 10) (by omega) (by omega), refDigits_is k hk (n % 10) (by omega) (by omega)]
  have a := num_size (n / 10) (by omega) (by omega)
  have b := num_size (n % 10) (by omega) (by omega)
  simp only [Option.bind_some]
  rw [if_pos (by omega)]
  unfold num twoB Lib.itoa
  rw [if_neg (by omega), if_neg (by omega), Lib.decDigits_one (by omega), Lib.decDigits_one (by omega), bb_append, show (n / 10).toNat = n.toNat / 10 by omega, show (n % 10).toNat = n.toNat % 10 by omega]
  rfl
theorem refClock_is (k : Nat) (hk : 20 ≤ k) (y m d h i s w : Int) (h0 : 0 ≤ h) (h1 : h < 24) (i0 : 0 ≤ i) (i1 : i < 60) (s0 : 0 ≤ s) (s1 : s < 60) : bulletinref22_clock.f k y m d h i s w = some (clockB h i s) := by
  unfold bulletinref22_clock.f
  rw [refTwo_is k hk h h0 (by omega), refTwo_is k hk i i0 (by omega), refTwo_is k hk s s0 (by omega)]
  simp only [Option.bind_some, twoB_size]
  rw [if_pos (by omega), if_pos (by omega), if_pos (by omega), if_pos (by omega)]
  rfl
theorem refWeek_is (w : Int) (h0 : 0 ≤ w) (h1 : w < 7) : bulletinref22_Week.f w = some (weekB w) := by
  have : w = 0 ∨ w = 1 ∨ w = 2 ∨ w = 3 ∨ w = 4 ∨ w = 5 ∨ w = 6 := by omega
  rcases this with h | h | h | h | h | h | h <;> subst h <;> decide +kernel
theorem refMonth_is (m : Int) (h1 : 1 ≤ m) (h2 : m ≤ 12) : bulletinref22_Month.f m = some (monthB m) := by
  have : m = 1 ∨ m = 2 ∨ m = 3 ∨ m = 4 ∨ m = 5 ∨ m = 6 ∨ m = 7 ∨ m = 8 ∨ m = 9 ∨ m = 10 ∨ m = 11 ∨ m = 12 := by omega
  rcases this with h | h | h | h | h | h | h | h | h | h | h | h <;> subst h <;> decide +kernel
theorem num_one (d : Int) (h0 : 0 ≤ d) (h1 : d < 100) : ((num d).size : Int) = 1 ↔ d < 10 := by
  unfold num Lib.itoa
  rw [if_neg (by omega), bb_size]
  by_cases h : d < 10
  · rw [Lib.decDigits_one (by omega)]; simp [h]
  · rw [Lib.decDigits_two (by omega) (by omega)]; simp; omega
theorem refLine_is (a : Int) (h0 : 0 ≤ a) (h1 : a ≤ 1099511627776) (k : Nat) (hk : 30 ≤ k) (y m d : Int) (i : Is (a / 86400 + 719528) y m d) (e : bulletinref22_Of.f k a = some (y, m, d, a % 86400 / 3600, a % 86400 / 60 % 60, a % 60, (a / 86400 + 4) % 7, true)) :
    bulletinref22_Line.f k a = some (lineB y m d (a % 86400 / 3600) (a % 86400 / 60 % 60) (a % 60) ((a / 86400 + 4) % 7)) := by
  have sm := i.small (by omega) (by omega)
  have l := Lg_le y m
  have hw := weekB_size ((a / 86400 + 4) % 7) (by omega) (by omega)
  have hm := monthB_size m (by omega) (by omega)
  have hd := num_size d (by omega) (by omega)
  have hy := num_size y (by omega) (by omega)
  have hc := clockB_size (a % 86400 / 3600) (a % 86400 / 60 % 60) (a % 60)
  have ho := num_one d (by omega) (by omega)
  obtain ⟨k, rfl⟩ : ∃ k', k = k' + 1 := ⟨k - 1, by omega⟩
  have j : ∀ x : ByteArray, x.size ≤ 9 → bulletinref22_Line.j0 (k + 1) x y m d (a % 86400 / 3600) (a % 86400 / 60 % 60) (a % 60) ((a / 86400 + 4) % 7) =
      some ((((((((weekB ((a / 86400 + 4) % 7) ++ (⟨#[32]⟩ : ByteArray)) ++ monthB m) ++ (⟨#[32]⟩ : ByteArray)) ++ x) ++ (⟨#[32]⟩ : ByteArray)) ++ clockB (a % 86400 / 3600) (a % 86400 / 60 % 60) (a % 60)) ++ (⟨#[32]⟩ : ByteArray)) ++ num y) := by
    intro x hx
    rw [bulletinref22_Line.j0, refWeek_is _ (by omega) (by omega), refMonth_is m (by omega) (by omega), refDigits_is k (by omega) y (by omega) (by omega), refClock_is k (by omega) _ _ _ _ _ _ _ (by omega) (by omega) (by omega) (by omega) (by omega) (by omega)]
    simp only [Option.bind_some]
    rw [if_pos (by omega), if_pos (by omega), if_pos (by omega), if_pos (by omega), if_pos (by omega), if_pos (by omega), if_pos (by omega), if_pos (by omega)]
  unfold bulletinref22_Line.f lineB
  rw [e]
  simp only [Option.bind_some, if_true]
  rw [refDigits_is (k + 1) (by omega) d (by omega) (by omega)]
  simp only [Option.bind_some]
  by_cases h10 : d < 10
  · rw [if_pos (ho.2 h10), if_pos (by omega), j _ (by rw [ByteArray.size_append, one_size]; omega), if_pos h10]
  · rw [if_neg (fun h => h10 (ho.1 h)), j _ (by omega), if_neg h10]
theorem refLine_not (a : Int) (h : ¬ (0 ≤ a ∧ a ≤ 1099511627776)) (k : Nat) : bulletinref22_Line.f k a = some (⟨#[]⟩ : ByteArray) := by
  unfold bulletinref22_Line.f
  rw [refOf_not a h]
  simp
end Go.Proofs.YtcpmoolpbeeedaaGreatDoor.Q
