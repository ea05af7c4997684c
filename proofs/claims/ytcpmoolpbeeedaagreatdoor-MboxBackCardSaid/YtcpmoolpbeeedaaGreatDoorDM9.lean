/- DateBack, in plain words: what is written of a moment for mail is read as it. -/
import Derived.Test.YtcpmoolpbeeedaaGreatDoorDM12
namespace Go.Proofs.YtcpmoolpbeeedaaGreatDoor.Q
open Go.RowKit Go.Proofs.YtcpmoolpbeeedaaGreatDoorW.PrintWords
set_option linter.unusedVariables false
set_option linter.unusedSimpArgs false

def weekL (w : Int) : List UInt8 := (weekB w).data.toList
def monthL (m : Int) : List UInt8 := (monthB m).data.toList
def twoL (n : Int) : List UInt8 := [UInt8.ofNat (48 + n.toNat / 10), UInt8.ofNat (48 + n.toNat % 10)]
def clockL (h i s : Int) : List UInt8 := twoL h ++ 58 :: (twoL i ++ 58 :: twoL s)
theorem of_bb (s : ByteArray) : s = bb s.data.toList := by simp [bb]
theorem clockB_eq (h i s : Int) : clockB h i s = bb (clockL h i s) := by
  unfold clockB clockL
  rw [show (⟨#[58]⟩ : ByteArray) = bb [58] from rfl, show ∀ n, twoB n = bb (twoL n) from fun _ => rfl, show ∀ n, twoB n = bb (twoL n) from fun _ => rfl, show ∀ n, twoB n = bb (twoL n) from fun _ => rfl]
  simp only [bb_append]
  simp
def mailL (y m d h i s w : Int) : List UInt8 := (weekL w ++ [44]) ++ 32 :: (Lib.itoa d ++ 32 :: (monthL m ++ 32 :: (Lib.itoa y ++ 32 :: (clockL h i s ++ 32 :: [43, 48, 48, 48, 48]))))
theorem mailB_eq (y m d h i s w : Int) : mailB y m d h i s w = bb (mailL y m d h i s w) := by
  unfold mailB mailL num
  rw [clockB_eq, of_bb (weekB w), of_bb (monthB m), show (⟨#[32]⟩ : ByteArray) = bb [32] from rfl, show (⟨#[44, 32]⟩ : ByteArray) = bb [44, 32] from rfl, show (⟨#[32, 43, 48, 48, 48, 48]⟩ : ByteArray) = bb [32, 43, 48, 48, 48, 48] from rfl]
  simp only [bb_append]
  simp [weekL, monthL, bb_list]
theorem wordsB_word (xs l : List UInt8) (h : ∀ c ∈ xs, bw c = false) (hn : xs ≠ []) : wordsB [] (xs ++ 32 :: l) = xs :: wordsB [] l := by
  rw [wordsB_run xs [] _ h, List.nil_append, wordsB, if_pos (by decide), if_neg hn]
theorem wordsB_last (xs : List UInt8) (h : ∀ c ∈ xs, bw c = false) (hn : xs ≠ []) : wordsB [] xs = [xs] := by
  have := wordsB_run xs [] [] h
  rw [List.append_nil, List.nil_append, wordsB, if_neg hn] at this
  exact this
theorem twoL_dig (n : Int) (h0 : 0 ≤ n) (h1 : n < 100) : ∀ c ∈ twoL n, dig c = true := by
  intro c hc
  have : c = UInt8.ofNat (48 + n.toNat / 10) ∨ c = UInt8.ofNat (48 + n.toNat % 10) := by simpa [twoL] using hc
  rcases this with rfl | rfl
  · exact (dig_of _ (by omega)).1
  · exact (dig_of _ (by omega)).1
theorem twoL_worth (n : Int) (h0 : 0 ≤ n) (h1 : n < 100) : (worth 0 (twoL n) : Int) = n := by
  have a := (dig_of (n.toNat / 10) (by omega)).2
  have b := (dig_of (n.toNat % 10) (by omega)).2
  rw [twoL, worth_cons, worth_one _ _ _ b, a]
  omega
theorem weekL_plain (w : Int) (h0 : 0 ≤ w) (h1 : w < 7) : (∀ c ∈ weekL w ++ [44], bw c = false) ∧ weekL w ++ [44] ≠ [] := by
  have : w = 0 ∨ w = 1 ∨ w = 2 ∨ w = 3 ∨ w = 4 ∨ w = 5 ∨ w = 6 := by omega
  rcases this with h | h | h | h | h | h | h <;> subst h <;> decide +kernel
theorem monthL_plain (m : Int) (h1 : 1 ≤ m) (h2 : m ≤ 12) : (∀ c ∈ monthL m, bw c = false) ∧ monthL m ≠ [] := by
  have : m = 1 ∨ m = 2 ∨ m = 3 ∨ m = 4 ∨ m = 5 ∨ m = 6 ∨ m = 7 ∨ m = 8 ∨ m = 9 ∨ m = 10 ∨ m = 11 ∨ m = 12 := by omega
  rcases this with h | h | h | h | h | h | h | h | h | h | h | h <;> subst h <;> decide +kernel
theorem itoa_plain (n : Int) (h : 0 ≤ n) : (∀ c ∈ Lib.itoa n, bw c = false) ∧ Lib.itoa n ≠ [] := by
  refine ⟨fun c hc => (dig_plain c ((itoa_worth n h).2 c hc)).1, ?_⟩
  rw [Lib.itoa, if_neg (by omega)]
  intro e
  have := decDigits_least 0 n.toNat
  by_cases hn : n.toNat = 0
  · rw [hn] at e; rw [Lib.decDigits_one (by omega)] at e; cases e
  · have := this (by simp; omega)
    rw [e] at this; simp at this
theorem clockL_plain (h i s : Int) (h0 : 0 ≤ h) (h1 : h < 24) (i0 : 0 ≤ i) (i1 : i < 60) (s0 : 0 ≤ s) (s1 : s < 60) : (∀ c ∈ clockL h i s, bw c = false) ∧ clockL h i s ≠ [] := by
  refine ⟨fun c hc => ?_, by simp [clockL, twoL]⟩
  have : c ∈ twoL h ∨ c = 58 ∨ c ∈ twoL i ∨ c ∈ twoL s := by
    simp only [clockL, List.mem_append, List.mem_cons] at hc
    rcases hc with hc | hc | hc | hc | hc
    · exact .inl hc
    · exact .inr (.inl hc)
    · exact .inr (.inr (.inl hc))
    · exact .inr (.inl hc)
    · exact .inr (.inr (.inr hc))
  rcases this with hc | rfl | hc | hc
  · exact (dig_plain c (twoL_dig h h0 (by omega) c hc)).1
  · decide
  · exact (dig_plain c (twoL_dig i i0 (by omega) c hc)).1
  · exact (dig_plain c (twoL_dig s s0 (by omega) c hc)).1
theorem mail_words (y m d h i s w : Int) (y0 : 0 ≤ y) (d0 : 0 ≤ d) (m1 : 1 ≤ m) (m2 : m ≤ 12) (w0 : 0 ≤ w) (w1 : w < 7) (h0 : 0 ≤ h) (h1 : h < 24) (i0 : 0 ≤ i) (i1 : i < 60) (s0 : 0 ≤ s) (s1 : s < 60) :
    wordsB [] (mailL y m d h i s w) = [weekL w ++ [44], Lib.itoa d, monthL m, Lib.itoa y, clockL h i s, [43, 48, 48, 48, 48]] := by
  unfold mailL
  rw [wordsB_word _ _ (weekL_plain w w0 w1).1 (weekL_plain w w0 w1).2, wordsB_word _ _ (itoa_plain d d0).1 (itoa_plain d d0).2, wordsB_word _ _ (monthL_plain m m1 m2).1 (monthL_plain m m1 m2).2,
    wordsB_word _ _ (itoa_plain y y0).1 (itoa_plain y y0).2, wordsB_word _ _ (clockL_plain h i s h0 h1 i0 i1 s0 s1).1 (clockL_plain h i s h0 h1 i0 i1 s0 s1).2, wordsB_last _ (by decide) (by decide)]

theorem week_cut (w : Int) (h0 : 0 ≤ w) (h1 : w < 7) : strings_CutSuffix.f (bb (weekL w ++ [44])) (⟨#[44]⟩ : ByteArray) = some (weekB w, true) ∧ date_week.f (weekB w) = some w := by
  have : w = 0 ∨ w = 1 ∨ w = 2 ∨ w = 3 ∨ w = 4 ∨ w = 5 ∨ w = 6 := by omega
  rcases this with h | h | h | h | h | h | h <;> subst h <;> decide +kernel
theorem month_found (m : Int) (h1 : 1 ≤ m) (h2 : m ≤ 12) : date_month.f (bb (monthL m)) = some m := by
  have : m = 1 ∨ m = 2 ∨ m = 3 ∨ m = 4 ∨ m = 5 ∨ m = 6 ∨ m = 7 ∨ m = 8 ∨ m = 9 ∨ m = 10 ∨ m = 11 ∨ m = 12 := by omega
  rcases this with h | h | h | h | h | h | h | h | h | h | h | h <;> subst h <;> decide +kernel
theorem clock_split (h i s : Int) (h0 : 0 ≤ h) (h1 : h < 24) (i0 : 0 ≤ i) (i1 : i < 60) (s0 : 0 ≤ s) (s1 : s < 60) : strings_Split.f (bb (clockL h i s)) (⟨#[58]⟩ : ByteArray) = some [bb (twoL h), bb (twoL i), bb (twoL s)] := by
  unfold strings_Split.f
  rw [if_pos (by rw [bb_size]; simp [clockL, twoL]), if_pos (by decide), splitB_is, bb_list]
  have p : ∀ n, 0 ≤ n → n < 100 → ∀ x ∈ twoL n, x ≠ 58 := fun n a b x hx => (dig_plain x (twoL_dig n a b x hx)).2
  unfold clockL
  rw [splitC_run 58 (twoL h) [] _ (p h h0 (by omega)), splitC, if_pos rfl, splitC_run 58 (twoL i) [] _ (p i i0 (by omega)), splitC, if_pos rfl]
  have := splitC_run 58 (twoL s) [] [] (p s s0 (by omega))
  rw [List.append_nil] at this
  rw [this]
  rfl
theorem two_read (k : Nat) (hk : 10 ≤ k) (n : Int) (h0 : 0 ≤ n) (h1 : n < 100) : date_number.f k (bb (twoL n)) 2 2 = some n := by
  rw [number_digits k (twoL n) 2 2 (twoL_dig n h0 h1) (by simp [twoL]; omega) (by simp [twoL]) (by simp [twoL]) (by simp [twoL]), twoL_worth n h0 h1]
theorem hours_read (k : Nat) (hk : 20 ≤ k) (y m d h i s : Int) (h0 : 0 ≤ h) (h1 : h < 24) (i0 : 0 ≤ i) (i1 : i < 60) (s0 : 0 ≤ s) (s1 : s < 60) :
    date_Time_hours.f k y m d 0 0 0 0 (bb (clockL h i s)) = some (true, y, m, d, h, i, s, 0) := by
  obtain ⟨k, rfl⟩ : ∃ k', k = k' + 1 := ⟨k - 1, by omega⟩
  unfold date_Time_hours.f
  rw [clock_split h i s h0 h1 i0 i1 s0 s1]
  simp only [Option.bind_some, List.length_cons, List.length_nil]
  rw [if_neg (by decide), date_Time_hours.j0]
  simp only [List.length_cons, List.length_nil]
  rw [if_pos (by decide), if_pos (by decide), show ∀ a b c : ByteArray, rdOf ByteArray.empty [a, b, c] 0 = a from fun _ _ _ => rfl, show ∀ a b c : ByteArray, rdOf ByteArray.empty [a, b, c] 1 = b from fun _ _ _ => rfl, show ∀ a b c : ByteArray, rdOf ByteArray.empty [a, b, c] 2 = c from fun _ _ _ => rfl,
    two_read k (by omega) h h0 (by omega), two_read k (by omega) i i0 (by omega), two_read k (by omega) s s0 (by omega)]
  simp only [Option.bind_some]
  rw [if_pos (by decide), if_pos (by decide), if_pos h0, if_pos i0]
  simp [s0]
/-- The number of a moment's time is the moment. -/
theorem num_back (a : Int) (h0 : 0 ≤ a) (h1 : a ≤ 1099511627776) (y m d : Int) (i : Is (a / 86400 + 719528) y m d) : Num y m d (a % 86400 / 3600) (a % 86400 / 60 % 60) (a % 60) = (a, 0) := by
  have sm := i.small (by omega) (by omega)
  obtain ⟨j1, j2, j3, j4, j5, j6, j7, j8⟩ := i
  have e : Sec y m d (a % 86400 / 3600) (a % 86400 / 60 % 60) (a % 60) = a := by unfold Sec; omega
  rw [Num, e, if_pos]
  refine ⟨by simp only [Av, decide_eq_true_eq]; exact sm, by simp only [Bv, decide_eq_true_eq]; omega, h0, h1⟩
end Go.Proofs.YtcpmoolpbeeedaaGreatDoor.Q
