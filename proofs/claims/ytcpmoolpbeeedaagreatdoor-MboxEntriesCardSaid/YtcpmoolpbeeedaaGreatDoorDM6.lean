import Derived.Test.YtcpmoolpbeeedaaGreatDoorDM1
import Derived.Test.YtcpmoolpbeeedaaGreatDoorQ5
import Derived.Test.YtcpmoolpbeeedaaGreatDoorQ6
import Derived.Test.YtcpmoolpbeeedaaGreatDoorQ7
namespace Go.Proofs.YtcpmoolpbeeedaaGreatDoor.Q
open Go.RowKit Go.Proofs.YtcpmoolpbeeedaaGreatDoorW.PrintWords
set_option linter.unusedVariables false
set_option linter.unusedSimpArgs false
def bb (l : List UInt8) : ByteArray := ⟨l.toArray⟩
theorem bb_append (a b : List UInt8) : bb a ++ bb b = bb (a ++ b) := by
  apply ByteArray.ext
  simp [bb, ByteArray.data_append]
theorem bb_size (a : List UInt8) : (bb a).size = a.length := by simp [bb, ByteArray.size]
theorem bb_list (a : List UInt8) : (bb a).data.toList = a := by simp [bb]
def num (n : Int) : ByteArray := bb (Lib.itoa n)
theorem itoa_is (n : Int) (h0 : 0 ≤ n) (h1 : n ≤ 1000000) : strconv_Itoa.f n = some (num n) := by
  unfold strconv_Itoa.f
  rw [if_pos (by omega), if_pos (by omega)]; rfl
theorem decDigits_len : ∀ (j n : Nat), n < 10 ^ j → (Lib.decDigits n).length ≤ j + 1
  | 0, n, h => by
    rw [Lib.decDigits_one (by simp at h; omega)]; simp
  | j + 1, n, h => by
    by_cases hn : n < 10
    · rw [Lib.decDigits_one hn]; simp
    · rw [Lib.decDigits, dif_neg hn]
      have := decDigits_len j (n / 10) (by rw [Nat.pow_succ] at h; omega)
      simp; omega
theorem num_size (n : Int) (h0 : 0 ≤ n) (h1 : n ≤ 1000000) : (num n).size ≤ 8 := by
  unfold num
  rw [bb_size, Lib.itoa, if_neg (by omega)]
  exact decDigits_len 7 n.toNat (by omega)
def twoB (n : Int) : ByteArray := bb [UInt8.ofNat (48 + n.toNat / 10), UInt8.ofNat (48 + n.toNat % 10)]
theorem two_is (n : Int) (h0 : 0 ≤ n) (h1 : n < 100) : date_two.f n = some (twoB n) := by
  unfold date_two.f twoB strOfNums bb
  rw [td n h0, tm n h0, w64 (n := n / 10) (by omega) (by omega), w64 (n := 48 + n / 10) (by omega) (by omega), w64 (n := 48 + n % 10) (by omega) (by omega)]
  simp only [List.map_cons, List.map_nil]
  rw [show ((48 + n / 10) % 256).toNat = 48 + n.toNat / 10 by omega, show ((48 + n % 10) % 256).toNat = 48 + n.toNat % 10 by omega]
theorem twoB_size (n : Int) : (twoB n).size = 2 := by unfold twoB; rw [bb_size]; rfl
def clockB (h i s : Int) : ByteArray := (((twoB h ++ (⟨#[58]⟩ : ByteArray)) ++ twoB i) ++ (⟨#[58]⟩ : ByteArray)) ++ twoB s
theorem one_size (x : UInt8) : (⟨#[x]⟩ : ByteArray).size = 1 := rfl
theorem clockB_size (h i s : Int) : (clockB h i s).size = 8 := by
  unfold clockB
  simp only [ByteArray.size_append, twoB_size, one_size]
theorem clock_is (y m d h i s w : Int) (h0 : 0 ≤ h) (h1 : h < 24) (i0 : 0 ≤ i) (i1 : i < 60) (s0 : 0 ≤ s) (s1 : s < 60) : date_clock.f y m d h i s w = some (clockB h i s) := by
  unfold date_clock.f
  rw [two_is h h0 (by omega), two_is i i0 (by omega), two_is s s0 (by omega)]
  simp only [Option.bind_some, twoB_size]
  rw [if_pos (by omega), if_pos (by omega), if_pos (by omega), if_pos (by omega)]
  rfl
def weekB (w : Int) : ByteArray := rdOf ByteArray.empty Tab0 w
def monthB (m : Int) : ByteArray := rdOf ByteArray.empty Tab1 (m - 1)
theorem weekB_size (w : Int) (h0 : 0 ≤ w) (h1 : w < 7) : (weekB w).size = 3 := by
  have : w = 0 ∨ w = 1 ∨ w = 2 ∨ w = 3 ∨ w = 4 ∨ w = 5 ∨ w = 6 := by omega
  rcases this with h | h | h | h | h | h | h <;> subst h <;> decide +kernel
theorem monthB_size (m : Int) (h1 : 1 ≤ m) (h2 : m ≤ 12) : (monthB m).size = 3 := by
  have : m = 1 ∨ m = 2 ∨ m = 3 ∨ m = 4 ∨ m = 5 ∨ m = 6 ∨ m = 7 ∨ m = 8 ∨ m = 9 ∨ m = 10 ∨ m = 11 ∨ m = 12 := by omega
  rcases this with h | h | h | h | h | h | h | h | h | h | h | h <;> subst h <;> decide +kernel
def lineB (y m d h i s w : Int) : ByteArray := (((((((weekB w ++ (⟨#[32]⟩ : ByteArray)) ++ monthB m) ++ (⟨#[32]⟩ : ByteArray)) ++ (if d < 10 then (⟨#[32]⟩ : ByteArray) ++ num d else num d)) ++ (⟨#[32]⟩ : ByteArray)) ++ clockB h i s) ++ (⟨#[32]⟩ : ByteArray)) ++ num y
theorem Is.small {N y m d : Int} (i : Is N y m d) (h0 : 719528 ≤ N) (h1 : N ≤ 13445357) : 1970 ≤ y ∧ y ≤ 40000 ∧ 1 ≤ m ∧ m ≤ 12 ∧ 1 ≤ d ∧ d ≤ Lg y m := by
  obtain ⟨a1, a2, a3, a4, a5, a6, a7, a8⟩ := i
  have b := Gd_next y m a4 a5
  have l := Lg_le y m
  have c0 : Yd 1970 = 719528 := by decide +kernel
  have c1 : Yd 40001 = 14609861 ∨ Yd 40001 > 13445357 := by right; decide +kernel
  refine ⟨?_, ?_, a4, a5, by omega, by omega⟩
  · by_cases h : 1970 ≤ y
    · exact h
    · have := Yd_mono (y + 1) 1970 (by omega) (by omega); omega
  · by_cases h : y ≤ 40000
    · exact h
    · have := Yd_mono 40001 y (by omega) (by omega)
      have c2 : Yd 40001 > 13445357 := by decide +kernel
      omega
theorem line_is (a : Int) (h0 : 0 ≤ a) (h1 : a ≤ 1099511627776) (k : Nat) (y m d : Int) (i : Is (a / 86400 + 719528) y m d) (e : date_Of.f k a = some (y, m, d, a % 86400 / 3600, a % 86400 / 60 % 60, a % 60, (a / 86400 + 4) % 7, true)) :
    date_Line.f k a = some (lineB y m d (a % 86400 / 3600) (a % 86400 / 60 % 60) (a % 60) ((a / 86400 + 4) % 7)) := by
  have sm := i.small (by omega) (by omega)
  have l := Lg_le y m
  have hw := weekB_size ((a / 86400 + 4) % 7) (by omega) (by omega)
  have hm := monthB_size m (by omega) (by omega)
  have hd := num_size d (by omega) (by omega)
  have hy := num_size y (by omega) (by omega)
  have hc := clockB_size (a % 86400 / 3600) (a % 86400 / 60 % 60) (a % 60)
  unfold date_Line.f lineB
  rw [e]
  simp only [Option.bind_some, if_true]
  rw [w64 (n := m - 1) (by omega) (by omega), itoa_is d (by omega) (by omega), itoa_is y (by omega) (by omega), clock_is _ _ _ _ _ _ _ (by omega) (by omega) (by omega) (by omega) (by omega) (by omega)]
  simp only [Option.bind_some]
  unfold weekB at hw
  unfold monthB at hm
  by_cases h10 : d < 10
  · rw [if_pos h10, if_pos h10, if_pos (by omega), if_pos (by omega), if_pos (by omega), if_pos (by omega), if_pos (by omega), if_pos (by omega), if_pos (by omega), if_pos (by omega), if_pos (by omega), if_pos (by omega), if_pos (by omega), if_pos (by omega), if_pos (by omega)]
    rfl
  · rw [if_neg h10, if_neg h10, if_pos (by omega), if_pos (by omega), if_pos (by omega), if_pos (by omega), if_pos (by omega), if_pos (by omega), if_pos (by omega), if_pos (by omega), if_pos (by omega), if_pos (by omega), if_pos (by omega), if_pos (by omega)]
    rfl
theorem line_not (a : Int) (h : ¬ (0 ≤ a ∧ a ≤ 1099511627776)) (k : Nat) : date_Line.f k a = some (⟨#[]⟩ : ByteArray) := by
  unfold date_Line.f
  rw [of_not a h]
  simp
end Go.Proofs.YtcpmoolpbeeedaaGreatDoor.Q
