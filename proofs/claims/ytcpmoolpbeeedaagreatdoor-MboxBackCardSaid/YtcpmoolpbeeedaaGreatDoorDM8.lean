/- Reading: a text's parts at a byte; what so many digits are worth; a mail's date read. -/
import Derived.Test.YtcpmoolpbeeedaaGreatDoorDM2P
import Derived.Test.YtcpmoolpbeeedaaGreatDoorDM5
import Derived.Test.YtcpmoolpbeeedaaGreatDoorDM6
import Derived.Test.YtcpmoolpbeeedaaGreatDoorQD
import Derived.Lib.IndexBytes
import Derived.Lib.IndexLaws
namespace Go.Proofs.YtcpmoolpbeeedaaGreatDoor.Q
open Go.RowKit Go.Proofs.YtcpmoolpbeeedaaGreatDoorW.PrintWords
set_option linter.unusedVariables false
set_option linter.unusedSimpArgs false

/-! ### A text cut at a byte -/
def splitC (c : UInt8) : List UInt8 → List UInt8 → List (List UInt8)
  | cur, [] => [cur]
  | cur, x :: l => if x = c then cur :: splitC c [] l else splitC c (cur ++ [x]) l
theorem splitC_run (c : UInt8) : ∀ (xs cur l : List UInt8), (∀ x ∈ xs, x ≠ c) → splitC c cur (xs ++ l) = splitC c (cur ++ xs) l
  | [], cur, l, _ => by simp
  | x :: xs, cur, l, h => by
    rw [List.cons_append, splitC, if_neg (h x (by simp)), splitC_run c xs _ l (fun y hy => h y (by simp [hy]))]
    simp
theorem split_is (c : UInt8) : ∀ (n : Nat) (s : List UInt8), s.length ≤ n → Lib.splitK [c] 0 (Lib.count s [c]) s = splitC c [] s := by
  intro n
  induction n with
  | zero =>
    intro s h
    obtain rfl : s = [] := List.eq_nil_of_length_eq_zero (by omega)
    rfl
  | succ n ih =>
    intro s h
    have hi := Lib.index_one s c
    rcases Int.lt_or_le (Lib.indexByte s c) 0 with h0 | h0
    · have hm : Lib.indexByte s c = -1 := by have := Lib.indexByte_ge s c; omega
      rw [Lib.count_miss (hi.trans hm), Lib.splitK]
      have hn := Lib.indexByte_none hm
      have := splitC_run c s [] [] (fun x hx e => by
        obtain ⟨k, hk⟩ := List.mem_iff_getElem?.1 hx
        exact hn k (by rw [hk, e]))
      rw [List.append_nil] at this
      rw [this]
      simp [splitC]
    · obtain ⟨o, ho⟩ : ∃ o : Nat, Lib.indexByte s c = o := ⟨(Lib.indexByte s c).toNat, by omega⟩
      obtain ⟨h1, h2⟩ := Lib.indexByte_some ho
      have hix : Lib.index s [c] = o := hi.trans ho
      rw [Lib.count_hit (by simp) hix, show 1 + Lib.count (s.drop (o + [c].length)) [c] = Lib.count (s.drop (o + 1)) [c] + 1 by simp; omega, Lib.splitK, if_neg (by rw [hix]; simp only [beq_iff_eq]; omega), hix]
      have hol : o < s.length := (List.getElem?_eq_some_iff.1 h1).1
      simp only [Int.toNat_natCast, Nat.add_zero, List.length_cons, List.length_nil]
      rw [ih (s.drop (o + 1)) (by rw [List.length_drop]; omega)]
      have hs : s = s.take o ++ c :: s.drop (o + 1) := by
        conv => lhs; rw [← List.take_append_drop o s, List.drop_eq_getElem_cons hol, (List.getElem?_eq_some_iff.1 h1).2]
      conv => rhs; rw [hs]
      rw [splitC_run c (s.take o) [] _ (fun x hx e => by
        obtain ⟨k, hk⟩ := List.mem_iff_getElem?.1 hx
        rw [List.getElem?_take] at hk
        split at hk
        · rename_i hko
          exact h2 k hko (by rw [hk, e])
        · cases hk)]
      simp [splitC]
theorem splitB_is (c : UInt8) (s : ByteArray) : Lib.splitB (⟨#[c]⟩ : ByteArray) 0 (Lib.countB s (⟨#[c]⟩ : ByteArray)) s = (splitC c [] s.data.toList).map bb := by
  have h := of_lists _ _ ((Lib.splitB_data (⟨#[c]⟩ : ByteArray) 0 (Lib.countB s (⟨#[c]⟩ : ByteArray)) s).trans (split_is c _ s.data.toList (Nat.le_refl _)))
  rw [h]
  rfl

/-! ### What digits are worth -/
def dig (c : UInt8) : Bool := decide (48 ≤ c.toNat ∧ c.toNat ≤ 57)
def step10 (v : Nat) (c : UInt8) : Nat := 10 * v + (c.toNat - 48)
def worth (v : Nat) (l : List UInt8) : Nat := l.foldl step10 v
theorem worth_nil (v : Nat) : worth v [] = v := List.foldl_nil
theorem worth_cons (v : Nat) (c : UInt8) (l : List UInt8) : worth v (c :: l) = worth (10 * v + (c.toNat - 48)) l := List.foldl_cons
theorem worth_append (a b : List UInt8) (v : Nat) : worth v (a ++ b) = worth (worth v a) b := List.foldl_append
theorem worth_one (v : Nat) (c : UInt8) (d : Nat) (h : c.toNat - 48 = d) : worth v [c] = 10 * v + d := by rw [worth_cons, worth_nil, h]
theorem dig_of (n : Nat) (h : n < 10) : dig (UInt8.ofNat (48 + n)) = true ∧ (UInt8.ofNat (48 + n)).toNat - 48 = n := by
  have : n = 0 ∨ n = 1 ∨ n = 2 ∨ n = 3 ∨ n = 4 ∨ n = 5 ∨ n = 6 ∨ n = 7 ∨ n = 8 ∨ n = 9 := by omega
  rcases this with h | h | h | h | h | h | h | h | h | h <;> subst h <;> decide
theorem decDigits_worth (n : Nat) : worth 0 (Lib.decDigits n) = n ∧ ∀ c ∈ Lib.decDigits n, dig c = true := by
  induction n using Nat.strongRecOn with
  | _ n ih =>
    by_cases h : n < 10
    · rw [Lib.decDigits_one h]
      refine ⟨?_, fun c hc => ?_⟩
      · rw [worth_one 0 _ n (dig_of n h).2]; omega
      · obtain rfl : c = UInt8.ofNat (48 + n) := by simpa using hc
        exact (dig_of n h).1
    · have i := ih (n / 10) (by omega)
      have d := dig_of (n % 10) (by omega)
      rw [Lib.decDigits, dif_neg h]
      refine ⟨?_, fun c hc => ?_⟩
      · rw [worth_append, i.1]
        rw [worth_one _ _ _ d.2]
        omega
      · rcases List.mem_append.1 hc with hc | hc
        · exact i.2 c hc
        · obtain rfl : c = UInt8.ofNat (48 + n % 10) := by simpa using hc
          exact d.1
theorem bt_bb (p : List UInt8) (x : UInt8) (l : List UInt8) : bt (bb (p ++ x :: l)) (p.length : Int) = (x.toNat : Int) := by
  unfold bt
  have h : ((p.length : Int)).toNat < (bb (p ++ x :: l)).size := by rw [bb_size]; simp
  rw [dif_pos h]
  have : (bb (p ++ x :: l))[((p.length : Int)).toNat] = x := by
    simp [bb, ByteArray.getElem_eq_getElem_data]
  rw [this]
theorem number_l0 (least most : Int) : ∀ (l p : List UInt8) (v k : Nat), (∀ c ∈ l, dig c = true) → l.length < k → ((p ++ l).length : Int) ≤ most → least ≤ ((p ++ l).length : Int) → (p ++ l).length ≤ 10 → v < 10 ^ p.length →
    date_number.l0 k (bb (p ++ l)) least most (v : Int) ((bb (p ++ l)).size : Int) (p.length : Int) = some (worth v l : Int)
  | [], p, v, k, _, hk, h1, h2, h3, hv => by
    obtain ⟨k, rfl⟩ : ∃ k', k = k' + 1 := ⟨k - 1, by simp at hk; omega⟩
    rw [List.append_nil] at *
    rw [date_number.l0, bb_size, if_neg (by omega), if_neg (by omega), worth_nil]
  | c :: l, p, v, k, hd, hk, h1, h2, h3, hv => by
    obtain ⟨k, rfl⟩ : ∃ k', k = k' + 1 := ⟨k - 1, by simp at hk; omega⟩
    have hc : 48 ≤ c.toNat ∧ c.toNat ≤ 57 := by simpa [dig] using hd c (by simp)
    have hl : (p ++ c :: l).length = p.length + (l.length + 1) := by simp
    have hp : 10 ^ p.length ≤ 10 ^ 10 := Nat.pow_le_pow_right (by omega) (by omega)
    have hp' : (10 : Nat) ^ 10 = 10000000000 := rfl
    rw [date_number.l0, bb_size, if_pos (by omega), if_pos (by omega), if_pos (by omega), bt_bb, if_neg (by omega), if_neg (by omega), if_neg (by omega), w64 (n := 10 * (v : Int)) (by omega) (by omega), w64 (n := 10 * (v : Int) + ((c.toNat : Int) - 48) % 256) (by omega) (by omega), w64 (n := (p.length : Int) + 1) (by omega) (by omega)]
    have ih := number_l0 least most l (p ++ [c]) (10 * v + (c.toNat - 48)) k (fun x hx => hd x (by simp [hx])) (by simp at hk; omega) (by simpa using h1) (by simpa using h2) (by simpa using h3) (by rw [List.length_append, List.length_cons, List.length_nil, Nat.zero_add, Nat.pow_succ]; omega)
    rw [show p ++ [c] ++ l = p ++ c :: l by simp, bb_size] at ih
    rw [show 10 * (v : Int) + ((c.toNat : Int) - 48) % 256 = ((10 * v + (c.toNat - 48) : Nat) : Int) by omega]
    have e : ((p ++ [c]).length : Int) = (p.length : Int) + 1 := by simp
    rw [e] at ih
    rw [ih, worth_cons]
theorem number_digits (k : Nat) (l : List UInt8) (least most : Int) (hd : ∀ c ∈ l, dig c = true) (hk : l.length < k) (h1 : (l.length : Int) ≤ most) (h2 : least ≤ (l.length : Int)) (h3 : l.length ≤ 10) :
    date_number.f k (bb l) least most = some (worth 0 l : Int) := number_l0 least most l [] 0 k hd hk h1 h2 h3 (by simp)
theorem itoa_worth (n : Int) (h : 0 ≤ n) : (worth 0 (Lib.itoa n) : Int) = n ∧ ∀ c ∈ Lib.itoa n, dig c = true := by
  rw [Lib.itoa, if_neg (by omega)]
  have := decDigits_worth n.toNat
  exact ⟨by rw [this.1]; omega, this.2⟩
theorem decDigits_least : ∀ (j n : Nat), 10 ^ j ≤ n → j + 1 ≤ (Lib.decDigits n).length
  | 0, n, h => by
    by_cases hn : n < 10
    · rw [Lib.decDigits_one hn]; simp
    · rw [Lib.decDigits, dif_neg hn]; simp
  | j + 1, n, h => by
    have h1 : (10 : Nat) ^ (j + 1) = 10 * 10 ^ j := by rw [Nat.pow_succ]; omega
    have h2 : 1 ≤ (10 : Nat) ^ j := Nat.one_le_pow _ _ (by omega)
    rw [Lib.decDigits, dif_neg (by omega)]
    have := decDigits_least j (n / 10) (by omega)
    simp; omega
theorem decDigits_most : ∀ (j n : Nat), n < 10 ^ (j + 1) → (Lib.decDigits n).length ≤ j + 1
  | 0, n, h => by rw [Lib.decDigits_one (by simpa using h)]; simp
  | j + 1, n, h => by
    by_cases hn : n < 10
    · rw [Lib.decDigits_one hn]; simp
    · have h1 : (10 : Nat) ^ (j + 1 + 1) = 10 * 10 ^ (j + 1) := by rw [Nat.pow_succ]; omega
      rw [Lib.decDigits, dif_neg hn]
      have := decDigits_most j (n / 10) (by omega)
      simp; omega
theorem dig_plain (c : UInt8) (h : dig c = true) : bw c = false ∧ c ≠ 58 := by
  have hc : 48 ≤ c.toNat ∧ c.toNat ≤ 57 := by simpa [dig] using h
  refine ⟨?_, fun e => by subst e; simp at hc⟩
  simp only [bw, Bool.or_eq_false_iff, beq_eq_false_iff_ne]
  omega
end Go.Proofs.YtcpmoolpbeeedaaGreatDoor.Q
