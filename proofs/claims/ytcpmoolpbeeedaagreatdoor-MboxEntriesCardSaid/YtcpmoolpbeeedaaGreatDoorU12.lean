import Derived.Test.YtcpmoolpbeeedaaGreatDoorAD
import Derived.Test.YtcpmoolpbeeedaaGreatDoorDM1
import Derived.Test.YtcpmoolpbeeedaaGreatDoorDM6
import Derived.Test.YtcpmoolpbeeedaaGreatDoorDM7
import Derived.Test.YtcpmoolpbeeedaaGreatDoorQ0
import Derived.Test.YtcpmoolpbeeedaaGreatDoorQ10
import Derived.Test.YtcpmoolpbeeedaaGreatDoorQ19
import Derived.Test.YtcpmoolpbeeedaaGreatDoorQ20
import Derived.Test.YtcpmoolpbeeedaaGreatDoorQ23
import Derived.Test.YtcpmoolpbeeedaaGreatDoorQ24
import Derived.Test.YtcpmoolpbeeedaaGreatDoorQ26
import Derived.Test.YtcpmoolpbeeedaaGreatDoorQ27
import Derived.Test.YtcpmoolpbeeedaaGreatDoorQ4
import Derived.Test.YtcpmoolpbeeedaaGreatDoorQ7
import Derived.Test.YtcpmoolpbeeedaaGreatDoorQ8
import Derived.Test.YtcpmoolpbeeedaaGreatDoorU11
import Derived.Test.YtcpmoolpbeeedaaGreatDoorU4
import Derived.Test.YtcpmoolpbeeedaaGreatDoorU6
import Derived.Test.YtcpmoolpbeeedaaGreatDoorU8
import Derived.Test.YtcpmoolpbeeedaaGreatDoorUA
namespace Go.Proofs.YtcpmoolpbeeedaaGreatDoor.Q
open Go.RowKit Go.Proofs.YtcpmoolpbeeedaaGreatDoorW.PrintWords Go.Proofs.YtcpmoolpbeeedaaGreatDoorW.PrintLast Go.Proofs.YtcpmoolpbeeedaaGreatDoorW.PrintMore
theorem dline_eq (a : Int) (k : Nat) (hk : 70000 ≤ k) : bulletinref22_Line.f k a = date_Line.f k a := by
  by_cases h : 0 ≤ a ∧ a ≤ 1099511627776
  · obtain ⟨y, m, d, i, e⟩ := of_is a h.1 h.2 k hk
    obtain ⟨y', m', d', i', e'⟩ := refOf_is a h.1 h.2 k hk
    obtain ⟨rfl, rfl, rfl⟩ := i.one i'
    rw [line_is a h.1 h.2 k y m d i e, refLine_is a h.1 h.2 k (by omega) y m d i e']
  · rw [line_not a h, refLine_not a h]
theorem ends_eq (x : ByteArray) (hx : x.size < 1000000) : bulletinref23_ends.f x = strings_HasSuffix.f x (⟨#[13, 10]⟩ : ByteArray) := by
  unfold bulletinref23_ends.f strings_HasSuffix.f stringslite_HasSuffix.f
  have s2 : (⟨#[13, 10]⟩ : ByteArray).size = 2 := rfl
  rw [s2]
  by_cases h : (x.size : Int) ≥ 2
  · rw [if_pos h, if_pos (show (x.size : Int) ≥ ((2 : Nat) : Int) from h)]
    have e : wrap64 ((x.size : Int) - 2) = ((x.size - 2 : Nat) : Int) := by unfold wrap64; omega
    rw [show ((2 : Nat) : Int) = 2 from rfl, e, if_pos (by omega), if_pos (by omega), if_pos (by omega), if_pos (by omega), show (⟨#[13, 10]⟩ : ByteArray).toList = [13, 10] from toList_mk [13, 10]]
    rfl
  · rw [if_neg h, if_neg (show ¬ (x.size : Int) ≥ ((2 : Nat) : Int) from h)]
    rfl
theorem quote_both (l : List UInt8) (h0 : l.length ≤ 1000) (k : Nat) (hk : 300000 ≤ k) : bulletinref23_Quote.f k (mk l) = mbox_Quote.f (mk l) := by
  have hl := ended_len l.length l [] (Nat.le_refl _)
  simp only [List.length_nil, Nat.zero_add] at hl
  have hb : ∀ x ∈ lines [] l, x.length < 100000 := fun x hx => by have := hl.2.2.2 x hx; omega
  rw [quote_f l (by omega)]
  unfold bulletinref23_Quote.f
  rw [refLines_f l (by omega) k (by omega)]
  dsimp only [Option.bind_some]
  rw [show (⟨#[]⟩ : ByteArray) = mk (ended (((lines [] l).take 0).map qu)) from rfl, show (0 : Int) = ((0 : Nat) : Int) from rfl, refQuote_l0 (lines [] l) hb (by omega) (lines [] l).length 0 k (by omega) (by omega) (by simp [ended])]
theorem entry_eq (a b x : ByteArray) (n : Int) (ha : a.size ≤ 300) (hx : x.size ≤ 1000) (k : Nat) (hk : 300000 ≤ k) : bulletinref23_Entry.f k a b n x = mbox_Entry.f k a b n x := by
  have hq : bulletinref23_Quote.f k x = mbox_Quote.f x := by
    have := quote_both x.data.toList (by rw [Array.length_toList]; exact hx) k hk
    rw [mk_data] at this
    exact this
  unfold bulletinref23_Entry.f mbox_Entry.f
  rw [addrText_eq a b (by omega) k (by omega), dline_eq n k (by omega), hq, ends_eq x (by omega)]
theorem mright_eq (a b x : ByteArray) (n : Int) (ha : a.size ≤ 300) (hb : b.size ≤ 300) (hx : x.size ≤ 1000) (k : Nat) (hk : 2000000 ≤ k) : bulletinref23_Right.f k a b n x = mbox_Right.f k a b n x := by
  unfold bulletinref23_Right.f mbox_Right.f
  rw [addrRight_eq a b (by omega) (by omega) k hk, refMoment_is, ends_eq x (by omega)]
  unfold date_Day.f
  rw [moment_is]
  congr 1
  funext r
  by_cases h : 0 ≤ n ∧ n ≤ 1099511627776
  · have w : wrap64 (Int.tdiv n 86400) = n / 86400 := by
      rw [Int.tdiv_eq_ediv_of_nonneg h.1]
      unfold wrap64
      omega
    rw [decide_eq_true h, Option.bind_some, Option.bind_some, if_pos rfl, if_pos rfl, Option.bind_some, w, if_pos (show n / 86400 ≥ 0 by omega)]
  · rw [decide_eq_false h]
    rfl
theorem entries_all (a b x : ByteArray) (n : Int) (k : Nat) (hk : 4000000 ≤ k) : bulletinlaw23_MboxEntries.f k a b n x = some true := by
  unfold bulletinlaw23_MboxEntries.f
  obtain ⟨j, rfl⟩ : ∃ j, k = j + 4 := ⟨k - 4, by omega⟩
  have hl : bulletinlaw23_light.f (j + 4) ([(⟨(⟨a, b⟩ : S26), n, x⟩ : S28)]) = some (decide (x.size ≤ 1000 ∧ a.size ≤ 300 ∧ b.size ≤ 300)) := by
    unfold bulletinlaw23_light.f
    have r0 : rd_T28 [(⟨(⟨a, b⟩ : S26), n, x⟩ : S28)] 0 = (⟨(⟨a, b⟩ : S26), n, x⟩ : S28) := rfl
    have w : wrap64 ((0 : Int) + 1) = 1 := by unfold wrap64; omega
    rw [bulletinlaw23_light.l0, if_pos (by simp), bulletinlaw23_light.j1, if_pos (by decide), if_pos (by decide), if_pos (by simp), r0, w]
    by_cases h1 : (x.size : Int) > 1000
    · rw [if_pos h1, decide_eq_false (by omega)]
    rw [if_neg h1]
    by_cases h2 : (a.size : Int) > 300
    · rw [if_pos h2, decide_eq_false (by omega)]
    rw [if_neg h2]
    by_cases h3 : (b.size : Int) > 300
    · rw [if_pos h3, decide_eq_false (by omega)]
    rw [if_neg h3, decide_eq_true (by omega), bulletinlaw23_light.l0, if_neg (by simp), bulletinlaw23_light.j1, if_neg (by decide)]
    simp
  rw [hl, Option.bind_some]
  by_cases h : x.size ≤ 1000 ∧ a.size ≤ 300 ∧ b.size ≤ 300
  · rw [decide_eq_true h, if_pos rfl]
    unfold bulletinlaw23_To.f
    rw [Option.bind_some, entry_eq a b x n h.2.1 h.1 (j + 4) (by omega), mright_eq a b x n h.2.1 h.2.2 h.1 (j + 4) (by omega)]
    obtain ⟨e, he⟩ := entry_text a b x.data.toList n (by omega) (by omega) (by rw [Array.length_toList]; exact Nat.lt_of_le_of_lt h.1 (by decide)) (j + 4) (by omega)
    rw [mk_data] at he
    obtain ⟨r, hr⟩ := right_t a b x n (by omega) (by omega) (by omega) (j + 4) (by omega)
    rw [he, works_up _ (by omega)]
    simp only [Option.bind_some, if_true]
    rw [hr]
    simp
  · rw [decide_eq_false h, if_neg (by decide), works_up _ (by omega)]
    rfl
theorem mboxEntries_pure (a b : ByteArray) (n : Int) (x : ByteArray) : bulletinlaw23_MboxEntries.f 5000000 a b n x = some true := entries_all a b x n 5000000 (by decide)
end Go.Proofs.YtcpmoolpbeeedaaGreatDoor.Q
