import Derived.Test.YtcpmoolpbeeedaaGreatDoorAD
import Derived.Test.YtcpmoolpbeeedaaGreatDoorQ25
import Derived.Test.YtcpmoolpbeeedaaGreatDoorQ9
import Derived.Test.YtcpmoolpbeeedaaGreatDoorU8
import Derived.Test.YtcpmoolpbeeedaaGreatDoorUA
namespace Go.Proofs.YtcpmoolpbeeedaaGreatDoor.Q
open Go.RowKit Go.Proofs.YtcpmoolpbeeedaaGreatDoorW.PrintWords Go.Proofs.YtcpmoolpbeeedaaGreatDoorW.PrintLast Go.Proofs.YtcpmoolpbeeedaaGreatDoorW.PrintMore
theorem label_j (k : Nat) (x : ByteArray) (i c : Int) (q : Bool) (h0 : 0 ≤ c) (h1 : c < 256) (hq : q = decide (65 ≤ c ∧ c ≤ 90)) : bulletinref13_label.j1 (k + 1) x i c q =
    if (97 ≤ c ∧ c ≤ 122) ∨ (65 ≤ c ∧ c ≤ 90) ∨ (48 ≤ c ∧ c ≤ 57) then bulletinref13_label.l0 k x (wrap64 (i + 1))
    else if c = 45 ∧ i ≠ 0 ∧ i ≠ wrap64 ((x.size : Int) - 1) then bulletinref13_label.l0 k x (wrap64 (i + 1)) else some false := by
  unfold bulletinref13_label.j1
  by_cases h : 65 ≤ c ∧ c ≤ 90
  · have e : (c + 32) % 256 = c + 32 := by omega
    rw [hq, if_pos (decide_eq_true h), e]
    repeat' split
    all_goals first | rfl | (exfalso; omega)
  · rw [hq, if_neg (by rw [decide_eq_true_iff]; exact h)]
    repeat' split
    all_goals first | rfl | (exfalso; omega)
theorem labelled_is (c : Int) : addr_labelled.f c = some (decide (((97 ≤ c ∧ c ≤ 122) ∨ (65 ≤ c ∧ c ≤ 90) ∨ (48 ≤ c ∧ c ≤ 57)) ∨ c = 45)) := by
  unfold addr_labelled.f
  repeat' split
  all_goals congr 1
  all_goals first | (symm; apply decide_eq_true; omega) | (rw [Bool.eq_iff_iff, beq_iff_eq, decide_eq_true_iff]; omega)
theorem label_false (x : ByteArray) (hx : x.size < 1000000) (h0 : bt x 0 = 45) (hs : 0 < x.size) : ∀ (n k i : Nat), i + n = x.size → n < k → addr_label.l0 k x (x.size : Int) (i : Int) = some false
  | 0, k, i, hn, hk => by
    obtain ⟨k, rfl⟩ : ∃ j, k = j + 1 := ⟨k - 1, by omega⟩
    unfold addr_label.l0
    rw [if_neg (by omega)]
    by_cases h : x.toList = ([] : List UInt8)
    · rw [if_pos h]
    · rw [if_neg h, if_pos (by omega), if_pos h0]
  | n + 1, k, i, hn, hk => by
    obtain ⟨k, rfl⟩ : ∃ j, k = j + 1 := ⟨k - 1, by omega⟩
    unfold addr_label.l0
    rw [if_pos (by omega), if_pos (by omega), if_pos (by omega), labelled_is]
    rw [Option.bind_some, Ad.wr1 _ (by omega) (by omega), show ((i : Int) + 1) = ((i + 1 : Nat) : Int) by omega, label_false x hx h0 hs n k (i + 1) (by omega) (by omega)]
    split <;> rfl
theorem label_l (x : ByteArray) (hx : x.size < 1000000) : ∀ (n k k' i : Nat), i + n = x.size → 2 * n < k → n < k' → (0 < i → bt x 0 ≠ 45 ∧ bt x ((i - 1 : Nat) : Int) ≠ 45 ∨ 0 < n ∧ bt x 0 ≠ 45) → bulletinref13_label.l0 k x (i : Int) = addr_label.l0 k' x (x.size : Int) (i : Int)
  | 0, k, k', i, hn, hk, hk', hi => by
    obtain ⟨k, rfl⟩ : ∃ j, k = j + 1 := ⟨k - 1, by omega⟩
    obtain ⟨k', rfl⟩ : ∃ j, k' = j + 1 := ⟨k' - 1, by omega⟩
    unfold bulletinref13_label.l0 addr_label.l0
    rw [if_neg (by omega), if_neg (by omega)]
    by_cases h : x.toList = ([] : List UInt8)
    · rw [if_pos h, h]
      rfl
    · have hs : 0 < x.size := Ad.bytes_ne h
      have e : wrap64 ((x.size : Int) - 1) = ((i - 1 : Nat) : Int) := by unfold wrap64; omega
      rcases hi (by omega) with ⟨a, b⟩ | ⟨a, _⟩
      · rw [if_neg h, if_pos (by omega), if_neg a, e, if_pos (by omega), if_pos (by omega), bne_iff_ne.2 h, bne_iff_ne.2 b]
      · omega
  | n + 1, k, k', i, hn, hk, hk', hi => by
    obtain ⟨k, rfl⟩ : ∃ j, k = j + 2 := ⟨k - 2, by omega⟩
    obtain ⟨k', rfl⟩ : ∃ j, k' = j + 1 := ⟨k' - 1, by omega⟩
    obtain ⟨c, hc, e⟩ := bt_byte x i (by omega)
    have w : wrap64 ((i : Int) + 1) = ((i + 1 : Nat) : Int) := by unfold wrap64; omega
    have w2 : wrap64 ((x.size : Int) - 1) = ((x.size - 1 : Nat) : Int) := by unfold wrap64; omega
    have step : ∀ q, q = decide (65 ≤ (c : Int) ∧ (c : Int) ≤ 90) → bulletinref13_label.j1 (k + 1) x (i : Int) (c : Int) q = addr_label.l0 (k' + 1) x (x.size : Int) (i : Int) := by
      intro q hq
      rw [label_j k x (i : Int) (c : Int) q (by omega) (by omega) hq, w, w2]
      have pr : addr_label.l0 (k' + 1) x (x.size : Int) (i : Int) = if decide (((97 ≤ (c : Int) ∧ (c : Int) ≤ 122) ∨ (65 ≤ (c : Int) ∧ (c : Int) ≤ 90) ∨ (48 ≤ (c : Int) ∧ (c : Int) ≤ 57)) ∨ (c : Int) = 45) = true then addr_label.l0 k' x (x.size : Int) ((i + 1 : Nat) : Int) else some false := by
        conv => lhs; unfold addr_label.l0
        rw [if_pos (by omega), if_pos (by omega), if_pos (by omega), e, labelled_is, Option.bind_some, w]
      rw [pr]
      by_cases h : (97 ≤ (c : Int) ∧ (c : Int) ≤ 122) ∨ (65 ≤ (c : Int) ∧ (c : Int) ≤ 90) ∨ (48 ≤ (c : Int) ∧ (c : Int) ≤ 57)
      · rw [if_pos h, if_pos (decide_eq_true (.inl h))]
        refine label_l x hx n k k' (i + 1) (by omega) (by omega) (by omega) fun _ => ?_
        by_cases h1 : 0 < i
        · have hb : bt x 0 ≠ 45 := by rcases hi h1 with a | a <;> first | exact a.1 | exact a.2
          refine .inl ⟨hb, ?_⟩
          rw [show i + 1 - 1 = i by omega, e]
          omega
        · obtain rfl : i = 0 := by omega
          have e' : bt x 0 = (c : Int) := e
          refine .inl ⟨by rw [e']; omega, ?_⟩
          show bt x ((0 : Nat) : Int) ≠ 45
          rw [e]
          omega
      · rw [if_neg h]
        by_cases h45 : (c : Int) = 45
        · rw [if_pos (decide_eq_true (p := ((97 ≤ (c : Int) ∧ (c : Int) ≤ 122) ∨ (65 ≤ (c : Int) ∧ (c : Int) ≤ 90) ∨ (48 ≤ (c : Int) ∧ (c : Int) ≤ 57)) ∨ (c : Int) = 45) (.inr h45))]
          by_cases h0 : i = 0
          · subst h0
            rw [if_neg (by omega)]
            have e' : bt x 0 = 45 := e.trans h45
            exact (label_false x hx e' (by omega) n k' 1 (by omega) (by omega)).symm
          · have hb : bt x 0 ≠ 45 := by rcases hi (by omega) with a | a <;> first | exact a.1 | exact a.2
            by_cases hl : i = x.size - 1
            · rw [if_neg (by omega)]
              obtain rfl : n = 0 := by omega
              obtain ⟨k', rfl⟩ : ∃ j, k' = j + 1 := ⟨k' - 1, by omega⟩
              unfold addr_label.l0
              rw [if_neg (by omega)]
              by_cases hn : x.toList = ([] : List UInt8)
              · rw [if_pos hn]
              · rw [if_neg hn, if_pos (by omega), if_neg hb, w2, ← hl, if_pos (by omega), if_pos (by omega), e, h45]
                rfl
            · rw [if_pos (by omega)]
              exact label_l x hx n k k' (i + 1) (by omega) (by omega) (by omega) fun _ => .inr ⟨by omega, hb⟩
        · rw [if_neg (by omega), if_neg (by rw [decide_eq_true_iff]; omega)]
    conv => lhs; unfold bulletinref13_label.l0
    rw [if_pos (by omega), if_pos (by omega), e]
    by_cases h : (c : Int) ≥ 65
    · rw [if_pos h]
      exact step _ (by rw [Bool.eq_iff_iff, decide_eq_true_iff, decide_eq_true_iff]; omega)
    · rw [if_neg h]
      exact step _ (by symm; rw [decide_eq_false_iff_not]; omega)
theorem label_eq (x : ByteArray) (hx : x.size < 1000000) (k k' : Nat) (hk : 2 * x.size < k) (hk' : x.size < k') : bulletinref13_label.f k x = addr_label.f k' x := label_l x hx x.size k k' 0 (Nat.zero_add _) hk hk' (fun h => absurd h (Nat.lt_irrefl 0))
end Go.Proofs.YtcpmoolpbeeedaaGreatDoor.Q
