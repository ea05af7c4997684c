/- The document's words, folding, parts and digits, by bytes. -/
import Derived.Test.YtcpmoolpbeeedaaGreatDoorDM8
import Derived.Test.YtcpmoolpbeeedaaGreatDoorQD
import Derived.Lib.Strings
namespace Go.Proofs.YtcpmoolpbeeedaaGreatDoor.Q
open Go.RowKit Go.Proofs.YtcpmoolpbeeedaaGreatDoorW.PrintWords
set_option linter.unusedVariables false
set_option linter.unusedSimpArgs false

theorem bb_toList (l : List UInt8) : (bb l).toList = l := by rw [Lib.toList_data, bb_list]
theorem bb_one (p : List UInt8) (c : UInt8) (r : List UInt8) : (bb (p ++ c :: r)).extract p.length (p.length + 1) = bb [c] := by
  apply ByteArray.ext
  have := Lib.extract_data (bb (p ++ c :: r)) p.length (p.length + 1)
  rw [bb_list] at this
  apply Array.ext'
  rw [this, bb_list]
  simp
theorem fold_g (l : List UInt8) : glyph_Fold.g (bb l) = bb (l.map glyph_Fold.low) := by
  unfold glyph_Fold.g
  rw [bb_list]
  rfl
def DV (l : List UInt8) (least most : Int) : Int := if least ≤ (l.length : Int) ∧ (l.length : Int) ≤ most ∧ l.all dig = true then (worth 0 l : Int) else -1
theorem number_DV_l0 (least most : Int) (hm : most ≤ 10) : ∀ (l p : List UInt8) (v k : Nat), l.length < k → (p.length : Int) ≤ most → (p ++ l).length ≤ 1000000 → v < 10 ^ p.length →
    date_number.l0 k (bb (p ++ l)) least most (v : Int) ((bb (p ++ l)).size : Int) (p.length : Int) = some (if least ≤ ((p ++ l).length : Int) ∧ ((p ++ l).length : Int) ≤ most ∧ l.all dig = true then (worth v l : Int) else -1)
  | [], p, v, k, hk, h1, h2, hv => by
    obtain ⟨k, rfl⟩ : ∃ k', k = k' + 1 := ⟨k - 1, by simp at hk; omega⟩
    rw [List.append_nil] at *
    rw [date_number.l0, bb_size, if_neg (by omega)]
    by_cases h : (p.length : Int) < least
    · rw [if_pos h, if_neg (by omega)]
    · rw [if_neg h, if_pos ⟨by omega, h1, rfl⟩, worth_nil]
  | c :: l, p, v, k, hk, h1, h2, hv => by
    obtain ⟨k, rfl⟩ : ∃ k', k = k' + 1 := ⟨k - 1, by simp at hk; omega⟩
    have hl : (p ++ c :: l).length = p.length + (l.length + 1) := by simp
    have hp : 10 ^ p.length ≤ 10 ^ 10 := Nat.pow_le_pow_right (by omega) (by omega)
    have hp' : (10 : Nat) ^ 10 = 10000000000 := rfl
    have hcl := UInt8.toNat_lt c
    rw [date_number.l0, bb_size, if_pos (by omega), if_pos (by omega), if_pos (by omega), bt_bb]
    by_cases hd : 48 ≤ c.toNat ∧ c.toNat ≤ 57
    · rw [if_neg (by omega), if_neg (by omega)]
      by_cases he : (p.length : Int) = most
      · rw [if_pos he, if_neg (by omega)]
      · rw [if_neg he, w64 (n := 10 * (v : Int)) (by omega) (by omega), w64 (n := 10 * (v : Int) + ((c.toNat : Int) - 48) % 256) (by omega) (by omega), w64 (n := (p.length : Int) + 1) (by omega) (by omega)]
        have ih := number_DV_l0 least most hm l (p ++ [c]) (10 * v + (c.toNat - 48)) k (by simp at hk; omega) (by simp; omega) (by simpa using h2) (by rw [List.length_append, List.length_cons, List.length_nil, Nat.zero_add, Nat.pow_succ]; omega)
        rw [show p ++ [c] ++ l = p ++ c :: l by simp, bb_size, show ((p ++ [c]).length : Int) = (p.length : Int) + 1 by simp] at ih
        rw [show 10 * (v : Int) + ((c.toNat : Int) - 48) % 256 = ((10 * v + (c.toNat - 48) : Nat) : Int) by omega, ih, worth_cons]
        have : dig c = true := by simp [dig, hd]
        simp [this]
    · have hd' : dig c = false := by simp [dig]; omega
      rw [if_neg (show ¬ (least ≤ ((p ++ c :: l).length : Int) ∧ ((p ++ c :: l).length : Int) ≤ most ∧ (c :: l).all dig = true) by simp [hd'])]
      by_cases h3 : (c.toNat : Int) < 48
      · rw [if_pos h3]
      · rw [if_neg h3, if_pos (by omega)]
theorem number_DV (l : List UInt8) (least most : Int) (k : Nat) (hk : l.length < k) (h0 : 0 ≤ most) (hm : most ≤ 10) (hl : l.length ≤ 1000000) : date_number.f k (bb l) least most = some (DV l least most) := by
  have := number_DV_l0 least most hm l [] 0 k hk (by simpa using h0) hl (by simp)
  simpa [DV, date_number.f] using this
end Go.Proofs.YtcpmoolpbeeedaaGreatDoor.Q
