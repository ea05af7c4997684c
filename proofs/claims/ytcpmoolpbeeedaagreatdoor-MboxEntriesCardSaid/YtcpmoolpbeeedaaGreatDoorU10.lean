import Derived.Test.YtcpmoolpbeeedaaGreatDoorAD
import Derived.Test.YtcpmoolpbeeedaaGreatDoorDM1
import Derived.Test.YtcpmoolpbeeedaaGreatDoorDM10
import Derived.Test.YtcpmoolpbeeedaaGreatDoorDM6
import Derived.Test.YtcpmoolpbeeedaaGreatDoorDM8
import Derived.Test.YtcpmoolpbeeedaaGreatDoorQ10
import Derived.Test.YtcpmoolpbeeedaaGreatDoorQ20
import Derived.Test.YtcpmoolpbeeedaaGreatDoorQ24
import Derived.Test.YtcpmoolpbeeedaaGreatDoorQ26
import Derived.Test.YtcpmoolpbeeedaaGreatDoorQ9
import Derived.Test.YtcpmoolpbeeedaaGreatDoorU8
import Derived.Test.YtcpmoolpbeeedaaGreatDoorU9
import Derived.Test.YtcpmoolpbeeedaaGreatDoorUA
import Derived.Test.YtcpmoolpbeeedaaGreatDoorUN
namespace Go.Proofs.YtcpmoolpbeeedaaGreatDoor.Q
open Go.RowKit Go.Proofs.YtcpmoolpbeeedaaGreatDoorW.PrintWords Go.Proofs.YtcpmoolpbeeedaaGreatDoorW.PrintLast Go.Proofs.YtcpmoolpbeeedaaGreatDoorW.PrintMore
theorem refFold_l0 : ∀ (rest pre : List UInt8) (k : Nat), rest.length < k → (pre ++ rest).length ≤ 1000000 →
    bulletinref06_Fold.l0 k (bb (pre ++ rest)) (bb (pre.map glyph_Fold.low)) (pre.length : Int) = some (bb ((pre ++ rest).map glyph_Fold.low))
  | [], pre, k, hk, hl => by
    obtain ⟨k, rfl⟩ : ∃ k', k = k' + 1 := ⟨k - 1, by simp at hk; omega⟩
    rw [List.append_nil] at *
    rw [bulletinref06_Fold.l0, bb_size, if_neg (by omega)]
  | c :: r, pre, k, hk, hl => by
    obtain ⟨k, rfl⟩ : ∃ k', k = k' + 1 := ⟨k - 1, by simp at hk; omega⟩
    have hlen : (pre ++ c :: r).length = pre.length + (r.length + 1) := by simp
    have e : (pre.length : Int) + 1 = ((pre ++ [c]).length : Int) := by simp
    have ep : pre ++ c :: r = (pre ++ [c]) ++ r := by simp
    have hk' : r.length < k := by simp at hk; omega
    have ih := refFold_l0 r (pre ++ [c]) k hk' (by rw [← ep]; exact hl)
    have hc := UInt8.toNat_lt c
    rw [bulletinref06_Fold.l0, bb_size, if_pos (by omega), if_pos (by omega), bt_bb, w64 (n := (pre.length : Int) + 1) (by omega) (by omega)]
    have plain : ¬ (65 ≤ c.toNat ∧ c.toNat ≤ 90) → (if (pre.length : Int) ≤ (pre.length : Int) + 1 then (if (pre.length : Int) + 1 ≤ ((pre ++ c :: r).length : Int) then (if (bb (pre.map glyph_Fold.low)).size + ((bb (pre ++ c :: r)).extract ((pre.length : Int)).toNat ((pre.length : Int) + 1).toNat).size ≤ 9223372036854775807 then bulletinref06_Fold.l0 k (bb (pre ++ c :: r)) (bb (pre.map glyph_Fold.low) ++ (bb (pre ++ c :: r)).extract ((pre.length : Int)).toNat ((pre.length : Int) + 1).toNat) ((pre.length : Int) + 1) else none) else none) else none) = some (bb ((pre ++ c :: r).map glyph_Fold.low)) := by
      intro h
      rw [if_pos (by omega), if_pos (by omega), show ((pre.length : Int)).toNat = pre.length by omega, show ((pre.length : Int) + 1).toNat = pre.length + 1 by omega, bb_one, bb_size, bb_size, if_pos (by simp only [List.length_map, List.length_cons, List.length_nil]; omega), bb_append, e, ep]
      rw [show List.map glyph_Fold.low pre ++ [c] = List.map glyph_Fold.low (pre ++ [c]) by simp [glyph_Fold.low, h], ih]
    by_cases h1 : (c.toNat : Int) ≥ 65
    · rw [if_pos h1]
      by_cases h2 : (c.toNat : Int) ≤ 90
      · rw [if_pos h2]
        simp only [Option.bind_some]
        have hs : strOfNums ([((c.toNat : Int) + 32) % 256] : List Int) = bb [glyph_Fold.low c] := by
          unfold strOfNums bb glyph_Fold.low
          rw [if_pos (by omega)]
          simp only [List.map_cons, List.map_nil]
          congr 2
          rw [show (((c.toNat : Int) + 32) % 256).toNat = c.toNat + 32 by omega]
          congr 1
        rw [hs, bb_size, bb_size, if_pos (by simp only [List.length_map, List.length_cons, List.length_nil]; omega), bb_append, e, ep, show List.map glyph_Fold.low pre ++ [glyph_Fold.low c] = List.map glyph_Fold.low (pre ++ [c]) by simp, ih]
      · rw [if_neg h2]
        exact plain (by omega)
    · rw [if_neg h1]
      exact plain (by omega)
theorem refFold_is (l : List UInt8) (k : Nat) (hk : l.length < k) (hl : l.length ≤ 1000000) : bulletinref06_Fold.f k (bb l) = some (bb (l.map glyph_Fold.low)) := by
  have := refFold_l0 l [] k hk hl
  exact this
theorem refFold_eq (x : ByteArray) (hx : x.size < 1000000) (k : Nat) (hk : x.size < k) : bulletinref06_Fold.f k x = some (glyph_Fold.g x) := by
  have e : x.data.toList.length = x.size := Array.length_toList
  have h := refFold_is x.data.toList k (by omega) (by omega)
  have g := fold_g x.data.toList
  have b : bb x.data.toList = x := by simp [bb]
  rw [b] at h g
  rw [h, g]
theorem domain_l (y : ByteArray) (hy : y.size < 1000000) (k0 : Nat) (l : List ByteArray) (hl : l.length < 1000000000) : ∀ (n i k : Nat) (lg : Bool), i + n = l.length → 2 * k0 + y.size + n + 10 < k → (∀ x ∈ l, x.size + 40 < k0 ∧ x.size < 1000000) →
    ∃ r c, bulletinref13_Domain.l0 k y l lg (i : Int) = some (r, c) ∧ addr_domain.g (addr_label.f k0) lg (l.drop i) = some c
  | 0, i, k, lg, hi, hk, h => by
    obtain ⟨k, rfl⟩ : ∃ j, k = j + 1 := ⟨k - 1, by omega⟩
    unfold bulletinref13_Domain.l0
    rw [if_neg (by omega), List.drop_of_length_le (by omega)]
    by_cases hg : lg = true
    · rw [if_pos hg]
      exact ⟨_, _, rfl, by rw [addr_domain.g, if_pos hg]⟩
    · rw [if_neg hg, refFold_eq y hy k (by omega)]
      exact ⟨_, _, rfl, by rw [addr_domain.g, if_neg hg]⟩
  | n + 1, i, k, lg, hi, hk, h => by
    obtain ⟨k, rfl⟩ : ∃ j, k = j + 1 := ⟨k - 1, by omega⟩
    have hin : i < l.length := by omega
    have e : rdOf ByteArray.empty l (i : Int) = l[i] := by
      unfold rdOf
      rw [Int.toNat_natCast, List.getD_eq_getElem?_getD, List.getElem?_eq_getElem hin]
      rfl
    have hm := h _ (List.getElem_mem hin)
    obtain ⟨b, hb⟩ := Ad.label_l l[i] (by omega) l[i].size k0 0 (by omega) (by omega)
    have hb' : addr_label.f k0 l[i] = some b := hb
    have w : wrap64 ((i : Int) + 1) = ((i + 1 : Nat) : Int) := by unfold wrap64; omega
    unfold bulletinref13_Domain.l0
    rw [if_pos (by omega), if_pos (by omega), e, label_eq _ hm.2 k k0 (by omega) (by omega), hb', List.drop_eq_getElem_cons hin, w]
    rw [addr_domain.g, hb', Option.bind_some, Option.bind_some]
    by_cases hbt : b = true
    · rw [if_pos hbt, if_pos hbt]
      by_cases hs : (l[i].size : Int) > 63
      · rw [if_pos hs]
        have ih := domain_l y hy k0 l hl n (i + 1) k true (by omega) (by omega) h
        rw [show (lg || decide (63 < l[i].size)) = true by rw [decide_eq_true (by omega), Bool.or_true]]
        exact ih
      · rw [if_neg hs]
        have ih := domain_l y hy k0 l hl n (i + 1) k lg (by omega) (by omega) h
        rw [show (lg || decide (63 < l[i].size)) = lg by rw [decide_eq_false (by omega), Bool.or_false]]
        exact ih
    · rw [if_neg hbt, if_neg hbt]
      exact ⟨_, _, rfl, rfl⟩
theorem domain_eq (y : ByteArray) (hy : y.size < 100000) (k : Nat) (hk : 10 * y.size + 1000 < k) : ∃ r c, bulletinref13_Domain.f k y = some (r, c) ∧ addr_domain.f k y = some c := by
  obtain ⟨l, rfl⟩ : ∃ l, y = mk l := ⟨y.data.toList, (mk_data _).symm⟩
  rw [size_mk] at hy hk
  have hp := split_l l (by omega) l [] [] [] k rfl (by omega) (Nat.le_refl _) (Nat.le_refl _)
  have hn := splitC_len 46 l []
  have hs : ∀ y ∈ (Sp.splitC 46 [] l).map mk, y.size + 40 < l.length + 50 ∧ y.size < 1000000 := by
    intro y hy
    obtain ⟨z, hz, rfl⟩ := List.mem_map.1 hy
    have := Ad.splitC_sub 46 l [] z hz
    rw [size_mk]
    simp only [List.length_nil, Nat.zero_add] at this
    omega
  obtain ⟨r, c, h1, h2⟩ := domain_l (mk l) (by rw [size_mk]; omega) (l.length + 50) ((Sp.splitC 46 [] l).map mk) (by rw [List.length_map]; omega) _ 0 k (decide (253 < (mk l).size)) (Nat.zero_add _) (by rw [List.length_map, size_mk]; omega) hs
  refine ⟨r, c, ?_, ?_⟩
  · unfold bulletinref13_Domain.f bulletinref13_Split.f
    refine (congrArg (fun o => Option.bind o _) hp).trans ?_
    dsimp only [Option.bind_some]
    rw [List.nil_append, show decide (((mk l).size : Int) > 253) = decide (253 < (mk l).size) by rw [Bool.eq_iff_iff, decide_eq_true_iff, decide_eq_true_iff]; omega]
    exact h1
  · have h3 : addr_domain.f (l.length + 50) (mk l) = some c := by
      unfold addr_domain.f
      rw [if_pos (by rw [size_mk]; omega)]
      rw [List.drop_zero] at h2
      exact h2
    exact up_of (addr_domain.mono _) h3 k (by omega)
end Go.Proofs.YtcpmoolpbeeedaaGreatDoor.Q
