/- MboxQuoteBack, plain. -/
import Derived.Test.YtcpmoolpbeeedaaGreatDoorUA
import Derived.Test.YtcpmoolpbeeedaaGreatDoorQ39c
namespace Go.Proofs.YtcpmoolpbeeedaaGreatDoor.Q
open Go.RowKit Go.Proofs.YtcpmoolpbeeedaaGreatDoorW.PrintWords Go.Proofs.YtcpmoolpbeeedaaGreatDoorW.PrintLast Go.Proofs.YtcpmoolpbeeedaaGreatDoorW.PrintMore

theorem wrm2 (i : Nat) (h : i < 4611686018427387904) (h2 : 2 ≤ i) : wrap64 ((i : Int) - 2) = ((i - 2 : Nat) : Int) := by unfold wrap64; omega
theorem quoteBack_l0 (l t : List UInt8) (ht : t = ended ((lines [] l).map qu)) (hl : l.length ≤ 1000) : ∀ (n i k : Nat), t.length ≤ i + n → n < k → i ≤ 10000 →
    bulletinlaw23_MboxQuoteBack.l0 k (mk l) (mk t) (i : Int) = some true := by
  have htl : t.length ≤ 3000 := by
    have := ended_len l.length l [] (Nat.le_refl _)
    simp only [List.length_nil, Nat.zero_add] at this
    rw [ht]
    omega
  have hq : lines [] t = (lines [] l).map qu := by rw [ht]; exact lines_quoted l
  have hall : ∀ y ∈ lines [] t, ∃ x, y = qu x := fun y hy => by
    rw [hq] at hy
    obtain ⟨x, _, rfl⟩ := List.mem_map.1 hy
    exact ⟨x, rfl⟩
  have hend : ∀ k i, ¬ (i + 5 ≤ t.length) → i ≤ 10000 → bulletinlaw23_MboxQuoteBack.l0 (k + 1) (mk l) (mk t) ((i : Nat) : Int) = some true := by
    intro k i hi hi2
    rw [bulletinlaw23_MboxQuoteBack.l0, wr5 i (by omega), if_neg (by rw [size_mk]; omega), unquote_f t (by omega)]
    dsimp only [Option.bind_some]
    rw [ht, unquote_quote, beq_self_eq_true]
  intro n
  induction n with
  | zero =>
    intro i k hi hk hi2
    obtain ⟨k, rfl⟩ : ∃ j, k = j + 1 := ⟨k - 1, by omega⟩
    exact hend k i (by omega) hi2
  | succ n ih =>
    intro i k hi hk hi2
    obtain ⟨k, rfl⟩ : ∃ j, k = j + 1 := ⟨k - 1, by omega⟩
    by_cases h5 : i + 5 ≤ t.length
    · have next : bulletinlaw23_MboxQuoteBack.l0 k (mk l) (mk t) (wrap64 ((i : Int) + 1)) = some true := by
        rw [wr1 i (by omega)]
        exact ih (i + 1) k (by omega) (by omega) (by omega)
      rw [bulletinlaw23_MboxQuoteBack.l0, wr5 i (by omega), if_pos (by rw [size_mk]; omega), if_pos (by omega), if_pos (by omega), Int.toNat_natCast, Int.toNat_natCast, extract_mk, toList_mk, show i + 5 - i = 5 by omega]
      by_cases hf : (t.drop i).take 5 = from5
      · rw [if_pos (show (t.drop i).take 5 = [70, 114, 111, 109, 32] from hf)]
        by_cases h0 : i = 0
        · subst h0
          exact absurd hf (no_from t hall)
        rw [if_neg (by omega)]
        by_cases h2 : 2 ≤ i
        · rw [if_pos (by omega), wrm2 i (by omega) h2, if_pos (by omega), if_pos (by omega), if_pos (by rw [size_mk]; omega), Int.toNat_natCast, extract_mk, toList_mk, show i - (i - 2) = 2 by omega]
          by_cases hc : (t.drop (i - 2)).take 2 = [13, 10]
          · have e : t = t.take (i - 2) ++ 13 :: 10 :: t.drop i := by
              have h1 : t.drop (i - 2) = [13, 10] ++ t.drop i := by
                rw [← hc, show t.drop i = (t.drop (i - 2)).drop 2 by rw [List.drop_drop, show i - 2 + 2 = i by omega], List.take_append_drop]
              have h3 := List.take_append_drop (i - 2) t
              rw [h1] at h3
              exact h3.symm
            have hcut := lines_cut _ (t.take (i - 2)) [] (t.drop i) (Nat.le_refl _)
            rw [← e] at hcut
            exact absurd hf (no_from (t.drop i) fun y hy => hall y (by rw [hcut]; exact List.mem_append_right _ hy))
          · rw [if_neg hc]
            exact next
        · rw [if_neg (by omega)]
          exact next
      · rw [if_neg (show ¬ (t.drop i).take 5 = [70, 114, 111, 109, 32] from hf)]
        exact next
    · exact hend k i h5 hi2
theorem quoteBack_all (a0 : ByteArray) (k : Nat) (hk : 10000 ≤ k) : bulletinlaw23_MboxQuoteBack.f k a0 = some true := by
  unfold bulletinlaw23_MboxQuoteBack.f
  rw [works_up k (by omega)]
  dsimp only [Option.bind_some]
  rw [if_pos rfl]
  by_cases h0 : (a0.size : Int) > 1000
  · rw [if_pos h0]
  rw [if_neg h0]
  obtain ⟨l, rfl⟩ : ∃ l, a0 = mk l := ⟨a0.data.toList, (mk_data a0).symm⟩
  rw [size_mk] at h0
  rw [quote_f l (by omega)]
  dsimp only [Option.bind_some]
  exact quoteBack_l0 l _ rfl (by omega) 5000 0 k (by
    have := ended_len l.length l [] (Nat.le_refl _)
    simp only [List.length_nil, Nat.zero_add] at this
    omega) (by omega) (by omega)
theorem mboxQuoteBack_pure (a0 : ByteArray) : bulletinlaw23_MboxQuoteBack.f 20000 a0 = some true := quoteBack_all a0 20000 (by decide)
end Go.Proofs.YtcpmoolpbeeedaaGreatDoor.Q
