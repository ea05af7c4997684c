import Derived.Test.YtcpmoolpbeeedaaGreatDoorQ0
import Derived.Test.YtcpmoolpbeeedaaGreatDoorQ10
import Derived.Test.YtcpmoolpbeeedaaGreatDoorQ4
import Derived.Test.YtcpmoolpbeeedaaGreatDoorQ5
import Derived.Test.YtcpmoolpbeeedaaGreatDoorQ9
namespace Go.Proofs.YtcpmoolpbeeedaaGreatDoor.Q.Ad
open Go.RowKit Go.Proofs.YtcpmoolpbeeedaaGreatDoorW.PrintWords Go.Proofs.YtcpmoolpbeeedaaGreatDoorW.PrintLast Go.Proofs.YtcpmoolpbeeedaaGreatDoorW.PrintMore Sp
theorem up_of {α : Type} {f : Nat → Option α} (hm : ∀ k, LeO (f k) (f (k + 1))) {K : Nat} {v : α} (h : f K = some v) : ∀ k, K ≤ k → f k = some v := by
  intro k hk
  induction hk with
  | refl => exact h
  | step _ ih => exact hm _ _ ih
theorem bt_list (l : List UInt8) (i : Nat) (h : i < l.length) : bt ⟨l.toArray⟩ (i : Int) = ((l[i]'h).toNat : Int) := by
  unfold bt
  have h2 : (i : Int).toNat < (⟨l.toArray⟩ : ByteArray).size := by simpa [ByteArray.size] using h
  rw [dif_pos h2]
  rfl
theorem size_list (l : List UInt8) : (⟨l.toArray⟩ : ByteArray).size = l.length := by simp [ByteArray.size]
theorem list_eq (x : ByteArray) : ∃ l : List UInt8, x = ⟨l.toArray⟩ := ⟨x.data.toList, by simp⟩
theorem toList_mk (l : List UInt8) : (⟨l.toArray⟩ : ByteArray).toList = l := by rw [Lib.toList_data]
theorem wr1 (i : Int) (h0 : 0 ≤ i) (h1 : i < 4611686018427387904) : wrap64 (i + 1) = i + 1 := by unfold wrap64; omega
theorem wr2 (i : Int) (h0 : -4611686018427387904 < i) (h1 : i < 4611686018427387904) : wrap64 (i - 1) = i - 1 := by unfold wrap64; omega
theorem size_extract (x : ByteArray) (i : Nat) : (x.extract i x.size).size = x.size - i := by simp
theorem text_t (a : Int) : ∃ b, lex_text.f a = some b := by
  unfold lex_text.f
  split
  · exact ⟨_, rfl⟩
  · split <;> exact ⟨_, rfl⟩
theorem atomic_t (a : Int) : ∃ b, lex_atomic.f a = some b := by
  unfold lex_atomic.f
  repeat' split
  all_goals exact ⟨_, rfl⟩
theorem bytes_ne {x : ByteArray} (h : ¬ x.toList = ([] : List UInt8)) : 0 < x.size := by
  rcases Nat.eq_zero_or_pos x.size with h0 | h0
  · exact absurd (by
      have he : x = (⟨#[]⟩ : ByteArray) := ByteArray.ext (Array.eq_empty_of_size_eq_zero h0)
      rw [he]; exact toList_mk []) h
  · exact h0
def wt : List S158 → Nat
  | [] => 0
  | s :: l => s.f1.size + 1 + wt l
theorem isAtom_l (x : ByteArray) (hx : x.size < 1000000000) : ∀ (n k i : Nat), i + n = x.size → n < k → ∃ b, lex_IsAtom.l0 k x (x.size : Int) (i : Int) = some b
  | 0, k, i, hn, hk => by
    obtain ⟨k, rfl⟩ : ∃ j, k = j + 1 := ⟨k - 1, by omega⟩
    unfold lex_IsAtom.l0
    rw [if_neg (by omega)]
    exact ⟨_, rfl⟩
  | n + 1, k, i, hn, hk => by
    obtain ⟨k, rfl⟩ : ∃ j, k = j + 1 := ⟨k - 1, by omega⟩
    unfold lex_IsAtom.l0
    rw [if_pos (by omega), if_pos (by omega), if_pos (by omega)]
    obtain ⟨b, hb⟩ := atomic_t (bt x i)
    rw [hb]
    dsimp only [Option.bind_some]
    split
    · rw [wr1 i (by omega) (by omega)]
      exact isAtom_l x hx n k (i + 1) (by omega) (by omega)
    · exact ⟨_, rfl⟩
theorem allP_t {f : ByteArray → Option Bool} : ∀ l : List ByteArray, (∀ x ∈ l, ∃ b, f x = some b) → ∃ b, allP f l = some b
  | [], _ => ⟨_, rfl⟩
  | x :: l, h => by
    obtain ⟨b, hb⟩ := h x (by simp)
    obtain ⟨c, hc⟩ := allP_t l (fun y hy => h y (by simp [hy]))
    unfold allP
    rw [hb]
    dsimp only [Option.bind_some]
    split
    · exact ⟨c, hc⟩
    · exact ⟨_, rfl⟩
theorem splitC_sub (c : UInt8) : ∀ (l cur : List UInt8) (p : List UInt8), p ∈ splitC c cur l → p.length ≤ cur.length + l.length
  | [], cur, p, h => by
    obtain rfl : p = cur := by simpa [splitC] using h
    simp
  | y :: l, cur, p, h => by
    rw [splitC] at h
    split at h
    · rcases List.mem_cons.1 h with rfl | h
      · omega
      · have := splitC_sub c l [] p h
        simp at this ⊢
        omega
    · have := splitC_sub c l (cur ++ [y]) p h
      simp at this ⊢
      omega
theorem parts_sub (c : UInt8) (s p : ByteArray) (h : p ∈ parts c s) : p.size ≤ s.size := by
  unfold parts at h
  obtain ⟨l, hl, rfl⟩ := List.mem_map.1 h
  have := splitC_sub c s.data.toList [] l hl
  rw [size_list]
  simp only [List.length_nil, Nat.zero_add] at this
  exact this
theorem dotted_t (x : ByteArray) (hx : x.size < 1000000000) (k : Nat) (hk : x.size < k) : ∃ b, addr_Dotted.f k x = some b := by
  unfold addr_Dotted.f
  rw [if_pos (by omega)]
  refine allP_t _ fun p hp => ?_
  have := parts_sub 46 x p hp
  exact isAtom_l p (by omega) p.size k 0 (by omega) (by omega)
theorem quote_l (x : ByteArray) (hx : x.size < 1000000000) : ∀ (n k i : Nat) (acc : List Int), i + n = x.size → 2 * n + 2 < k → acc.length ≤ 2 * i + 1 → ∃ r, lex_Quote.l0 k x acc (x.size : Int) (i : Int) = some r ∧ r.size ≤ 2 * x.size + 2
  | 0, k, i, acc, hn, hk, ha => by
    obtain ⟨k, rfl⟩ : ∃ j, k = j + 1 := ⟨k - 1, by omega⟩
    unfold lex_Quote.l0
    rw [if_neg (by omega), if_pos (by omega)]
    refine ⟨_, rfl, ?_⟩
    rw [strOfNums_size]
    simp
    omega
  | n + 1, k, i, acc, hn, hk, ha => by
    obtain ⟨k, rfl⟩ : ∃ j, k = j + 2 := ⟨k - 2, by omega⟩
    unfold lex_Quote.l0
    rw [if_pos (by omega), if_pos (by omega), if_pos (by omega)]
    have j1 : ∀ b, ∃ r, lex_Quote.j1 (k + 1) x acc (bt x i) (x.size : Int) (i : Int) b = some r ∧ r.size ≤ 2 * x.size + 2 := by
      intro b
      unfold lex_Quote.j1
      rw [wr1 i (by omega) (by omega)]
      split
      · rw [if_pos (by omega)]
        dsimp only [Option.bind_some]
        rw [if_pos (by simp; omega)]
        exact quote_l x hx n k (i + 1) _ (by omega) (by omega) (by simp; omega)
      · obtain ⟨t, ht⟩ := text_t (bt x i)
        rw [ht]
        dsimp only [Option.bind_some]
        split
        · rw [if_pos (by omega)]
          exact quote_l x hx n k (i + 1) _ (by omega) (by omega) (by simp; omega)
        · rw [if_pos (by omega)]
          exact quote_l x hx n k (i + 1) _ (by omega) (by omega) (by simp; omega)
    split
    · exact j1 _
    · exact j1 _
theorem addrText_t (x y : ByteArray) (hx : x.size < 100000000) (hy : y.size < 100000000) (k : Nat) (hk : 2 * x.size + 10 < k) : ∃ r, addr_Addr_Text.f k x y = some r ∧ r.size < 1000000000 := by
  unfold addr_Addr_Text.f
  obtain ⟨b, hb⟩ := dotted_t x (by omega) k (by omega)
  rw [hb]
  dsimp only [Option.bind_some]
  have e : ∀ z : ByteArray, (z ++ (⟨#[64]⟩ : ByteArray) ++ y).size = z.size + 1 + y.size := fun z => by
    rw [ByteArray.size_append, ByteArray.size_append]; rfl
  split
  · rw [if_pos (by omega), if_pos (by omega)]
    exact ⟨_, rfl, by rw [e]; omega⟩
  · obtain ⟨q, hq, hq2⟩ := quote_l x (by omega) x.size k 0 [34] (by omega) (by omega) (by simp)
    unfold lex_Quote.f
    rw [show ((0 : Nat) : Int) = 0 from rfl] at hq
    rw [hq]
    dsimp only [Option.bind_some]
    rw [if_pos (by omega), if_pos (by omega)]
    exact ⟨_, rfl, by rw [e]; omega⟩
theorem labelled_t (a : Int) : ∃ b, addr_labelled.f a = some b := by
  unfold addr_labelled.f
  repeat' split
  all_goals exact ⟨_, rfl⟩
theorem label_l (x : ByteArray) (hx : x.size < 1000000000) : ∀ (n k i : Nat), i + n = x.size → n < k → ∃ b, addr_label.l0 k x (x.size : Int) (i : Int) = some b
  | 0, k, i, hn, hk => by
    obtain ⟨k, rfl⟩ : ∃ j, k = j + 1 := ⟨k - 1, by omega⟩
    unfold addr_label.l0
    rw [if_neg (by omega)]
    split
    · exact ⟨_, rfl⟩
    · rename_i h
      have := bytes_ne h
      rw [wr2 _ (by omega) (by omega), if_pos (by omega)]
      split
      · exact ⟨_, rfl⟩
      · rw [if_pos (by omega), if_pos (by omega)]
        exact ⟨_, rfl⟩
  | n + 1, k, i, hn, hk => by
    obtain ⟨k, rfl⟩ : ∃ j, k = j + 1 := ⟨k - 1, by omega⟩
    unfold addr_label.l0
    rw [if_pos (by omega), if_pos (by omega), if_pos (by omega)]
    obtain ⟨b, hb⟩ := labelled_t (bt x i)
    rw [hb]
    dsimp only [Option.bind_some]
    split
    · rw [wr1 i (by omega) (by omega)]
      exact label_l x hx n k (i + 1) (by omega) (by omega)
    · exact ⟨_, rfl⟩
theorem domain_g {f : ByteArray → Option Bool} : ∀ (l : List ByteArray) (lg : Bool), (∀ x ∈ l, ∃ b, f x = some b) → ∃ b, addr_domain.g f lg l = some b
  | [], lg, _ => ⟨_, rfl⟩
  | x :: l, lg, h => by
    obtain ⟨b, hb⟩ := h x (by simp)
    unfold addr_domain.g
    rw [hb]
    dsimp only [Option.bind_some]
    split
    · exact domain_g l _ (fun y hy => h y (by simp [hy]))
    · exact ⟨_, rfl⟩
theorem domain_t (x : ByteArray) (hx : x.size < 1000000000) (k : Nat) (hk : x.size < k) : ∃ b, addr_domain.f k x = some b := by
  unfold addr_domain.f
  rw [if_pos (by omega)]
  refine domain_g _ _ fun p hp => ?_
  have := parts_sub 46 x p hp
  exact label_l p (by omega) p.size k 0 (by omega) (by omega)
theorem why_t (x y : ByteArray) (hx : x.size < 100000000) (hy : y.size < 100000000) (k : Nat) (hk : 2 * x.size + y.size + 20 < k) : ∃ r, addr_why.f k x y = some r := by
  unfold addr_why.f
  obtain ⟨b, hb⟩ := domain_t y (by omega) k (by omega)
  rw [hb]
  dsimp only [Option.bind_some]
  have j0 : ∀ c, ∃ r, addr_why.j0 k b c x y = some r := by
    intro c
    obtain ⟨k, rfl⟩ : ∃ j, k = j + 1 := ⟨k - 1, by omega⟩
    rw [addr_why.j0]
    split
    · exact ⟨_, rfl⟩
    split
    · split
      · exact ⟨_, rfl⟩
      · obtain ⟨t, ht, _⟩ := addrText_t x y hx hy k (by omega)
        rw [ht]
        dsimp only [Option.bind_some]
        split <;> exact ⟨_, rfl⟩
    · exact ⟨_, rfl⟩
  split
  · exact j0 _
  split
  · exact j0 _
  · have : glyph_Plain.f x = some (glyph_Plain.g x) := by unfold glyph_Plain.f; rw [if_pos (by omega)]
    rw [this]
    exact j0 _
theorem gfold (x : ByteArray) (hx : x.size < 1000000000) : glyph_Fold.f x = some (glyph_Fold.g x) := by
  unfold glyph_Fold.f
  rw [if_pos (by omega)]
end Go.Proofs.YtcpmoolpbeeedaaGreatDoor.Q.Ad
