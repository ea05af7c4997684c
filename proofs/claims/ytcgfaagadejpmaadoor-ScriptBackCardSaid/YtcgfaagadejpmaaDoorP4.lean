/- What the words of mail and addresses answer: they answer always (lexer). -/
import Derived.Test.YtcgfaagadejpmaaDoorP1
namespace Go.Proofs.YtcgfaagadejpmaaDoor.Q
open Go.RowKit Go.Proofs.YtcgfaagadejpmaaDoorW.PrintWords Go.Proofs.YtcgfaagadejpmaaDoorW.PrintLast Go.Proofs.YtcgfaagadejpmaaDoorW.PrintMore Sp

theorem wr1 (i : Int) (h0 : 0 ≤ i) (h1 : i < 4611686018427387904) : wrap64 (i + 1) = i + 1 := by unfold wrap64; omega
theorem wr2 (i : Int) (h0 : -4611686018427387904 < i) (h1 : i < 4611686018427387904) : wrap64 (i - 1) = i - 1 := by unfold wrap64; omega
theorem size_extract (x : ByteArray) (i : Nat) : (x.extract i x.size).size = x.size - i := by simp
theorem white_t (a : Int) : ∃ b, lex_white.f a = some b := by
  unfold lex_white.f
  split <;> exact ⟨_, rfl⟩
theorem fold_t (x : ByteArray) : ∃ b, lex_fold.f x = some b ∧ (b = true → 2 < x.size) := by
  unfold lex_fold.f
  by_cases h : (x.size : Int) > 2
  · rw [if_pos h, if_pos (by omega)]
    by_cases h1 : bt x 0 = 13
    · rw [if_pos h1, if_pos (by omega)]
      by_cases h2 : bt x 1 = 10
      · rw [if_pos h2, if_pos (by omega)]
        obtain ⟨b, hb⟩ := white_t (bt x 2)
        exact ⟨b, by rw [hb]; rfl, fun _ => by omega⟩
      · rw [if_neg h2]; exact ⟨_, rfl, fun e => by cases e⟩
    · rw [if_neg h1]; exact ⟨_, rfl, fun e => by cases e⟩
  · rw [if_neg h]; exact ⟨_, rfl, fun e => by cases e⟩
theorem text_t (a : Int) : ∃ b, lex_text.f a = some b := by
  unfold lex_text.f
  split
  · exact ⟨_, rfl⟩
  · split <;> exact ⟨_, rfl⟩
theorem escaped_t (x : ByteArray) : ∃ c, lex_escaped.f x = some c ∧ (c = 0 → 0 < x.size) := by
  unfold lex_escaped.f
  split
  · exact ⟨_, rfl, fun e => by cases e⟩
  · rename_i h
    have hp : 0 < x.size := by
      rcases Nat.eq_zero_or_pos x.size with h0 | h0
      · exact absurd (by
          have he : x = (⟨#[]⟩ : ByteArray) := ByteArray.ext (Array.eq_empty_of_size_eq_zero h0)
          rw [he]; exact toList_mk []) h
      · exact h0
    rw [if_pos (by omega)]
    obtain ⟨b, hb⟩ := text_t (bt x 0)
    rw [hb]
    dsimp only [Option.bind_some]
    split
    · exact ⟨_, rfl, fun _ => hp⟩
    · exact ⟨_, rfl, fun _ => hp⟩
/-- A comment is told within three rounds a byte; what is left is less than was there. -/
theorem comment_t (x : ByteArray) (hx : x.size < 1000000) : ∀ (n k : Nat) (d i : Int), (x.size : Int) + 4 - i ≤ n → 3 * n + 3 < k → 1 ≤ d → d ≤ i → i ≤ x.size + 2 →
    ∃ r, lex_comment.l0 k x d i = some r ∧ (r.2 = 0 → r.1.size < x.size)
  | 0, k, d, i, hn, hk, hd, hdi, hi => by omega
  | n + 1, k, d, i, hn, hk, hd, hdi, hi => by
    obtain ⟨k, rfl⟩ : ∃ j, k = j + 3 := ⟨k - 3, by omega⟩
    unfold lex_comment.l0
    by_cases h1 : i < (x.size : Int)
    · have step : ∀ k' d' i', i < i' → 3 * n + 3 < k' → 1 ≤ d' → d' ≤ i' → i' ≤ x.size + 2 → ∃ r, lex_comment.l0 k' x d' i' = some r ∧ (r.2 = 0 → r.1.size < x.size) := fun k' d' i' a1 a2 a3 a4 a5 => comment_t x hx n k' d' i' (by omega) a2 a3 a4 a5
      rw [if_pos h1, if_pos (by omega), if_pos (by omega)]
      obtain ⟨b, hb, hb2⟩ := fold_t (x.extract i.toNat x.size)
      rw [size_extract] at hb2
      rw [hb]
      dsimp only [Option.bind_some]
      rw [wr1 i (by omega) (by omega), wr1 (i + 1) (by omega) (by omega)]
      by_cases hbt : b = true
      · rw [if_pos hbt]
        exact step _ _ _ (by omega) (by omega) hd (by omega) (by omega)
      rw [if_neg hbt]
      by_cases h92 : bt x i = 92
      · rw [if_pos h92, if_pos (by omega), if_pos (by omega)]
        obtain ⟨c, hc, _⟩ := escaped_t (x.extract (i + 1).toNat x.size)
        rw [hc]
        dsimp only [Option.bind_some]
        split
        · exact step _ _ _ (by omega) (by omega) hd (by omega) (by omega)
        · rename_i h; exact ⟨_, rfl, fun e => absurd e h⟩
      rw [if_neg h92]
      have j2 : ∀ b2, (b2 = true → d = 1) → (bt x i = 41 → b2 = (d == 1)) → ∃ r, lex_comment.j2 (k + 1) x d i (bt x i) b2 = some r ∧ (r.2 = 0 → r.1.size < x.size) := by
        intro b2 hb2 hb3
        unfold lex_comment.j2
        rw [wr1 i (by omega) (by omega), wr2 d (by omega) (by omega)]
        by_cases h : b2 = true
        · rw [if_pos h, if_pos (by omega), if_pos (by omega), if_neg (by decide)]
          refine ⟨_, rfl, fun _ => ?_⟩
          dsimp only
          rw [size_extract]
          omega
        · rw [if_neg h]
          by_cases h41 : bt x i = 41
          · rw [if_pos h41]
            have hd1 : d ≠ 1 := fun e => h ((hb3 h41).trans (beq_iff_eq.2 e))
            exact step _ _ _ (by omega) (by omega) (by omega) (by omega) (by omega)
          · rw [if_neg h41]
            obtain ⟨b4, hb4⟩ := text_t (bt x i)
            rw [hb4]
            dsimp only [Option.bind_some]
            split
            · exact step _ _ _ (by omega) (by omega) hd (by omega) (by omega)
            · exact ⟨_, rfl, fun e => by cases e⟩
      have j1 : ∀ b1, ∃ r, lex_comment.j1 (k + 2) x d i (bt x i) b1 = some r ∧ (r.2 = 0 → r.1.size < x.size) := by
        intro b1
        unfold lex_comment.j1
        rw [wr1 i (by omega) (by omega), wr1 d (by omega) (by omega)]
        by_cases h : b1 = true
        · rw [if_pos h]; exact ⟨_, rfl, fun e => by cases e⟩
        · rw [if_neg h]
          by_cases h40 : bt x i = 40
          · rw [if_pos h40]
            exact step _ _ _ (by omega) (by omega) (by omega) (by omega) (by omega)
          · rw [if_neg h40]
            by_cases h41 : bt x i = 41
            · rw [if_pos h41]; exact j2 _ (fun e => beq_iff_eq.1 e) (fun _ => rfl)
            · rw [if_neg h41]; exact j2 _ (fun e => by cases e) (fun e => absurd e h41)
      split
      · exact j1 _
      · exact j1 _
    · rw [if_neg h1, if_pos (by omega)]
      exact ⟨_, rfl, fun e => by cases e⟩
theorem comment_f (x : ByteArray) (hx : x.size < 1000000) (h0 : 0 < x.size) (h40 : bt x 0 = 40) (k : Nat) (hk : 3 * x.size + 20 < k) : ∃ r, lex_comment.f k x = some r ∧ (r.2 = 0 → r.1.size < x.size) := by
  obtain ⟨k, rfl⟩ : ∃ j, k = j + 3 := ⟨k - 3, by omega⟩
  unfold lex_comment.f lex_comment.l0
  rw [if_pos (by omega), if_pos (by omega), if_pos (by omega)]
  have hf : lex_fold.f (x.extract (0 : Int).toNat x.size) = some false := by
    have e : x.extract (0 : Int).toNat x.size = x := by simp
    rw [e]
    unfold lex_fold.f
    split
    · rw [if_pos (by omega), if_neg (by omega)]
    · rfl
  rw [hf]
  dsimp only [Option.bind_some]
  rw [if_neg (by decide), if_neg (by omega), if_pos h40]
  unfold lex_comment.j1
  rw [if_neg (by decide), if_pos h40]
  rw [wr1 0 (by decide) (by decide)]
  exact comment_t x hx (x.size + 4) _ _ _ (by omega) (by omega) (by decide) (by decide) (by omega)
theorem quoted_t (x : ByteArray) (hx : x.size < 1000000) : ∀ (n k : Nat) (b : List Int) (i : Int), 1 ≤ i → (x.size : Int) + 4 - i ≤ n → n + 3 < k → i ≤ x.size + 2 → b.length ≤ i →
    ∃ r, lex_quoted.l0 k x b i = some r ∧ (r.2.2.2 = 0 → r.2.2.1.size < x.size ∧ r.1 = 2)
  | 0, k, b, i, h0, hn, hk, hi, hb => by omega
  | n + 1, k, b, i, h0, hn, hk, hi, hl => by
    obtain ⟨k, rfl⟩ : ∃ j, k = j + 1 := ⟨k - 1, by omega⟩
    unfold lex_quoted.l0
    by_cases h1 : i < (x.size : Int)
    · have step : ∀ b' i', i < i' → i' ≤ x.size + 2 → b'.length ≤ i' → ∃ r, lex_quoted.l0 k x b' i' = some r ∧ (r.2.2.2 = 0 → r.2.2.1.size < x.size ∧ r.1 = 2) := fun b' i' a1 a2 a3 => quoted_t x hx n k b' i' (by omega) (by omega) (by omega) a2 a3
      rw [if_pos h1, if_pos (by omega), if_pos (by omega)]
      obtain ⟨f, hf, _⟩ := fold_t (x.extract i.toNat x.size)
      rw [hf]
      dsimp only [Option.bind_some]
      rw [wr1 i (by omega) (by omega), wr1 (i + 1) (by omega) (by omega)]
      split
      · exact step _ _ (by omega) (by omega) (by omega)
      by_cases h92 : bt x i = 92
      · rw [if_pos h92, if_pos (by omega), if_pos (by omega)]
        obtain ⟨c, hc, hc2⟩ := escaped_t (x.extract (i + 1).toNat x.size)
        rw [size_extract] at hc2
        rw [hc]
        dsimp only [Option.bind_some]
        split
        · rename_i h
          have := hc2 h
          rw [if_pos (by omega), if_pos (by omega)]
          exact step _ _ (by omega) (by omega) (by simp; omega)
        · rename_i h; exact ⟨_, rfl, fun e => absurd e h⟩
      rw [if_neg h92]
      by_cases h34 : bt x i = 34
      · rw [if_pos h34, if_pos (by omega), if_pos (by omega)]
        refine ⟨_, rfl, fun _ => ⟨?_, rfl⟩⟩
        dsimp only
        rw [size_extract]
        omega
      rw [if_neg h34]
      obtain ⟨b4, hb4⟩ := text_t (bt x i)
      rw [hb4]
      dsimp only [Option.bind_some]
      split
      · rw [if_pos (by omega)]
        exact step _ _ (by omega) (by omega) (by simp; omega)
      · exact ⟨_, rfl, fun e => by cases e⟩
    · rw [if_neg h1]
      exact ⟨_, rfl, fun e => by cases e⟩
theorem sign_t (a : Int) : ∃ b, lex_sign.f a = some b := ⟨_, rfl⟩
theorem atomic_t (a : Int) : ∃ b, lex_atomic.f a = some b := by
  unfold lex_atomic.f
  repeat' split
  all_goals exact ⟨_, rfl⟩
theorem next_l (x : ByteArray) (hx : x.size < 1000000) : ∀ (n k i : Nat), i + n = x.size → n < k → ∃ r, lex_next.l0 k x (i : Int) = some r ∧ (r.2.2.2 = 0 → r.2.2.1.size < x.size)
  | 0, k, i, hn, hk => by
    obtain ⟨k, rfl⟩ : ∃ j, k = j + 1 := ⟨k - 1, by omega⟩
    unfold lex_next.l0
    rw [if_neg (by omega)]
    split
    · exact ⟨_, rfl, fun e => by cases e⟩
    · rw [if_pos (by omega), if_pos (by omega)]
      refine ⟨_, rfl, fun _ => ?_⟩
      dsimp only
      rw [size_extract]
      omega
  | n + 1, k, i, hn, hk => by
    obtain ⟨k, rfl⟩ : ∃ j, k = j + 1 := ⟨k - 1, by omega⟩
    unfold lex_next.l0
    rw [if_pos (by omega), if_pos (by omega)]
    obtain ⟨b, hb⟩ := atomic_t (bt x i)
    rw [hb]
    dsimp only [Option.bind_some]
    split
    · rw [wr1 i (by omega) (by omega)]
      exact next_l x hx n k (i + 1) (by omega) (by omega)
    · split
      · exact ⟨_, rfl, fun e => by cases e⟩
      · rw [if_pos (by omega)]
        refine ⟨_, rfl, fun _ => ?_⟩
        dsimp only
        rw [size_extract]
        omega
theorem next_t (x : ByteArray) (hx : x.size < 1000000) (h0 : 0 < x.size) (k : Nat) (hk : 3 * x.size + 20 < k) : ∃ r, lex_next.f k x = some r ∧ (r.2.2.2 = 0 → r.2.2.1.size < x.size) := by
  unfold lex_next.f
  rw [if_pos (by omega)]
  obtain ⟨b, hb⟩ := white_t (bt x 0)
  rw [hb]
  dsimp only [Option.bind_some]
  split
  · rw [if_pos (by omega)]
    refine ⟨_, rfl, fun _ => ?_⟩
    dsimp only
    rw [size_extract]
    omega
  obtain ⟨f, hf, hf2⟩ := fold_t x
  rw [hf]
  dsimp only [Option.bind_some]
  split
  · rename_i h
    have := hf2 h
    rw [if_pos (by omega)]
    refine ⟨_, rfl, fun _ => ?_⟩
    dsimp only
    rw [size_extract]
    omega
  split
  · rename_i h40
    obtain ⟨r, hr, hr2⟩ := comment_f x hx h0 h40 k hk
    rw [hr]
    exact ⟨_, rfl, hr2⟩
  split
  · obtain ⟨r, hr, hr2⟩ := quoted_t x hx (x.size + 4) k [] 1 (by decide) (by omega) (by omega) (by omega) (by simp)
    unfold lex_quoted.f
    rw [hr]
    exact ⟨_, rfl, fun e => (hr2 e).1⟩
  obtain ⟨s, hs⟩ := sign_t (bt x 0)
  rw [hs]
  dsimp only [Option.bind_some]
  split
  · rw [if_pos (by decide), if_pos (by omega)]
    refine ⟨_, rfl, fun _ => ?_⟩
    dsimp only
    rw [size_extract]
    omega
  · exact next_l x hx x.size k 0 (by omega) (by omega)
theorem scan_t : ∀ (n k : Nat) (x : ByteArray) (acc : List S113), x.size ≤ n → n < 1000000 → 4 * n + 40 < k → acc.length + x.size < 5864062014805 →
    ∃ r, lex_Scan.l0 k x acc = some r
  | n, k, x, acc, hn, hm, hk, ha => by
    obtain ⟨k, rfl⟩ : ∃ j, k = j + 1 := ⟨k - 1, by omega⟩
    unfold lex_Scan.l0
    split
    · exact ⟨_, rfl⟩
    · rename_i hne
      have hp : 0 < x.size := by
        rcases Nat.eq_zero_or_pos x.size with h0 | h0
        · exact absurd (by
            have he : x = (⟨#[]⟩ : ByteArray) := ByteArray.ext (Array.eq_empty_of_size_eq_zero h0)
            rw [he]; exact toList_mk []) hne
        · exact h0
      obtain ⟨r, hr, hr2⟩ := next_t x (by omega) hp k (by omega)
      rw [hr]
      dsimp only [Option.bind_some]
      split
      · rename_i h
        have := hr2 h
        cases n with
        | zero => omega
        | succ n =>
          split
          · exact scan_t n k _ _ (by omega) (by omega) (by omega) (by omega)
          · rw [if_pos (by omega)]
            exact scan_t n k _ _ (by omega) (by omega) (by omega) (by simp; omega)
      · exact ⟨_, rfl⟩
theorem bytes_ne {x : ByteArray} (h : ¬ x.toList = ([] : List UInt8)) : 0 < x.size := by
  rcases Nat.eq_zero_or_pos x.size with h0 | h0
  · exact absurd (by
      have he : x = (⟨#[]⟩ : ByteArray) := ByteArray.ext (Array.eq_empty_of_size_eq_zero h0)
      rw [he]; exact toList_mk []) h
  · exact h0
end Go.Proofs.YtcgfaagadejpmaaDoor.Q
