/- What the words of mail and addresses answer: they answer always. -/
import Derived.Test.YtcpmoolpbeeedaaGreatDoorQ4
import Derived.Test.YtcpmoolpbeeedaaGreatDoorQ5
import Derived.Test.YtcpmoolpbeeedaaGreatDoorQ6
import Derived.Test.YtcpmoolpbeeedaaGreatDoorQ7
import Derived.Test.YtcpmoolpbeeedaaGreatDoorQ8
import Derived.Test.YtcpmoolpbeeedaaGreatDoorQ9
import Derived.Test.YtcpmoolpbeeedaaGreatDoorQ10
import Derived.Test.YtcpmoolpbeeedaaGreatDoorQ11
import Derived.Test.YtcpmoolpbeeedaaGreatDoorQ12
import Derived.Test.YtcpmoolpbeeedaaGreatDoorQ13
import Derived.Test.YtcpmoolpbeeedaaGreatDoorQ14
namespace Go.Proofs.YtcpmoolpbeeedaaGreatDoor.Q.Ad
open Go.RowKit Go.Proofs.YtcpmoolpbeeedaaGreatDoorW.PrintWords Go.Proofs.YtcpmoolpbeeedaaGreatDoorW.PrintLast Go.Proofs.YtcpmoolpbeeedaaGreatDoorW.PrintMore Sp

theorem up_of {α : Type} {f : Nat → Option α} (hm : ∀ k, LeO (f k) (f (k + 1))) {K : Nat} {v : α} (h : f K = some v) : ∀ k, K ≤ k → f k = some v := by
  intro k hk
  induction hk with
  | refl => exact h
  | step _ ih => exact hm _ _ ih
theorem bt_list (l : List UInt8) (i : Nat) (h : i < l.length) : bt ⟨l.toArray⟩ (i : Int) = ((l[i]'h).toNat : Int) := by
  unfold bt
  have h2 : (i : Int).toNat < (⟨l.toArray⟩ : ByteArray).size := by simpa [ByteArray.size] using h
  rw [dif_pos h2]
  rfl
theorem size_list (l : List UInt8) : (⟨l.toArray⟩ : ByteArray).size = l.length := by simp [ByteArray.size]
theorem extract_list (l : List UInt8) (i : Nat) (_h : i ≤ l.length) : (⟨l.toArray⟩ : ByteArray).extract i (⟨l.toArray⟩ : ByteArray).size = ⟨(l.drop i).toArray⟩ := by
  apply ByteArray.ext
  apply Array.toList_inj.1
  rw [size_list]
  simp [ByteArray.data_extract, List.extract_eq_take_drop] 
  rw [List.take_of_length_le (by simp)]
theorem list_eq (x : ByteArray) : ∃ l : List UInt8, x = ⟨l.toArray⟩ := ⟨x.data.toList, by simp⟩
theorem toList_mk (l : List UInt8) : (⟨l.toArray⟩ : ByteArray).toList = l := by rw [Lib.toList_data]



theorem wr1 (i : Int) (h0 : 0 ≤ i) (h1 : i < 4611686018427387904) : wrap64 (i + 1) = i + 1 := by unfold wrap64; omega
theorem wr2 (i : Int) (h0 : -4611686018427387904 < i) (h1 : i < 4611686018427387904) : wrap64 (i - 1) = i - 1 := by unfold wrap64; omega
theorem size_extract (x : ByteArray) (i : Nat) : (x.extract i x.size).size = x.size - i := by simp
theorem white_t (a : Int) : ∃ b, lex_white.f a = some b := by
  unfold lex_white.f
  split <;> exact ⟨_, rfl⟩
theorem fold_t (x : ByteArray) : ∃ b, lex_fold.f x = some b ∧ (b = true → 2 < x.size) := by
  unfold lex_fold.f
  by_cases h : (x.size : Int) > 2
  · rw [if_pos h, if_pos (by omega)]
    by_cases h1 : bt x 0 = 13
    · rw [if_pos h1, if_pos (by omega)]
      by_cases h2 : bt x 1 = 10
      · rw [if_pos h2, if_pos (by omega)]
        obtain ⟨b, hb⟩ := white_t (bt x 2)
        exact ⟨b, by rw [hb]; rfl, fun _ => by omega⟩
      · rw [if_neg h2]; exact ⟨_, rfl, fun e => by cases e⟩
    · rw [if_neg h1]; exact ⟨_, rfl, fun e => by cases e⟩
  · rw [if_neg h]; exact ⟨_, rfl, fun e => by cases e⟩
theorem text_t (a : Int) : ∃ b, lex_text.f a = some b := by
  unfold lex_text.f
  split
  · exact ⟨_, rfl⟩
  · split <;> exact ⟨_, rfl⟩
theorem escaped_t (x : ByteArray) : ∃ c, lex_escaped.f x = some c ∧ (c = 0 → 0 < x.size) := by
  unfold lex_escaped.f
  split
  · exact ⟨_, rfl, fun e => by cases e⟩
  · rename_i h
    have hp : 0 < x.size := by
      rcases Nat.eq_zero_or_pos x.size with h0 | h0
      · exact absurd (by
          have he : x = (⟨#[]⟩ : ByteArray) := ByteArray.ext (Array.eq_empty_of_size_eq_zero h0)
          rw [he]; exact toList_mk []) h
      · exact h0
    rw [if_pos (by omega)]
    obtain ⟨b, hb⟩ := text_t (bt x 0)
    rw [hb]
    dsimp only [Option.bind_some]
    split
    · exact ⟨_, rfl, fun _ => hp⟩
    · exact ⟨_, rfl, fun _ => hp⟩
/-- A comment is told within three rounds a byte; what is left is less than was there. -/
theorem comment_t (x : ByteArray) (hx : x.size < 1000000) : ∀ (n k : Nat) (d i : Int), (x.size : Int) + 4 - i ≤ n → 3 * n + 3 < k → 1 ≤ d → d ≤ i → i ≤ x.size + 2 →
    ∃ r, lex_comment.l0 k x d i = some r ∧ (r.2 = 0 → r.1.size < x.size)
  | 0, k, d, i, hn, hk, hd, hdi, hi => by omega
  | n + 1, k, d, i, hn, hk, hd, hdi, hi => by
    obtain ⟨k, rfl⟩ : ∃ j, k = j + 3 := ⟨k - 3, by omega⟩
    unfold lex_comment.l0
    by_cases h1 : i < (x.size : Int)
    · have step : ∀ k' d' i', i < i' → 3 * n + 3 < k' → 1 ≤ d' → d' ≤ i' → i' ≤ x.size + 2 → ∃ r, lex_comment.l0 k' x d' i' = some r ∧ (r.2 = 0 → r.1.size < x.size) := fun k' d' i' a1 a2 a3 a4 a5 => comment_t x hx n k' d' i' (by omega) a2 a3 a4 a5
      rw [if_pos h1, if_pos (by omega), if_pos (by omega)]
      obtain ⟨b, hb, hb2⟩ := fold_t (x.extract i.toNat x.size)
      rw [size_extract] at hb2
      rw [hb]
      dsimp only [Option.bind_some]
      rw [wr1 i (by omega) (by omega), wr1 (i + 1) (by omega) (by omega)]
      by_cases hbt : b = true
      · rw [if_pos hbt]
        exact step _ _ _ (by omega) (by omega) hd (by omega) (by omega)
      rw [if_neg hbt]
      by_cases h92 : bt x i = 92
      · rw [if_pos h92, if_pos (by omega), if_pos (by omega)]
        obtain ⟨c, hc, _⟩ := escaped_t (x.extract (i + 1).toNat x.size)
        rw [hc]
        dsimp only [Option.bind_some]
        split
        · exact step _ _ _ (by omega) (by omega) hd (by omega) (by omega)
        · rename_i h; exact ⟨_, rfl, fun e => absurd e h⟩
      rw [if_neg h92]
      have j2 : ∀ b2, (b2 = true → d = 1) → (bt x i = 41 → b2 = (d == 1)) → ∃ r, lex_comment.j2 (k + 1) x d i (bt x i) b2 = some r ∧ (r.2 = 0 → r.1.size < x.size) := by
        intro b2 hb2 hb3
        unfold lex_comment.j2
        rw [wr1 i (by omega) (by omega), wr2 d (by omega) (by omega)]
        by_cases h : b2 = true
        · rw [if_pos h, if_pos (by omega), if_pos (by omega), if_neg (by decide)]
          refine ⟨_, rfl, fun _ => ?_⟩
          dsimp only
          rw [size_extract]
          omega
        · rw [if_neg h]
          by_cases h41 : bt x i = 41
          · rw [if_pos h41]
            have hd1 : d ≠ 1 := fun e => h ((hb3 h41).trans (beq_iff_eq.2 e))
            exact step _ _ _ (by omega) (by omega) (by omega) (by omega) (by omega)
          · rw [if_neg h41]
            obtain ⟨b4, hb4⟩ := text_t (bt x i)
            rw [hb4]
            dsimp only [Option.bind_some]
            split
            · exact step _ _ _ (by omega) (by omega) hd (by omega) (by omega)
            · exact ⟨_, rfl, fun e => by cases e⟩
      have j1 : ∀ b1, ∃ r, lex_comment.j1 (k + 2) x d i (bt x i) b1 = some r ∧ (r.2 = 0 → r.1.size < x.size) := by
        intro b1
        unfold lex_comment.j1
        rw [wr1 i (by omega) (by omega), wr1 d (by omega) (by omega)]
        by_cases h : b1 = true
        · rw [if_pos h]; exact ⟨_, rfl, fun e => by cases e⟩
        · rw [if_neg h]
          by_cases h40 : bt x i = 40
          · rw [if_pos h40]
            exact step _ _ _ (by omega) (by omega) (by omega) (by omega) (by omega)
          · rw [if_neg h40]
            by_cases h41 : bt x i = 41
            · rw [if_pos h41]; exact j2 _ (fun e => beq_iff_eq.1 e) (fun _ => rfl)
            · rw [if_neg h41]; exact j2 _ (fun e => by cases e) (fun e => absurd e h41)
      split
      · exact j1 _
      · exact j1 _
    · rw [if_neg h1, if_pos (by omega)]
      exact ⟨_, rfl, fun e => by cases e⟩
theorem comment_f (x : ByteArray) (hx : x.size < 1000000) (h0 : 0 < x.size) (h40 : bt x 0 = 40) (k : Nat) (hk : 3 * x.size + 20 < k) : ∃ r, lex_comment.f k x = some r ∧ (r.2 = 0 → r.1.size < x.size) := by
  obtain ⟨k, rfl⟩ : ∃ j, k = j + 3 := ⟨k - 3, by omega⟩
  unfold lex_comment.f lex_comment.l0
  rw [if_pos (by omega), if_pos (by omega), if_pos (by omega)]
  have hf : lex_fold.f (x.extract (0 : Int).toNat x.size) = some false := by
    have e : x.extract (0 : Int).toNat x.size = x := by simp
    rw [e]
    unfold lex_fold.f
    split
    · rw [if_pos (by omega), if_neg (by omega)]
    · rfl
  rw [hf]
  dsimp only [Option.bind_some]
  rw [if_neg (by decide), if_neg (by omega), if_pos h40]
  unfold lex_comment.j1
  rw [if_neg (by decide), if_pos h40]
  rw [wr1 0 (by decide) (by decide)]
  exact comment_t x hx (x.size + 4) _ _ _ (by omega) (by omega) (by decide) (by decide) (by omega)
theorem quoted_t (x : ByteArray) (hx : x.size < 1000000) : ∀ (n k : Nat) (b : List Int) (i : Int), 1 ≤ i → (x.size : Int) + 4 - i ≤ n → n + 3 < k → i ≤ x.size + 2 → b.length ≤ i →
    ∃ r, lex_quoted.l0 k x b i = some r ∧ (r.2.2.2 = 0 → r.2.2.1.size < x.size ∧ r.1 = 2)
  | 0, k, b, i, h0, hn, hk, hi, hb => by omega
  | n + 1, k, b, i, h0, hn, hk, hi, hl => by
    obtain ⟨k, rfl⟩ : ∃ j, k = j + 1 := ⟨k - 1, by omega⟩
    unfold lex_quoted.l0
    by_cases h1 : i < (x.size : Int)
    · have step : ∀ b' i', i < i' → i' ≤ x.size + 2 → b'.length ≤ i' → ∃ r, lex_quoted.l0 k x b' i' = some r ∧ (r.2.2.2 = 0 → r.2.2.1.size < x.size ∧ r.1 = 2) := fun b' i' a1 a2 a3 => quoted_t x hx n k b' i' (by omega) (by omega) (by omega) a2 a3
      rw [if_pos h1, if_pos (by omega), if_pos (by omega)]
      obtain ⟨f, hf, _⟩ := fold_t (x.extract i.toNat x.size)
      rw [hf]
      dsimp only [Option.bind_some]
      rw [wr1 i (by omega) (by omega), wr1 (i + 1) (by omega) (by omega)]
      split
      · exact step _ _ (by omega) (by omega) (by omega)
      by_cases h92 : bt x i = 92
      · rw [if_pos h92, if_pos (by omega), if_pos (by omega)]
        obtain ⟨c, hc, hc2⟩ := escaped_t (x.extract (i + 1).toNat x.size)
        rw [size_extract] at hc2
        rw [hc]
        dsimp only [Option.bind_some]
        split
        · rename_i h
          have := hc2 h
          rw [if_pos (by omega), if_pos (by omega)]
          exact step _ _ (by omega) (by omega) (by simp; omega)
        · rename_i h; exact ⟨_, rfl, fun e => absurd e h⟩
      rw [if_neg h92]
      by_cases h34 : bt x i = 34
      · rw [if_pos h34, if_pos (by omega), if_pos (by omega)]
        refine ⟨_, rfl, fun _ => ⟨?_, rfl⟩⟩
        dsimp only
        rw [size_extract]
        omega
      rw [if_neg h34]
      obtain ⟨b4, hb4⟩ := text_t (bt x i)
      rw [hb4]
      dsimp only [Option.bind_some]
      split
      · rw [if_pos (by omega)]
        exact step _ _ (by omega) (by omega) (by simp; omega)
      · exact ⟨_, rfl, fun e => by cases e⟩
    · rw [if_neg h1]
      exact ⟨_, rfl, fun e => by cases e⟩
theorem sign_t (a : Int) : ∃ b, lex_sign.f a = some b := ⟨_, rfl⟩
theorem atomic_t (a : Int) : ∃ b, lex_atomic.f a = some b := by
  unfold lex_atomic.f
  repeat' split
  all_goals exact ⟨_, rfl⟩
theorem next_l (x : ByteArray) (hx : x.size < 1000000) : ∀ (n k i : Nat), i + n = x.size → n < k → ∃ r, lex_next.l0 k x (i : Int) = some r ∧ (r.2.2.2 = 0 → r.2.2.1.size < x.size)
  | 0, k, i, hn, hk => by
    obtain ⟨k, rfl⟩ : ∃ j, k = j + 1 := ⟨k - 1, by omega⟩
    unfold lex_next.l0
    rw [if_neg (by omega)]
    split
    · exact ⟨_, rfl, fun e => by cases e⟩
    · rw [if_pos (by omega), if_pos (by omega)]
      refine ⟨_, rfl, fun _ => ?_⟩
      dsimp only
      rw [size_extract]
      omega
  | n + 1, k, i, hn, hk => by
    obtain ⟨k, rfl⟩ : ∃ j, k = j + 1 := ⟨k - 1, by omega⟩
    unfold lex_next.l0
    rw [if_pos (by omega), if_pos (by omega)]
    obtain ⟨b, hb⟩ := atomic_t (bt x i)
    rw [hb]
    dsimp only [Option.bind_some]
    split
    · rw [wr1 i (by omega) (by omega)]
      exact next_l x hx n k (i + 1) (by omega) (by omega)
    · split
      · exact ⟨_, rfl, fun e => by cases e⟩
      · rw [if_pos (by omega)]
        refine ⟨_, rfl, fun _ => ?_⟩
        dsimp only
        rw [size_extract]
        omega
theorem next_t (x : ByteArray) (hx : x.size < 1000000) (h0 : 0 < x.size) (k : Nat) (hk : 3 * x.size + 20 < k) : ∃ r, lex_next.f k x = some r ∧ (r.2.2.2 = 0 → r.2.2.1.size < x.size) := by
  unfold lex_next.f
  rw [if_pos (by omega)]
  obtain ⟨b, hb⟩ := white_t (bt x 0)
  rw [hb]
  dsimp only [Option.bind_some]
  split
  · rw [if_pos (by omega)]
    refine ⟨_, rfl, fun _ => ?_⟩
    dsimp only
    rw [size_extract]
    omega
  obtain ⟨f, hf, hf2⟩ := fold_t x
  rw [hf]
  dsimp only [Option.bind_some]
  split
  · rename_i h
    have := hf2 h
    rw [if_pos (by omega)]
    refine ⟨_, rfl, fun _ => ?_⟩
    dsimp only
    rw [size_extract]
    omega
  split
  · rename_i h40
    obtain ⟨r, hr, hr2⟩ := comment_f x hx h0 h40 k hk
    rw [hr]
    exact ⟨_, rfl, hr2⟩
  split
  · obtain ⟨r, hr, hr2⟩ := quoted_t x hx (x.size + 4) k [] 1 (by decide) (by omega) (by omega) (by omega) (by simp)
    unfold lex_quoted.f
    rw [hr]
    exact ⟨_, rfl, fun e => (hr2 e).1⟩
  obtain ⟨s, hs⟩ := sign_t (bt x 0)
  rw [hs]
  dsimp only [Option.bind_some]
  split
  · rw [if_pos (by decide), if_pos (by omega)]
    refine ⟨_, rfl, fun _ => ?_⟩
    dsimp only
    rw [size_extract]
    omega
  · exact next_l x hx x.size k 0 (by omega) (by omega)
theorem scan_t : ∀ (n k : Nat) (x : ByteArray) (acc : List S158), x.size ≤ n → n < 1000000 → 4 * n + 40 < k → acc.length + x.size < 5864062014805 →
    ∃ r, lex_Scan.l0 k x acc = some r
  | n, k, x, acc, hn, hm, hk, ha => by
    obtain ⟨k, rfl⟩ : ∃ j, k = j + 1 := ⟨k - 1, by omega⟩
    unfold lex_Scan.l0
    split
    · exact ⟨_, rfl⟩
    · rename_i hne
      have hp : 0 < x.size := by
        rcases Nat.eq_zero_or_pos x.size with h0 | h0
        · exact absurd (by
            have he : x = (⟨#[]⟩ : ByteArray) := ByteArray.ext (Array.eq_empty_of_size_eq_zero h0)
            rw [he]; exact toList_mk []) hne
        · exact h0
      obtain ⟨r, hr, hr2⟩ := next_t x (by omega) hp k (by omega)
      rw [hr]
      dsimp only [Option.bind_some]
      split
      · rename_i h
        have := hr2 h
        cases n with
        | zero => omega
        | succ n =>
          split
          · exact scan_t n k _ _ (by omega) (by omega) (by omega) (by omega)
          · rw [if_pos (by omega)]
            exact scan_t n k _ _ (by omega) (by omega) (by omega) (by simp; omega)
      · exact ⟨_, rfl⟩
theorem bytes_ne {x : ByteArray} (h : ¬ x.toList = ([] : List UInt8)) : 0 < x.size := by
  rcases Nat.eq_zero_or_pos x.size with h0 | h0
  · exact absurd (by
      have he : x = (⟨#[]⟩ : ByteArray) := ByteArray.ext (Array.eq_empty_of_size_eq_zero h0)
      rw [he]; exact toList_mk []) h
  · exact h0


/-- The bytes that words hold, the separators too. -/
def wt : List S158 → Nat
  | [] => 0
  | s :: l => s.f1.size + 1 + wt l
theorem wt_append : ∀ l m : List S158, wt (l ++ m) = wt l + wt m
  | [], m => by simp [wt]
  | s :: l, m => by simp only [List.cons_append, wt, wt_append l m]; omega
theorem quoted_s (x : ByteArray) (hx : x.size < 1000000) : ∀ (n k : Nat) (b : List Int) (i : Int) (r : Int × ByteArray × ByteArray × Int), 1 ≤ i → (x.size : Int) + 4 - i ≤ n → b.length ≤ i - 1 → i ≤ x.size + 2 →
    lex_quoted.l0 k x b i = some r → r.2.2.2 = 0 → r.2.1.size + r.2.2.1.size + 1 ≤ x.size
  | n, 0, b, i, r, h0, hn, hl, hi, h, h3 => by simp [lex_quoted.l0] at h
  | 0, k + 1, b, i, r, h0, hn, hl, hi, h, h3 => by omega
  | n + 1, k + 1, b, i, r, h0, hn, hl, hi, h, h3 => by
    have e1 := wr1 i (by omega) (by omega)
    have e2 := wr1 (i + 1) (by omega) (by omega)
    unfold lex_quoted.l0 at h
    rw [e1, e2] at h
    split at h
    · rename_i h1
      rw [if_pos (by omega), if_pos (by omega)] at h
      obtain ⟨f, hf, h⟩ := Option.bind_eq_some_iff.mp h
      split at h
      · exact quoted_s x hx n k b (i + 1 + 1) r (by omega) (by omega) (by omega) (by omega) h h3
      split at h
      · rw [if_pos (by omega), if_pos (by omega)] at h
        obtain ⟨c, hc, h⟩ := Option.bind_eq_some_iff.mp h
        split at h
        · split at h
          · split at h
            · exact quoted_s x hx n k _ (i + 1 + 1) r (by omega) (by omega) (by simp; omega) (by omega) h h3
            · cases h
          · cases h
        · rename_i hne
          obtain rfl := Option.some.inj h
          exact absurd h3 hne
      split at h
      · rw [if_pos (by omega), if_pos (by omega)] at h
        obtain rfl := Option.some.inj h
        dsimp only
        rw [size_extract, strOfNums_size]
        omega
      obtain ⟨c, hc, h⟩ := Option.bind_eq_some_iff.mp h
      split at h
      · split at h
        · exact quoted_s x hx n k _ (i + 1) r (by omega) (by omega) (by simp; omega) (by omega) h h3
        · cases h
      · obtain rfl := Option.some.inj h
        cases h3
    · obtain rfl := Option.some.inj h
      cases h3
theorem next_ls (x : ByteArray) (hx : x.size < 1000000) : ∀ (n k i : Nat) (r : Int × ByteArray × ByteArray × Int), i + n = x.size → lex_next.l0 k x (i : Int) = some r → r.2.2.2 = 0 → r.2.1.size + r.2.2.1.size ≤ x.size
  | n, 0, i, r, hn, h, h3 => by simp [lex_next.l0] at h
  | 0, k + 1, i, r, hn, h, h3 => by
    unfold lex_next.l0 at h
    rw [if_neg (by omega)] at h
    split at h
    · obtain rfl := Option.some.inj h
      cases h3
    · rw [if_pos (by omega), if_pos (by omega)] at h
      obtain rfl := Option.some.inj h
      dsimp only
      simp
      omega
  | n + 1, k + 1, i, r, hn, h, h3 => by
    unfold lex_next.l0 at h
    rw [if_pos (by omega), if_pos (by omega)] at h
    obtain ⟨b, hb, h⟩ := Option.bind_eq_some_iff.mp h
    split at h
    · rw [wr1 i (by omega) (by omega)] at h
      exact next_ls x hx n k (i + 1) r (by omega) h h3
    · split at h
      · obtain rfl := Option.some.inj h
        cases h3
      · rw [if_pos (by omega)] at h
        obtain rfl := Option.some.inj h
        dsimp only
        simp
        omega
theorem next_s (x : ByteArray) (hx : x.size < 1000000) (h0 : 0 < x.size) (k : Nat) (r : Int × ByteArray × ByteArray × Int) (h : lex_next.f k x = some r) (h3 : r.2.2.2 = 0) (h1 : r.1 ≠ 0) : r.2.1.size + r.2.2.1.size ≤ x.size := by
  unfold lex_next.f at h
  rw [if_pos (by omega)] at h
  obtain ⟨b, hb, h⟩ := Option.bind_eq_some_iff.mp h
  split at h
  · rw [if_pos (by omega)] at h
    obtain rfl := Option.some.inj h
    exact absurd rfl h1
  obtain ⟨f, hf, h⟩ := Option.bind_eq_some_iff.mp h
  split at h
  · split at h
    · obtain rfl := Option.some.inj h
      exact absurd rfl h1
    · cases h
  split at h
  · obtain ⟨c, hc, h⟩ := Option.bind_eq_some_iff.mp h
    obtain rfl := Option.some.inj h
    exact absurd rfl h1
  split at h
  · obtain ⟨c, hc, h⟩ := Option.bind_eq_some_iff.mp h
    obtain rfl := Option.some.inj h
    have := quoted_s x hx (x.size + 4) k [] 1 c (by decide) (by omega) (by simp) (by omega) hc h3
    dsimp only at this ⊢
    omega
  obtain ⟨s, hs, h⟩ := Option.bind_eq_some_iff.mp h
  split at h
  · rw [if_pos (by decide), if_pos (by omega)] at h
    obtain rfl := Option.some.inj h
    dsimp only
    simp
    omega
  · exact next_ls x hx x.size k 0 r (by omega) h h3
/-- The words hold no more than the text. -/
theorem scan_s : ∀ (n k : Nat) (x : ByteArray) (acc : List S158) (r : List S158 × Int), x.size ≤ n → n < 1000000 → lex_Scan.l0 k x acc = some r → r.2 = 0 → wt r.1 ≤ wt acc + 2 * x.size
  | n, 0, x, acc, r, hn, hm, h, h3 => by simp [lex_Scan.l0] at h
  | n, k + 1, x, acc, r, hn, hm, h, h3 => by
    unfold lex_Scan.l0 at h
    split at h
    · obtain rfl := Option.some.inj h
      dsimp only
      omega
    · rename_i hne
      have hp := bytes_ne hne
      obtain ⟨t, ht, h⟩ := Option.bind_eq_some_iff.mp h
      split at h
      · rename_i h4
        obtain ⟨t', ht', hlt⟩ := next_t x (by omega) hp (k + 3 * x.size + 21) (by omega)
        obtain rfl : t' = t := Option.some.inj (ht'.symm.trans (up_of (lex_next.mono x) ht _ (by omega)))
        have hlt := hlt h4
        cases n with
        | zero => omega
        | succ n =>
          split at h
          · have := scan_s n k _ _ r (by omega) (by omega) h h3
            omega
          · rename_i h1
            have hs := next_s x (by omega) hp k t' ht h4 h1
            split at h
            · have := scan_s n k _ _ r (by omega) (by omega) h h3
              rw [wt_append] at this
              simp only [wt] at this
              omega
            · cases h
      · rename_i h4
        obtain rfl := Option.some.inj h
        exact absurd h3 h4
theorem is_t (l : List S158) (a : ByteArray) : ∃ b, addr_is.f l a = some b ∧ (b = true → 0 < l.length) := by
  unfold addr_is.f
  split
  · exact ⟨_, rfl, fun _ => by omega⟩
  · exact ⟨_, rfl, fun e => by cases e⟩
theorem wt_drop : ∀ (l : List S158), 0 < l.length → wt (l.drop 1) + (rd_T158 l 0).f1.size + 1 = wt l
  | [], h => by simp at h
  | s :: l, _ => by
    have : rd_T158 (s :: l) 0 = s := rfl
    rw [this]
    simp only [List.drop_succ_cons, List.drop_zero, wt]
    omega
theorem joined_t (x1 : Bool) : ∀ (n k : Nat) (l : List S158) (acc : ByteArray), wt l ≤ n → 2 * n + 4 < k → acc.size + wt l < 1000000000 →
    ∃ r, addr_joined.l0 k l x1 acc = some r ∧ r.1.size + wt r.2.1 ≤ acc.size + wt l
  | n, k, l, acc, hn, hk, ha => by
    obtain ⟨k, rfl⟩ : ∃ j, k = j + 2 := ⟨k - 2, by omega⟩
    unfold addr_joined.l0
    have out : ∃ r, addr_joined.j1 (k + 1) l x1 acc true = some r ∧ r.1.size + wt r.2.1 ≤ acc.size + wt l := by
      unfold addr_joined.j1
      rw [if_pos rfl]
      exact ⟨_, rfl, by show 0 + 0 ≤ _; omega⟩
    split
    · exact out
    · rename_i hl0
      have hp : 0 < l.length := by omega
      have hw := wt_drop l hp
      have j1 : ∀ b, ∃ r, addr_joined.j1 (k + 1) l x1 acc b = some r ∧ r.1.size + wt r.2.1 ≤ acc.size + wt l := by
        intro b
        cases b with
        | true => exact out
        | false =>
          unfold addr_joined.j1
          rw [if_neg (by decide), if_pos (by omega), if_pos (by omega), if_pos (by omega)]
          dsimp only [Option.bind_some]
          obtain ⟨b, hb, hb2⟩ := is_t (l.drop 1) (⟨#[46]⟩ : ByteArray)
          rw [hb]
          dsimp only [Option.bind_some]
          split
          · rename_i h
            have hp2 := hb2 h
            have hw2 := wt_drop (l.drop 1) hp2
            rw [if_pos (by omega), if_pos (by omega)]
            cases n with
            | zero => omega
            | succ n =>
              have hs : (acc ++ (rd_T158 l 0).f1 ++ (⟨#[46]⟩ : ByteArray)).size = acc.size + (rd_T158 l 0).f1.size + 1 := by
                rw [ByteArray.size_append, ByteArray.size_append]; rfl
              obtain ⟨r, hr, hr2⟩ := joined_t x1 n k ((l.drop 1).drop 1) (acc ++ (rd_T158 l 0).f1 ++ (⟨#[46]⟩ : ByteArray)) (by omega) (by omega) (by rw [hs]; omega)
              rw [hs] at hr2
              exact ⟨r, hr, by omega⟩
          · refine ⟨_, rfl, ?_⟩
            dsimp only
            rw [ByteArray.size_append]
            omega
      rw [if_pos (by omega)]
      split
      · exact out
      · split
        · exact j1 _
        · exact j1 _
theorem isAtom_l (x : ByteArray) (hx : x.size < 1000000000) : ∀ (n k i : Nat), i + n = x.size → n < k → ∃ b, lex_IsAtom.l0 k x (x.size : Int) (i : Int) = some b
  | 0, k, i, hn, hk => by
    obtain ⟨k, rfl⟩ : ∃ j, k = j + 1 := ⟨k - 1, by omega⟩
    unfold lex_IsAtom.l0
    rw [if_neg (by omega)]
    exact ⟨_, rfl⟩
  | n + 1, k, i, hn, hk => by
    obtain ⟨k, rfl⟩ : ∃ j, k = j + 1 := ⟨k - 1, by omega⟩
    unfold lex_IsAtom.l0
    rw [if_pos (by omega), if_pos (by omega), if_pos (by omega)]
    obtain ⟨b, hb⟩ := atomic_t (bt x i)
    rw [hb]
    dsimp only [Option.bind_some]
    split
    · rw [wr1 i (by omega) (by omega)]
      exact isAtom_l x hx n k (i + 1) (by omega) (by omega)
    · exact ⟨_, rfl⟩
theorem allP_t {f : ByteArray → Option Bool} : ∀ l : List ByteArray, (∀ x ∈ l, ∃ b, f x = some b) → ∃ b, allP f l = some b
  | [], _ => ⟨_, rfl⟩
  | x :: l, h => by
    obtain ⟨b, hb⟩ := h x (by simp)
    obtain ⟨c, hc⟩ := allP_t l (fun y hy => h y (by simp [hy]))
    unfold allP
    rw [hb]
    dsimp only [Option.bind_some]
    split
    · exact ⟨c, hc⟩
    · exact ⟨_, rfl⟩
theorem splitC_sub (c : UInt8) : ∀ (l cur : List UInt8) (p : List UInt8), p ∈ splitC c cur l → p.length ≤ cur.length + l.length
  | [], cur, p, h => by
    obtain rfl : p = cur := by simpa [splitC] using h
    simp
  | y :: l, cur, p, h => by
    rw [splitC] at h
    split at h
    · rcases List.mem_cons.1 h with rfl | h
      · omega
      · have := splitC_sub c l [] p h
        simp at this ⊢
        omega
    · have := splitC_sub c l (cur ++ [y]) p h
      simp at this ⊢
      omega
theorem parts_sub (c : UInt8) (s p : ByteArray) (h : p ∈ parts c s) : p.size ≤ s.size := by
  unfold parts at h
  obtain ⟨l, hl, rfl⟩ := List.mem_map.1 h
  have := splitC_sub c s.data.toList [] l hl
  rw [size_list]
  simp only [List.length_nil, Nat.zero_add] at this
  exact this
theorem dotted_t (x : ByteArray) (hx : x.size < 1000000000) (k : Nat) (hk : x.size < k) : ∃ b, addr_Dotted.f k x = some b := by
  unfold addr_Dotted.f
  rw [if_pos (by omega)]
  refine allP_t _ fun p hp => ?_
  have := parts_sub 46 x p hp
  exact isAtom_l p (by omega) p.size k 0 (by omega) (by omega)
theorem quote_l (x : ByteArray) (hx : x.size < 1000000000) : ∀ (n k i : Nat) (acc : List Int), i + n = x.size → 2 * n + 2 < k → acc.length ≤ 2 * i + 1 → ∃ r, lex_Quote.l0 k x acc (x.size : Int) (i : Int) = some r ∧ r.size ≤ 2 * x.size + 2
  | 0, k, i, acc, hn, hk, ha => by
    obtain ⟨k, rfl⟩ : ∃ j, k = j + 1 := ⟨k - 1, by omega⟩
    unfold lex_Quote.l0
    rw [if_neg (by omega), if_pos (by omega)]
    refine ⟨_, rfl, ?_⟩
    rw [strOfNums_size]
    simp
    omega
  | n + 1, k, i, acc, hn, hk, ha => by
    obtain ⟨k, rfl⟩ : ∃ j, k = j + 2 := ⟨k - 2, by omega⟩
    unfold lex_Quote.l0
    rw [if_pos (by omega), if_pos (by omega), if_pos (by omega)]
    have j1 : ∀ b, ∃ r, lex_Quote.j1 (k + 1) x acc (bt x i) (x.size : Int) (i : Int) b = some r ∧ r.size ≤ 2 * x.size + 2 := by
      intro b
      unfold lex_Quote.j1
      rw [wr1 i (by omega) (by omega)]
      split
      · rw [if_pos (by omega)]
        dsimp only [Option.bind_some]
        rw [if_pos (by simp; omega)]
        exact quote_l x hx n k (i + 1) _ (by omega) (by omega) (by simp; omega)
      · obtain ⟨t, ht⟩ := text_t (bt x i)
        rw [ht]
        dsimp only [Option.bind_some]
        split
        · rw [if_pos (by omega)]
          exact quote_l x hx n k (i + 1) _ (by omega) (by omega) (by simp; omega)
        · rw [if_pos (by omega)]
          exact quote_l x hx n k (i + 1) _ (by omega) (by omega) (by simp; omega)
    split
    · exact j1 _
    · exact j1 _
theorem addrText_t (x y : ByteArray) (hx : x.size < 100000000) (hy : y.size < 100000000) (k : Nat) (hk : 2 * x.size + 10 < k) : ∃ r, addr_Addr_Text.f k x y = some r ∧ r.size < 1000000000 := by
  unfold addr_Addr_Text.f
  obtain ⟨b, hb⟩ := dotted_t x (by omega) k (by omega)
  rw [hb]
  dsimp only [Option.bind_some]
  have e : ∀ z : ByteArray, (z ++ (⟨#[64]⟩ : ByteArray) ++ y).size = z.size + 1 + y.size := fun z => by
    rw [ByteArray.size_append, ByteArray.size_append]; rfl
  split
  · rw [if_pos (by omega), if_pos (by omega)]
    exact ⟨_, rfl, by rw [e]; omega⟩
  · obtain ⟨q, hq, hq2⟩ := quote_l x (by omega) x.size k 0 [34] (by omega) (by omega) (by simp)
    unfold lex_Quote.f
    rw [show ((0 : Nat) : Int) = 0 from rfl] at hq
    rw [hq]
    dsimp only [Option.bind_some]
    rw [if_pos (by omega), if_pos (by omega)]
    exact ⟨_, rfl, by rw [e]; omega⟩
theorem labelled_t (a : Int) : ∃ b, addr_labelled.f a = some b := by
  unfold addr_labelled.f
  repeat' split
  all_goals exact ⟨_, rfl⟩
theorem label_l (x : ByteArray) (hx : x.size < 1000000000) : ∀ (n k i : Nat), i + n = x.size → n < k → ∃ b, addr_label.l0 k x (x.size : Int) (i : Int) = some b
  | 0, k, i, hn, hk => by
    obtain ⟨k, rfl⟩ : ∃ j, k = j + 1 := ⟨k - 1, by omega⟩
    unfold addr_label.l0
    rw [if_neg (by omega)]
    split
    · exact ⟨_, rfl⟩
    · rename_i h
      have := bytes_ne h
      rw [wr2 _ (by omega) (by omega), if_pos (by omega)]
      split
      · exact ⟨_, rfl⟩
      · rw [if_pos (by omega), if_pos (by omega)]
        exact ⟨_, rfl⟩
  | n + 1, k, i, hn, hk => by
    obtain ⟨k, rfl⟩ : ∃ j, k = j + 1 := ⟨k - 1, by omega⟩
    unfold addr_label.l0
    rw [if_pos (by omega), if_pos (by omega), if_pos (by omega)]
    obtain ⟨b, hb⟩ := labelled_t (bt x i)
    rw [hb]
    dsimp only [Option.bind_some]
    split
    · rw [wr1 i (by omega) (by omega)]
      exact label_l x hx n k (i + 1) (by omega) (by omega)
    · exact ⟨_, rfl⟩
theorem domain_g {f : ByteArray → Option Bool} : ∀ (l : List ByteArray) (lg : Bool), (∀ x ∈ l, ∃ b, f x = some b) → ∃ b, addr_domain.g f lg l = some b
  | [], lg, _ => ⟨_, rfl⟩
  | x :: l, lg, h => by
    obtain ⟨b, hb⟩ := h x (by simp)
    unfold addr_domain.g
    rw [hb]
    dsimp only [Option.bind_some]
    split
    · exact domain_g l _ (fun y hy => h y (by simp [hy]))
    · exact ⟨_, rfl⟩
theorem domain_t (x : ByteArray) (hx : x.size < 1000000000) (k : Nat) (hk : x.size < k) : ∃ b, addr_domain.f k x = some b := by
  unfold addr_domain.f
  rw [if_pos (by omega)]
  refine domain_g _ _ fun p hp => ?_
  have := parts_sub 46 x p hp
  exact label_l p (by omega) p.size k 0 (by omega) (by omega)
theorem why_t (x y : ByteArray) (hx : x.size < 100000000) (hy : y.size < 100000000) (k : Nat) (hk : 2 * x.size + y.size + 20 < k) : ∃ r, addr_why.f k x y = some r := by
  unfold addr_why.f
  obtain ⟨b, hb⟩ := domain_t y (by omega) k (by omega)
  rw [hb]
  dsimp only [Option.bind_some]
  have j0 : ∀ c, ∃ r, addr_why.j0 k b c x y = some r := by
    intro c
    obtain ⟨k, rfl⟩ : ∃ j, k = j + 1 := ⟨k - 1, by omega⟩
    rw [addr_why.j0]
    split
    · exact ⟨_, rfl⟩
    split
    · split
      · exact ⟨_, rfl⟩
      · obtain ⟨t, ht, _⟩ := addrText_t x y hx hy k (by omega)
        rw [ht]
        dsimp only [Option.bind_some]
        split <;> exact ⟨_, rfl⟩
    · exact ⟨_, rfl⟩
  split
  · exact j0 _
  split
  · exact j0 _
  · have : glyph_Plain.f x = some (glyph_Plain.g x) := by unfold glyph_Plain.f; rw [if_pos (by omega)]
    rw [this]
    exact j0 _
theorem fold_size (x : ByteArray) : (glyph_Fold.g x).size = x.size := by
  unfold glyph_Fold.g
  rw [size_list, List.length_map]
  rfl
theorem gfold (x : ByteArray) (hx : x.size < 1000000000) : glyph_Fold.f x = some (glyph_Fold.g x) := by
  unfold glyph_Fold.f
  rw [if_pos (by omega)]
theorem of_t (l : List S158) (hl : wt l < 10000000) (k : Nat) (hk : 5 * wt l + 100 < k) : ∃ r, addr_Of.f k l = some r ∧ r.1.size ≤ wt l ∧ r.2.1.size ≤ wt l := by
  unfold addr_Of.f addr_joined.f
  obtain ⟨a, ha, ha2⟩ := joined_t false (wt l) k l (⟨#[]⟩ : ByteArray) (Nat.le_refl _) (by omega) (by show 0 + wt l < _; omega)
  rw [show (⟨#[]⟩ : ByteArray).size = 0 from rfl] at ha2
  rw [ha]
  dsimp only [Option.bind_some]
  obtain ⟨k, rfl⟩ : ∃ j, k = j + 2 := ⟨k - 2, by omega⟩
  have e0 : (⟨#[]⟩ : ByteArray).size = 0 := rfl
  have j0 : ∀ c, (c = false → 0 < a.2.1.length) → ∃ r, addr_Of.j0 (k + 2) a.2.1 a.1 c = some r ∧ r.1.size ≤ wt l ∧ r.2.1.size ≤ wt l := by
    intro c hc
    rw [addr_Of.j0]
    split
    · exact ⟨_, rfl, by dsimp only; omega, by dsimp only; omega⟩
    · rename_i hcf
      have hp := hc (by simpa using hcf)
      have hw := wt_drop a.2.1 hp
      rw [if_pos (by omega)]
      unfold addr_joined.f
      obtain ⟨d, hd, hd2⟩ := joined_t true (wt (a.2.1.drop 1)) (k + 1) (a.2.1.drop 1) (⟨#[]⟩ : ByteArray) (Nat.le_refl _) (by omega) (by rw [e0]; omega)
      rw [e0] at hd2
      rw [hd]
      dsimp only [Option.bind_some]
      have j1 : ∀ c, ∃ r, addr_Of.j1 (k + 1) a.1 d.1 c = some r ∧ r.1.size ≤ wt l ∧ r.2.1.size ≤ wt l := by
        intro c
        rw [addr_Of.j1]
        split
        · exact ⟨_, rfl, by dsimp only; omega, by dsimp only; omega⟩
        · rw [gfold d.1 (by omega)]
          dsimp only [Option.bind_some]
          have hg := fold_size d.1
          obtain ⟨y, hy⟩ := why_t a.1 (glyph_Fold.g d.1) (by omega) (by omega) k (by omega)
          rw [hy]
          dsimp only [Option.bind_some]
          split
          · exact ⟨_, rfl, by dsimp only; omega, by dsimp only; omega⟩
          · exact ⟨_, rfl, by dsimp only; omega, by dsimp only; omega⟩
      split
      · exact j1 _
      · exact j1 _
  split
  · obtain ⟨b, hb, hb2⟩ := is_t a.2.1 (⟨#[64]⟩ : ByteArray)
    rw [hb]
    dsimp only [Option.bind_some]
    exact j0 _ (fun e => hb2 (by simpa using e))
  · exact j0 _ (fun e => by cases e)
theorem parse_t (x : ByteArray) (hx : x.size < 100000) (k : Nat) (hk : 20 * x.size + 200 < k) : ∃ r, addr_Parse.f k x = some r ∧ r.1.size ≤ 2 * x.size ∧ r.2.1.size ≤ 2 * x.size := by
  unfold addr_Parse.f lex_Scan.f
  obtain ⟨r, hr⟩ := scan_t x.size k x [] (Nat.le_refl _) (by omega) (by omega) (by simp; omega)
  rw [hr]
  dsimp only [Option.bind_some]
  have e0 : (⟨#[]⟩ : ByteArray).size = 0 := rfl
  split
  · rename_i h
    have hs := scan_s x.size k x [] r (Nat.le_refl _) (by omega) hr h
    rw [show wt [] = 0 from rfl] at hs
    obtain ⟨o, ho, ho2, ho3⟩ := of_t r.1 (by omega) k (by omega)
    rw [ho]
    exact ⟨_, rfl, by dsimp only; omega, by dsimp only; omega⟩
  · exact ⟨_, rfl, by dsimp only; omega, by dsimp only; omega⟩

end Go.Proofs.YtcpmoolpbeeedaaGreatDoor.Q.Ad
