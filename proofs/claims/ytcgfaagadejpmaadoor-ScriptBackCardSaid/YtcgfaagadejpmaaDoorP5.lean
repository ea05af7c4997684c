/- What addresses answer: they answer always. -/
import Derived.Test.YtcgfaagadejpmaaDoorP4
namespace Go.Proofs.YtcgfaagadejpmaaDoor.Q
open Go.RowKit Go.Proofs.YtcgfaagadejpmaaDoorW.PrintWords Go.Proofs.YtcgfaagadejpmaaDoorW.PrintLast Go.Proofs.YtcgfaagadejpmaaDoorW.PrintMore Sp

/-- The bytes that words hold, the separators too. -/
def wt : List S113 → Nat
  | [] => 0
  | s :: l => s.f1.size + 1 + wt l
theorem wt_append : ∀ l m : List S113, wt (l ++ m) = wt l + wt m
  | [], m => by simp [wt]
  | s :: l, m => by simp only [List.cons_append, wt, wt_append l m]; omega
theorem quoted_s (x : ByteArray) (hx : x.size < 1000000) : ∀ (n k : Nat) (b : List Int) (i : Int) (r : Int × ByteArray × ByteArray × Int), 1 ≤ i → (x.size : Int) + 4 - i ≤ n → b.length ≤ i - 1 → i ≤ x.size + 2 →
    lex_quoted.l0 k x b i = some r → r.2.2.2 = 0 → r.2.1.size + r.2.2.1.size + 1 ≤ x.size
  | n, 0, b, i, r, h0, hn, hl, hi, h, h3 => by simp [lex_quoted.l0] at h
  | 0, k + 1, b, i, r, h0, hn, hl, hi, h, h3 => by omega
  | n + 1, k + 1, b, i, r, h0, hn, hl, hi, h, h3 => by
    have e1 := wr1 i (by omega) (by omega)
    have e2 := wr1 (i + 1) (by omega) (by omega)
    unfold lex_quoted.l0 at h
    rw [e1, e2] at h
    split at h
    · rename_i h1
      rw [if_pos (by omega), if_pos (by omega)] at h
      obtain ⟨f, hf, h⟩ := Option.bind_eq_some_iff.mp h
      split at h
      · exact quoted_s x hx n k b (i + 1 + 1) r (by omega) (by omega) (by omega) (by omega) h h3
      split at h
      · rw [if_pos (by omega), if_pos (by omega)] at h
        obtain ⟨c, hc, h⟩ := Option.bind_eq_some_iff.mp h
        split at h
        · split at h
          · split at h
            · exact quoted_s x hx n k _ (i + 1 + 1) r (by omega) (by omega) (by simp; omega) (by omega) h h3
            · cases h
          · cases h
        · rename_i hne
          obtain rfl := Option.some.inj h
          exact absurd h3 hne
      split at h
      · rw [if_pos (by omega), if_pos (by omega)] at h
        obtain rfl := Option.some.inj h
        dsimp only
        rw [size_extract, strOfNums_size]
        omega
      obtain ⟨c, hc, h⟩ := Option.bind_eq_some_iff.mp h
      split at h
      · split at h
        · exact quoted_s x hx n k _ (i + 1) r (by omega) (by omega) (by simp; omega) (by omega) h h3
        · cases h
      · obtain rfl := Option.some.inj h
        cases h3
    · obtain rfl := Option.some.inj h
      cases h3
theorem next_ls (x : ByteArray) (hx : x.size < 1000000) : ∀ (n k i : Nat) (r : Int × ByteArray × ByteArray × Int), i + n = x.size → lex_next.l0 k x (i : Int) = some r → r.2.2.2 = 0 → r.2.1.size + r.2.2.1.size ≤ x.size
  | n, 0, i, r, hn, h, h3 => by simp [lex_next.l0] at h
  | 0, k + 1, i, r, hn, h, h3 => by
    unfold lex_next.l0 at h
    rw [if_neg (by omega)] at h
    split at h
    · obtain rfl := Option.some.inj h
      cases h3
    · rw [if_pos (by omega), if_pos (by omega)] at h
      obtain rfl := Option.some.inj h
      dsimp only
      simp
      omega
  | n + 1, k + 1, i, r, hn, h, h3 => by
    unfold lex_next.l0 at h
    rw [if_pos (by omega), if_pos (by omega)] at h
    obtain ⟨b, hb, h⟩ := Option.bind_eq_some_iff.mp h
    split at h
    · rw [wr1 i (by omega) (by omega)] at h
      exact next_ls x hx n k (i + 1) r (by omega) h h3
    · split at h
      · obtain rfl := Option.some.inj h
        cases h3
      · rw [if_pos (by omega)] at h
        obtain rfl := Option.some.inj h
        dsimp only
        simp
        omega
theorem next_s (x : ByteArray) (hx : x.size < 1000000) (h0 : 0 < x.size) (k : Nat) (r : Int × ByteArray × ByteArray × Int) (h : lex_next.f k x = some r) (h3 : r.2.2.2 = 0) (h1 : r.1 ≠ 0) : r.2.1.size + r.2.2.1.size ≤ x.size := by
  unfold lex_next.f at h
  rw [if_pos (by omega)] at h
  obtain ⟨b, hb, h⟩ := Option.bind_eq_some_iff.mp h
  split at h
  · rw [if_pos (by omega)] at h
    obtain rfl := Option.some.inj h
    exact absurd rfl h1
  obtain ⟨f, hf, h⟩ := Option.bind_eq_some_iff.mp h
  split at h
  · split at h
    · obtain rfl := Option.some.inj h
      exact absurd rfl h1
    · cases h
  split at h
  · obtain ⟨c, hc, h⟩ := Option.bind_eq_some_iff.mp h
    obtain rfl := Option.some.inj h
    exact absurd rfl h1
  split at h
  · obtain ⟨c, hc, h⟩ := Option.bind_eq_some_iff.mp h
    obtain rfl := Option.some.inj h
    have := quoted_s x hx (x.size + 4) k [] 1 c (by decide) (by omega) (by simp) (by omega) hc h3
    dsimp only at this ⊢
    omega
  obtain ⟨s, hs, h⟩ := Option.bind_eq_some_iff.mp h
  split at h
  · rw [if_pos (by decide), if_pos (by omega)] at h
    obtain rfl := Option.some.inj h
    dsimp only
    simp
    omega
  · exact next_ls x hx x.size k 0 r (by omega) h h3
/-- The words hold no more than the text. -/
theorem scan_s : ∀ (n k : Nat) (x : ByteArray) (acc : List S113) (r : List S113 × Int), x.size ≤ n → n < 1000000 → lex_Scan.l0 k x acc = some r → r.2 = 0 → wt r.1 ≤ wt acc + 2 * x.size
  | n, 0, x, acc, r, hn, hm, h, h3 => by simp [lex_Scan.l0] at h
  | n, k + 1, x, acc, r, hn, hm, h, h3 => by
    unfold lex_Scan.l0 at h
    split at h
    · obtain rfl := Option.some.inj h
      dsimp only
      omega
    · rename_i hne
      have hp := bytes_ne hne
      obtain ⟨t, ht, h⟩ := Option.bind_eq_some_iff.mp h
      split at h
      · rename_i h4
        obtain ⟨t', ht', hlt⟩ := next_t x (by omega) hp (k + 3 * x.size + 21) (by omega)
        obtain rfl : t' = t := Option.some.inj (ht'.symm.trans (up_of (lex_next.mono x) ht _ (by omega)))
        have hlt := hlt h4
        cases n with
        | zero => omega
        | succ n =>
          split at h
          · have := scan_s n k _ _ r (by omega) (by omega) h h3
            omega
          · rename_i h1
            have hs := next_s x (by omega) hp k t' ht h4 h1
            split at h
            · have := scan_s n k _ _ r (by omega) (by omega) h h3
              rw [wt_append] at this
              simp only [wt] at this
              omega
            · cases h
      · rename_i h4
        obtain rfl := Option.some.inj h
        exact absurd h3 h4
theorem is_t (l : List S113) (a : ByteArray) : ∃ b, addr_is.f l a = some b ∧ (b = true → 0 < l.length) := by
  unfold addr_is.f
  split
  · exact ⟨_, rfl, fun _ => by omega⟩
  · exact ⟨_, rfl, fun e => by cases e⟩
theorem wt_drop : ∀ (l : List S113), 0 < l.length → wt (l.drop 1) + (rd_T113 l 0).f1.size + 1 = wt l
  | [], h => by simp at h
  | s :: l, _ => by
    have : rd_T113 (s :: l) 0 = s := rfl
    rw [this]
    simp only [List.drop_succ_cons, List.drop_zero, wt]
    omega
theorem joined_t (x1 : Bool) : ∀ (n k : Nat) (l : List S113) (acc : ByteArray), wt l ≤ n → 2 * n + 4 < k → acc.size + wt l < 1000000000 →
    ∃ r, addr_joined.l0 k l x1 acc = some r ∧ r.1.size + wt r.2.1 ≤ acc.size + wt l
  | n, k, l, acc, hn, hk, ha => by
    obtain ⟨k, rfl⟩ : ∃ j, k = j + 2 := ⟨k - 2, by omega⟩
    unfold addr_joined.l0
    have out : ∃ r, addr_joined.j1 (k + 1) l x1 acc true = some r ∧ r.1.size + wt r.2.1 ≤ acc.size + wt l := by
      unfold addr_joined.j1
      rw [if_pos rfl]
      exact ⟨_, rfl, by show 0 + 0 ≤ _; omega⟩
    split
    · exact out
    · rename_i hl0
      have hp : 0 < l.length := by omega
      have hw := wt_drop l hp
      have j1 : ∀ b, ∃ r, addr_joined.j1 (k + 1) l x1 acc b = some r ∧ r.1.size + wt r.2.1 ≤ acc.size + wt l := by
        intro b
        cases b with
        | true => exact out
        | false =>
          unfold addr_joined.j1
          rw [if_neg (by decide), if_pos (by omega), if_pos (by omega), if_pos (by omega)]
          dsimp only [Option.bind_some]
          obtain ⟨b, hb, hb2⟩ := is_t (l.drop 1) (⟨#[46]⟩ : ByteArray)
          rw [hb]
          dsimp only [Option.bind_some]
          split
          · rename_i h
            have hp2 := hb2 h
            have hw2 := wt_drop (l.drop 1) hp2
            rw [if_pos (by omega), if_pos (by omega)]
            cases n with
            | zero => omega
            | succ n =>
              have hs : (acc ++ (rd_T113 l 0).f1 ++ (⟨#[46]⟩ : ByteArray)).size = acc.size + (rd_T113 l 0).f1.size + 1 := by
                rw [ByteArray.size_append, ByteArray.size_append]; rfl
              obtain ⟨r, hr, hr2⟩ := joined_t x1 n k ((l.drop 1).drop 1) (acc ++ (rd_T113 l 0).f1 ++ (⟨#[46]⟩ : ByteArray)) (by omega) (by omega) (by rw [hs]; omega)
              rw [hs] at hr2
              exact ⟨r, hr, by omega⟩
          · refine ⟨_, rfl, ?_⟩
            dsimp only
            rw [ByteArray.size_append]
            omega
      rw [if_pos (by omega)]
      split
      · exact out
      · split
        · exact j1 _
        · exact j1 _
theorem isAtom_l (x : ByteArray) (hx : x.size < 1000000000) : ∀ (n k i : Nat), i + n = x.size → n < k → ∃ b, lex_IsAtom.l0 k x (x.size : Int) (i : Int) = some b
  | 0, k, i, hn, hk => by
    obtain ⟨k, rfl⟩ : ∃ j, k = j + 1 := ⟨k - 1, by omega⟩
    unfold lex_IsAtom.l0
    rw [if_neg (by omega)]
    exact ⟨_, rfl⟩
  | n + 1, k, i, hn, hk => by
    obtain ⟨k, rfl⟩ : ∃ j, k = j + 1 := ⟨k - 1, by omega⟩
    unfold lex_IsAtom.l0
    rw [if_pos (by omega), if_pos (by omega), if_pos (by omega)]
    obtain ⟨b, hb⟩ := atomic_t (bt x i)
    rw [hb]
    dsimp only [Option.bind_some]
    split
    · rw [wr1 i (by omega) (by omega)]
      exact isAtom_l x hx n k (i + 1) (by omega) (by omega)
    · exact ⟨_, rfl⟩
theorem allP_t {f : ByteArray → Option Bool} : ∀ l : List ByteArray, (∀ x ∈ l, ∃ b, f x = some b) → ∃ b, allP f l = some b
  | [], _ => ⟨_, rfl⟩
  | x :: l, h => by
    obtain ⟨b, hb⟩ := h x (by simp)
    obtain ⟨c, hc⟩ := allP_t l (fun y hy => h y (by simp [hy]))
    unfold allP
    rw [hb]
    dsimp only [Option.bind_some]
    split
    · exact ⟨c, hc⟩
    · exact ⟨_, rfl⟩
theorem splitC_sub (c : UInt8) : ∀ (l cur : List UInt8) (p : List UInt8), p ∈ splitC c cur l → p.length ≤ cur.length + l.length
  | [], cur, p, h => by
    obtain rfl : p = cur := by simpa [splitC] using h
    simp
  | y :: l, cur, p, h => by
    rw [splitC] at h
    split at h
    · rcases List.mem_cons.1 h with rfl | h
      · omega
      · have := splitC_sub c l [] p h
        simp at this ⊢
        omega
    · have := splitC_sub c l (cur ++ [y]) p h
      simp at this ⊢
      omega
theorem parts_sub (c : UInt8) (s p : ByteArray) (h : p ∈ parts c s) : p.size ≤ s.size := by
  unfold parts at h
  obtain ⟨l, hl, rfl⟩ := List.mem_map.1 h
  have := splitC_sub c s.data.toList [] l hl
  rw [size_list]
  simp only [List.length_nil, Nat.zero_add] at this
  exact this
theorem dotted_t (x : ByteArray) (hx : x.size < 1000000000) (k : Nat) (hk : x.size < k) : ∃ b, addr_Dotted.f k x = some b := by
  unfold addr_Dotted.f
  rw [if_pos (by omega)]
  refine allP_t _ fun p hp => ?_
  have := parts_sub 46 x p hp
  exact isAtom_l p (by omega) p.size k 0 (by omega) (by omega)
theorem quote_l (x : ByteArray) (hx : x.size < 1000000000) : ∀ (n k i : Nat) (acc : List Int), i + n = x.size → 2 * n + 2 < k → acc.length ≤ 2 * i + 1 → ∃ r, lex_Quote.l0 k x acc (x.size : Int) (i : Int) = some r ∧ r.size ≤ 2 * x.size + 2
  | 0, k, i, acc, hn, hk, ha => by
    obtain ⟨k, rfl⟩ : ∃ j, k = j + 1 := ⟨k - 1, by omega⟩
    unfold lex_Quote.l0
    rw [if_neg (by omega), if_pos (by omega)]
    refine ⟨_, rfl, ?_⟩
    rw [strOfNums_size]
    simp
    omega
  | n + 1, k, i, acc, hn, hk, ha => by
    obtain ⟨k, rfl⟩ : ∃ j, k = j + 2 := ⟨k - 2, by omega⟩
    unfold lex_Quote.l0
    rw [if_pos (by omega), if_pos (by omega), if_pos (by omega)]
    have j1 : ∀ b, ∃ r, lex_Quote.j1 (k + 1) x acc (bt x i) (x.size : Int) (i : Int) b = some r ∧ r.size ≤ 2 * x.size + 2 := by
      intro b
      unfold lex_Quote.j1
      rw [wr1 i (by omega) (by omega)]
      split
      · rw [if_pos (by omega)]
        dsimp only [Option.bind_some]
        rw [if_pos (by simp; omega)]
        exact quote_l x hx n k (i + 1) _ (by omega) (by omega) (by simp; omega)
      · obtain ⟨t, ht⟩ := text_t (bt x i)
        rw [ht]
        dsimp only [Option.bind_some]
        split
        · rw [if_pos (by omega)]
          exact quote_l x hx n k (i + 1) _ (by omega) (by omega) (by simp; omega)
        · rw [if_pos (by omega)]
          exact quote_l x hx n k (i + 1) _ (by omega) (by omega) (by simp; omega)
    split
    · exact j1 _
    · exact j1 _
theorem addrText_t (x y : ByteArray) (hx : x.size < 100000000) (hy : y.size < 100000000) (k : Nat) (hk : 2 * x.size + 10 < k) : ∃ r, addr_Addr_Text.f k x y = some r ∧ r.size < 1000000000 := by
  unfold addr_Addr_Text.f
  obtain ⟨b, hb⟩ := dotted_t x (by omega) k (by omega)
  rw [hb]
  dsimp only [Option.bind_some]
  have e : ∀ z : ByteArray, (z ++ (⟨#[64]⟩ : ByteArray) ++ y).size = z.size + 1 + y.size := fun z => by
    rw [ByteArray.size_append, ByteArray.size_append]; rfl
  split
  · rw [if_pos (by omega), if_pos (by omega)]
    exact ⟨_, rfl, by rw [e]; omega⟩
  · obtain ⟨q, hq, hq2⟩ := quote_l x (by omega) x.size k 0 [34] (by omega) (by omega) (by simp)
    unfold lex_Quote.f
    rw [show ((0 : Nat) : Int) = 0 from rfl] at hq
    rw [hq]
    dsimp only [Option.bind_some]
    rw [if_pos (by omega), if_pos (by omega)]
    exact ⟨_, rfl, by rw [e]; omega⟩
theorem labelled_t (a : Int) : ∃ b, addr_labelled.f a = some b := by
  unfold addr_labelled.f
  repeat' split
  all_goals exact ⟨_, rfl⟩
theorem label_l (x : ByteArray) (hx : x.size < 1000000000) : ∀ (n k i : Nat), i + n = x.size → n < k → ∃ b, addr_label.l0 k x (x.size : Int) (i : Int) = some b
  | 0, k, i, hn, hk => by
    obtain ⟨k, rfl⟩ : ∃ j, k = j + 1 := ⟨k - 1, by omega⟩
    unfold addr_label.l0
    rw [if_neg (by omega)]
    split
    · exact ⟨_, rfl⟩
    · rename_i h
      have := bytes_ne h
      rw [wr2 _ (by omega) (by omega), if_pos (by omega)]
      split
      · exact ⟨_, rfl⟩
      · rw [if_pos (by omega), if_pos (by omega)]
        exact ⟨_, rfl⟩
  | n + 1, k, i, hn, hk => by
    obtain ⟨k, rfl⟩ : ∃ j, k = j + 1 := ⟨k - 1, by omega⟩
    unfold addr_label.l0
    rw [if_pos (by omega), if_pos (by omega), if_pos (by omega)]
    obtain ⟨b, hb⟩ := labelled_t (bt x i)
    rw [hb]
    dsimp only [Option.bind_some]
    split
    · rw [wr1 i (by omega) (by omega)]
      exact label_l x hx n k (i + 1) (by omega) (by omega)
    · exact ⟨_, rfl⟩
theorem domain_g {f : ByteArray → Option Bool} : ∀ (l : List ByteArray) (lg : Bool), (∀ x ∈ l, ∃ b, f x = some b) → ∃ b, addr_domain.g f lg l = some b
  | [], lg, _ => ⟨_, rfl⟩
  | x :: l, lg, h => by
    obtain ⟨b, hb⟩ := h x (by simp)
    unfold addr_domain.g
    rw [hb]
    dsimp only [Option.bind_some]
    split
    · exact domain_g l _ (fun y hy => h y (by simp [hy]))
    · exact ⟨_, rfl⟩
theorem domain_t (x : ByteArray) (hx : x.size < 1000000000) (k : Nat) (hk : x.size < k) : ∃ b, addr_domain.f k x = some b := by
  unfold addr_domain.f
  rw [if_pos (by omega)]
  refine domain_g _ _ fun p hp => ?_
  have := parts_sub 46 x p hp
  exact label_l p (by omega) p.size k 0 (by omega) (by omega)
theorem why_t (x y : ByteArray) (hx : x.size < 100000000) (hy : y.size < 100000000) (k : Nat) (hk : 2 * x.size + y.size + 20 < k) : ∃ r, addr_why.f k x y = some r := by
  unfold addr_why.f
  obtain ⟨b, hb⟩ := domain_t y (by omega) k (by omega)
  rw [hb]
  dsimp only [Option.bind_some]
  have j0 : ∀ c, ∃ r, addr_why.j0 k b c x y = some r := by
    intro c
    obtain ⟨k, rfl⟩ : ∃ j, k = j + 1 := ⟨k - 1, by omega⟩
    rw [addr_why.j0]
    split
    · exact ⟨_, rfl⟩
    split
    · split
      · exact ⟨_, rfl⟩
      · obtain ⟨t, ht, _⟩ := addrText_t x y hx hy k (by omega)
        rw [ht]
        dsimp only [Option.bind_some]
        split <;> exact ⟨_, rfl⟩
    · exact ⟨_, rfl⟩
  split
  · exact j0 _
  split
  · exact j0 _
  · have : glyph_Plain.f x = some (glyph_Plain.g x) := by unfold glyph_Plain.f; rw [if_pos (by omega)]
    rw [this]
    exact j0 _
theorem fold_size (x : ByteArray) : (glyph_Fold.g x).size = x.size := by
  unfold glyph_Fold.g
  rw [size_list, List.length_map]
  rfl
theorem gfold (x : ByteArray) (hx : x.size < 1000000000) : glyph_Fold.f x = some (glyph_Fold.g x) := by
  unfold glyph_Fold.f
  rw [if_pos (by omega)]
theorem of_t (l : List S113) (hl : wt l < 10000000) (k : Nat) (hk : 5 * wt l + 100 < k) : ∃ r, addr_Of.f k l = some r ∧ r.1.size ≤ wt l ∧ r.2.1.size ≤ wt l := by
  unfold addr_Of.f addr_joined.f
  obtain ⟨a, ha, ha2⟩ := joined_t false (wt l) k l (⟨#[]⟩ : ByteArray) (Nat.le_refl _) (by omega) (by show 0 + wt l < _; omega)
  rw [show (⟨#[]⟩ : ByteArray).size = 0 from rfl] at ha2
  rw [ha]
  dsimp only [Option.bind_some]
  obtain ⟨k, rfl⟩ : ∃ j, k = j + 2 := ⟨k - 2, by omega⟩
  have e0 : (⟨#[]⟩ : ByteArray).size = 0 := rfl
  have j0 : ∀ c, (c = false → 0 < a.2.1.length) → ∃ r, addr_Of.j0 (k + 2) a.2.1 a.1 c = some r ∧ r.1.size ≤ wt l ∧ r.2.1.size ≤ wt l := by
    intro c hc
    rw [addr_Of.j0]
    split
    · exact ⟨_, rfl, by dsimp only; omega, by dsimp only; omega⟩
    · rename_i hcf
      have hp := hc (by simpa using hcf)
      have hw := wt_drop a.2.1 hp
      rw [if_pos (by omega)]
      unfold addr_joined.f
      obtain ⟨d, hd, hd2⟩ := joined_t true (wt (a.2.1.drop 1)) (k + 1) (a.2.1.drop 1) (⟨#[]⟩ : ByteArray) (Nat.le_refl _) (by omega) (by rw [e0]; omega)
      rw [e0] at hd2
      rw [hd]
      dsimp only [Option.bind_some]
      have j1 : ∀ c, ∃ r, addr_Of.j1 (k + 1) a.1 d.1 c = some r ∧ r.1.size ≤ wt l ∧ r.2.1.size ≤ wt l := by
        intro c
        rw [addr_Of.j1]
        split
        · exact ⟨_, rfl, by dsimp only; omega, by dsimp only; omega⟩
        · rw [gfold d.1 (by omega)]
          dsimp only [Option.bind_some]
          have hg := fold_size d.1
          obtain ⟨y, hy⟩ := why_t a.1 (glyph_Fold.g d.1) (by omega) (by omega) k (by omega)
          rw [hy]
          dsimp only [Option.bind_some]
          split
          · exact ⟨_, rfl, by dsimp only; omega, by dsimp only; omega⟩
          · exact ⟨_, rfl, by dsimp only; omega, by dsimp only; omega⟩
      split
      · exact j1 _
      · exact j1 _
  split
  · obtain ⟨b, hb, hb2⟩ := is_t a.2.1 (⟨#[64]⟩ : ByteArray)
    rw [hb]
    dsimp only [Option.bind_some]
    exact j0 _ (fun e => hb2 (by simpa using e))
  · exact j0 _ (fun e => by cases e)
theorem parse_t (x : ByteArray) (hx : x.size < 100000) (k : Nat) (hk : 20 * x.size + 200 < k) : ∃ r, addr_Parse.f k x = some r ∧ r.1.size ≤ 2 * x.size ∧ r.2.1.size ≤ 2 * x.size := by
  unfold addr_Parse.f lex_Scan.f
  obtain ⟨r, hr⟩ := scan_t x.size k x [] (Nat.le_refl _) (by omega) (by omega) (by simp; omega)
  rw [hr]
  dsimp only [Option.bind_some]
  have e0 : (⟨#[]⟩ : ByteArray).size = 0 := rfl
  split
  · rename_i h
    have hs := scan_s x.size k x [] r (Nat.le_refl _) (by omega) hr h
    rw [show wt [] = 0 from rfl] at hs
    obtain ⟨o, ho, ho2, ho3⟩ := of_t r.1 (by omega) k (by omega)
    rw [ho]
    exact ⟨_, rfl, by dsimp only; omega, by dsimp only; omega⟩
  · exact ⟨_, rfl, by dsimp only; omega, by dsimp only; omega⟩
theorem strict_t (x : ByteArray) (hx : x.size < 100000) (k : Nat) (hk : 20 * x.size + 200 < k) : ∃ r, addr_Strict.f k x = some r := by
  unfold addr_Strict.f
  obtain ⟨r, hr, h1, h2⟩ := parse_t x hx k hk
  rw [hr]
  dsimp only [Option.bind_some]
  split
  · rw [gfold x (by omega)]
    dsimp only [Option.bind_some]
    unfold addr_Addr_Key.f
    obtain ⟨t, ht, ht2⟩ := addrText_t r.1 r.2.1 (by omega) (by omega) k (by omega)
    rw [ht]
    dsimp only [Option.bind_some]
    rw [gfold t ht2]
    dsimp only [Option.bind_some]
    split <;> exact ⟨_, rfl⟩
  · exact ⟨_, rfl⟩
theorem word_l (x : ByteArray) (hx : x.size < 1000000000) : ∀ (n k i : Nat), i + n = x.size → n < k → ∃ b, script_word.l0 k x (x.size : Int) (i : Int) = some b
  | 0, k, i, hn, hk => by
    obtain ⟨k, rfl⟩ : ∃ j, k = j + 1 := ⟨k - 1, by omega⟩
    unfold script_word.l0
    rw [if_neg (by omega)]
    exact ⟨_, rfl⟩
  | n + 1, k, i, hn, hk => by
    obtain ⟨k, rfl⟩ : ∃ j, k = j + 1 := ⟨k - 1, by omega⟩
    unfold script_word.l0
    rw [if_pos (by omega), if_pos (by omega), if_pos (by omega)]
    split
    · exact ⟨_, rfl⟩
    split
    · exact ⟨_, rfl⟩
    · rw [wr1 i (by omega) (by omega)]
      exact word_l x hx n k (i + 1) (by omega) (by omega)
theorem word_t (x : ByteArray) (hx : x.size < 1000000000) (k : Nat) (hk : x.size < k) : ∃ b, script_word.f k x = some b := word_l x hx x.size k 0 (by omega) (by omega)
theorem address_t (x : ByteArray) (hx : x.size < 100000) (k : Nat) (hk : 20 * x.size + 200 < k) : ∃ b, script_address.f k x = some b := by
  unfold script_address.f
  obtain ⟨r, hr⟩ := strict_t x hx k hk
  rw [hr]
  dsimp only [Option.bind_some]
  obtain ⟨b, hb⟩ := word_t x (by omega) k (by omega)
  rw [hb]
  dsimp only [Option.bind_some]
  split <;> exact ⟨_, rfl⟩
theorem all_t (x : ByteArray) (hx : x.size < 100000) (k : Nat) (hk : 20 * x.size + 200 < k) : ∃ b, script_all.f k x = some b := by
  unfold script_all.f
  rw [if_pos (by omega)]
  refine allP_t _ fun p hp => ?_
  have := parts_sub 44 x p hp
  exact address_t p (by omega) k (by omega)
end Go.Proofs.YtcgfaagadejpmaaDoor.Q
