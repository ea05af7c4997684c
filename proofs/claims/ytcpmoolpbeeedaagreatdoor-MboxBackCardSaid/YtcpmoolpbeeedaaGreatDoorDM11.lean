/- The program's Read, as a function of the text's words. -/
import Derived.Test.YtcpmoolpbeeedaaGreatDoorDM8
import Derived.Test.YtcpmoolpbeeedaaGreatDoorDM10
namespace Go.Proofs.YtcpmoolpbeeedaaGreatDoor.Q
open Go.RowKit Go.Proofs.YtcpmoolpbeeedaaGreatDoorW.PrintWords
set_option linter.unusedVariables false
set_option linter.unusedSimpArgs false

theorem worth_lt : ∀ (l : List UInt8) (v a : Nat), v < 10 ^ a → l.all dig = true → worth v l < 10 ^ (a + l.length)
  | [], v, a, h, _ => by rw [worth_nil]; simpa using h
  | c :: l, v, a, h, hd => by
    have hd' : dig c = true ∧ l.all dig = true := by simpa using hd
    have hc : 48 ≤ c.toNat ∧ c.toNat ≤ 57 := by simpa [dig] using hd'.1
    rw [worth_cons, show a + (c :: l).length = (a + 1) + l.length by simp; omega]
    exact worth_lt l _ (a + 1) (by rw [Nat.pow_succ]; omega) hd'.2
theorem DV_range (l : List UInt8) (least most : Int) (hm : most ≤ 5) : -1 ≤ DV l least most ∧ DV l least most < 100000 := by
  unfold DV
  split
  · rename_i h
    have := worth_lt l 0 0 (by decide) h.2.2
    rw [Nat.zero_add] at this
    have hp : 10 ^ l.length ≤ 10 ^ 5 := Nat.pow_le_pow_right (by omega) (by omega)
    have hp' : (10 : Nat) ^ 5 = 100000 := rfl
    omega
  · omega
theorem DV_two (l : List UInt8) : -1 ≤ DV l 2 2 ∧ DV l 2 2 < 100 := by
  unfold DV
  split
  · rename_i h
    have := worth_lt l 0 0 (by decide) h.2.2
    rw [Nat.zero_add] at this
    have hp : 10 ^ l.length ≤ 10 ^ 2 := Nat.pow_le_pow_right (by omega) (by omega)
    have hp' : (10 : Nat) ^ 2 = 100 := rfl
    omega
  · omega

/-! ### The zone -/
def ZNames (z : List UInt8) : Bool := z.map glyph_Fold.low == [103, 109, 116] || z.map glyph_Fold.low == [117, 116] || z.map glyph_Fold.low == [117, 116, 99] || z.map glyph_Fold.low == [122]
def ZN (z : List UInt8) : Int × Bool :=
  if ZNames z = true then (0, true) else
  match z with
  | [s, a, b, c, d] => if (s = 43 ∨ s = 45) ∧ 0 ≤ DV [a, b] 2 2 ∧ 0 ≤ DV [c, d] 2 2 ∧ DV [c, d] 2 2 ≤ 59 then (if s = 45 then -(DV [a, b] 2 2 * 3600 + DV [c, d] 2 2 * 60) else DV [a, b] 2 2 * 3600 + DV [c, d] 2 2 * 60, true) else (0, false)
  | _ => (0, false)
theorem of_bb2 (s : ByteArray) : s = bb s.data.toList := by simp [bb]
theorem bb_cut (l : List UInt8) (a b : Nat) : (bb l).extract a b = bb ((l.drop a).take (b - a)) := by
  have := Lib.extract_data (bb l) a b
  rw [bb_list] at this
  rw [of_bb2 ((bb l).extract a b), this]
theorem bt_first (c : UInt8) (l : List UInt8) : bt (bb (c :: l)) 0 = (c.toNat : Int) := bt_bb [] c l
theorem zone_j0 (k : Nat) (hk : 10 ≤ k) (s a b c d : UInt8) (hs : s = 43 ∨ s = 45) : date_zone.j0 k (bb [s, a, b, c, d]) false = some (if 0 ≤ DV [a, b] 2 2 ∧ 0 ≤ DV [c, d] 2 2 ∧ DV [c, d] 2 2 ≤ 59 then (if s = 45 then -(DV [a, b] 2 2 * 3600 + DV [c, d] 2 2 * 60) else DV [a, b] 2 2 * 3600 + DV [c, d] 2 2 * 60, true) else (0, false)) := by
  obtain ⟨k, rfl⟩ : ∃ k', k = k' + 2 := ⟨k - 2, by omega⟩
  have e0 : ((bb [s, a, b, c, d]).size : Int) = 5 := by rw [bb_size]; rfl
  have e0' : (bb [s, a, b, c, d]).size = 5 := by rw [bb_size]; rfl
  have r1 := DV_two [a, b]
  have r2 := DV_two [c, d]
  have j1t : date_zone.j1 (k + 1) (bb [s, a, b, c, d]) (DV [a, b] 2 2) (DV [c, d] 2 2) true = some (0, false) := by rw [date_zone.j1, if_pos rfl]
  rw [date_zone.j0, if_neg (by decide), if_pos (by decide), e0, if_pos (by decide), e0', bb_cut, bb_cut]
  simp only [List.drop_succ_cons, List.drop_zero, List.take_succ_cons, List.take_zero, show 3 - 1 = 2 from rfl, show 5 - 3 = 2 from rfl]
  rw [number_DV [a, b] 2 2 (k + 1) (by simp; omega) (by omega) (by omega) (by simp), number_DV [c, d] 2 2 (k + 1) (by simp; omega) (by omega) (by omega) (by simp)]
  simp only [Option.bind_some]
  by_cases h1 : DV [a, b] 2 2 < 0
  · rw [if_pos h1, if_neg (by omega), j1t]
  rw [if_neg h1, within_is]
  simp only [Option.bind_some]
  by_cases h2 : 0 ≤ DV [c, d] 2 2 ∧ DV [c, d] 2 2 ≤ 59
  · rw [if_pos ⟨by omega, h2.1, h2.2⟩, show (!decide (0 ≤ DV [c, d] 2 2 ∧ DV [c, d] 2 2 ≤ 59)) = false by simp [h2], date_zone.j1, if_neg (by decide), e0, if_pos (by decide), bt_first, w64 (n := DV [a, b] 2 2 * 3600) (by omega) (by omega), w64 (n := DV [c, d] 2 2 * 60) (by omega) (by omega), w64 (n := DV [a, b] 2 2 * 3600 + DV [c, d] 2 2 * 60) (by omega) (by omega), w64 (n := -(DV [a, b] 2 2 * 3600 + DV [c, d] 2 2 * 60)) (by omega) (by omega)]
    rcases hs with rfl | rfl
    · rw [if_neg (by decide), if_neg (by decide)]
    · rw [if_pos (by decide), if_pos rfl]
  · rw [if_neg (by omega), show (!decide (0 ≤ DV [c, d] 2 2 ∧ DV [c, d] 2 2 ≤ 59)) = true by simp; omega, j1t]
theorem zone_j0t (k : Nat) (hk : 10 ≤ k) (x : ByteArray) : date_zone.j0 k x true = some (0, false) := by
  obtain ⟨k, rfl⟩ : ∃ k', k = k' + 1 := ⟨k - 1, by omega⟩
  rw [date_zone.j0, if_pos rfl]
theorem ZN_name (z : List UInt8) (h : ZNames z = true) : ZN z = (0, true) := by unfold ZN; rw [if_pos h]
theorem ZN_five (s a b c d : UInt8) (h : ¬ ZNames [s, a, b, c, d] = true) : ZN [s, a, b, c, d] = if (s = 43 ∨ s = 45) ∧ 0 ≤ DV [a, b] 2 2 ∧ 0 ≤ DV [c, d] 2 2 ∧ DV [c, d] 2 2 ≤ 59 then (if s = 45 then -(DV [a, b] 2 2 * 3600 + DV [c, d] 2 2 * 60) else DV [a, b] 2 2 * 3600 + DV [c, d] 2 2 * 60, true) else (0, false) := by unfold ZN; rw [if_neg h]
theorem ZN_other (z : List UInt8) (h : ¬ ZNames z = true) (hl : z.length ≠ 5) : ZN z = (0, false) := by
  unfold ZN
  rw [if_neg h]
  match z with
  | [s, a, b, c, d] => simp at hl
  | [] => rfl
  | [_] => rfl
  | [_, _] => rfl
  | [_, _, _] => rfl
  | [_, _, _, _] => rfl
  | _ :: _ :: _ :: _ :: _ :: _ :: _ => rfl
theorem zone_is (k : Nat) (hk : 10 ≤ k) (z : List UInt8) (hz : z.length ≤ 1000000) : date_zone.f k (bb z) = some (ZN z) := by
  unfold date_zone.f
  rw [glyph_Fold.f, if_pos (by rw [bb_size]; omega), fold_g]
  simp only [Option.bind_some, bb_toList]
  by_cases h1 : z.map glyph_Fold.low = [103, 109, 116]
  · rw [if_pos h1, ZN_name z (by simp [ZNames, h1])]
  rw [if_neg h1]
  by_cases h2 : z.map glyph_Fold.low = [117, 116]
  · rw [if_pos h2, ZN_name z (by simp [ZNames, h2])]
  rw [if_neg h2]
  by_cases h3 : z.map glyph_Fold.low = [117, 116, 99]
  · rw [if_pos h3, ZN_name z (by simp [ZNames, h3])]
  rw [if_neg h3]
  by_cases h4 : z.map glyph_Fold.low = [122]
  · rw [if_pos h4, ZN_name z (by simp [ZNames, h4])]
  have hN : ¬ ZNames z = true := by simp [ZNames, h1, h2, h3, h4]
  rw [if_neg h4]
  clear h1 h2 h3 h4
  by_cases hl : z.length = 5
  · match z, hl with
    | [s, a, b, c, d], _ =>
      have e0 : ((bb [s, a, b, c, d]).size : Int) = 5 := by rw [bb_size]; rfl
      rw [e0, if_pos rfl, if_pos (by decide), bt_first, ZN_five s a b c d hN]
      by_cases p : s = 43
      · subst p
        rw [if_pos (by decide), zone_j0 k hk _ _ _ _ _ (.inl rfl)]
        congr 1
        by_cases q : 0 ≤ DV [a, b] 2 2 ∧ 0 ≤ DV [c, d] 2 2 ∧ DV [c, d] 2 2 ≤ 59
        · rw [if_pos q]; exact (if_pos ⟨.inl rfl, q⟩).symm
        · rw [if_neg q]; exact (if_neg (fun x => q x.2)).symm
      · have pn : ¬ (s.toNat : Int) = 43 := fun e => p (UInt8.toNat_inj.1 (by simp; omega))
        rw [if_neg pn]
        by_cases m : s = 45
        · subst m
          rw [show (((45 : UInt8).toNat : Int) != 45) = false by decide, zone_j0 k hk _ _ _ _ _ (.inr rfl)]
          congr 1
          by_cases q : 0 ≤ DV [a, b] 2 2 ∧ 0 ≤ DV [c, d] 2 2 ∧ DV [c, d] 2 2 ≤ 59
          · rw [if_pos q]; exact (if_pos ⟨.inr rfl, q⟩).symm
          · rw [if_neg q]; exact (if_neg (fun x => q x.2)).symm
        · have mn : ((s.toNat : Int) != 45) = true := by
            simp only [bne_iff_ne]
            exact fun e => m (UInt8.toNat_inj.1 (by simp; omega))
          rw [mn, zone_j0t k hk, if_neg]
          rintro ⟨h | h, _⟩
          · exact p h
          · exact m h
  · rw [if_neg (by rw [bb_size]; omega), zone_j0t k hk, ZN_other z hN hl]
theorem ZN_range (z : List UInt8) : -400000 ≤ (ZN z).1 ∧ (ZN z).1 ≤ 400000 := by
  unfold ZN
  split
  · decide
  · split
    · rename_i s a b c d h
      have r1 := DV_two [a, b]
      have r2 := DV_two [c, d]
      split
      · split <;> simp only <;> omega
      · decide
    · decide

/-! ### Hours, minutes, seconds -/
theorem splitC_short (c : UInt8) : ∀ (l cur : List UInt8), ∀ x ∈ splitC c cur l, x.length ≤ cur.length + l.length
  | [], cur, x, hx => by
    obtain rfl : x = cur := by simpa [splitC] using hx
    simp
  | y :: l, cur, x, hx => by
    rw [splitC] at hx
    by_cases h : y = c
    · rw [if_pos h] at hx
      rcases List.mem_cons.1 hx with rfl | hx
      · omega
      · have := splitC_short c l [] x hx
        simp at this ⊢; omega
    · rw [if_neg h] at hx
      have := splitC_short c l (cur ++ [y]) x hx
      simp at this ⊢; omega
def hrs (w : List UInt8) : List (List UInt8) := if (splitC 58 [] w).length = 2 then splitC 58 [] w ++ [[48, 48]] else splitC 58 [] w
theorem hrs_short (w : List UInt8) : ∀ x ∈ hrs w, x.length ≤ w.length + 2 := by
  intro x hx
  unfold hrs at hx
  split at hx
  · rcases List.mem_append.1 hx with hx | hx
    · have := splitC_short 58 w [] x hx; simp at this; omega
    · obtain rfl : x = [48, 48] := by simpa using hx
      simp
  · have := splitC_short 58 w [] x hx; simp at this; omega
def HR (p : List (List UInt8)) (y m d : Int) : Bool × Int × Int × Int × Int × Int × Int × Int :=
  match p with
  | [a, b, c] => (decide (0 ≤ DV a 2 2 ∧ 0 ≤ DV b 2 2 ∧ 0 ≤ DV c 2 2), y, m, d, DV a 2 2, DV b 2 2, DV c 2 2, 0)
  | _ => (false, y, m, d, 0, 0, 0, 0)
theorem HR_other (p : List (List UInt8)) (y m d : Int) (h : p.length ≠ 3) : HR p y m d = (false, y, m, d, 0, 0, 0, 0) := by
  unfold HR
  split
  · rename_i a b c; simp at h
  · rfl
theorem hours_j0 (k : Nat) (p : List (List UInt8)) (y m d : Int) (hp : ∀ x ∈ p, x.length < k ∧ x.length ≤ 1000000) : date_Time_hours.j0 (k + 1) (p.map bb) y m d 0 0 0 0 = some (HR p y m d) := by
  rw [date_Time_hours.j0, List.length_map]
  by_cases h3 : p.length = 3
  · match p, h3, hp with
    | [a, b, c], _, hp =>
      have ha := hp a (by simp)
      have hb := hp b (by simp)
      have hc := hp c (by simp)
      rw [if_pos (by simp), if_pos (by simp), show rdOf ByteArray.empty ([a, b, c].map bb) 0 = bb a from rfl, show rdOf ByteArray.empty ([a, b, c].map bb) 1 = bb b from rfl, show rdOf ByteArray.empty ([a, b, c].map bb) 2 = bb c from rfl,
        number_DV a 2 2 k ha.1 (by omega) (by omega) ha.2]
      simp only [Option.bind_some]
      rw [if_pos (by simp), number_DV b 2 2 k hb.1 (by omega) (by omega) hb.2]
      simp only [Option.bind_some]
      rw [if_pos (by simp), number_DV c 2 2 k hc.1 (by omega) (by omega) hc.2]
      simp only [Option.bind_some, HR]
      by_cases h1 : DV a 2 2 ≥ 0
      · rw [if_pos h1]
        by_cases h2 : DV b 2 2 ≥ 0
        · rw [if_pos h2]; simp [h1, h2, show 0 ≤ DV a 2 2 from h1, show 0 ≤ DV b 2 2 from h2]
        · rw [if_neg h2]; simp [show ¬ 0 ≤ DV b 2 2 from h2]
      · rw [if_neg h1]; simp [show ¬ 0 ≤ DV a 2 2 from h1]
  · rw [if_neg (by omega), HR_other p y m d h3]
theorem split_bb (w : List UInt8) (h : w.length ≤ 1000000) : strings_Split.f (bb w) (⟨#[58]⟩ : ByteArray) = some ((splitC 58 [] w).map bb) := by
  unfold strings_Split.f
  rw [if_pos (by rw [bb_size]; omega), if_pos (by decide), splitB_is, bb_list]
theorem splitC_count (c : UInt8) : ∀ (l cur : List UInt8), (splitC c cur l).length ≤ l.length + 1
  | [], cur => by simp [splitC]
  | y :: l, cur => by
    rw [splitC]
    split
    · have := splitC_count c l []; simp; omega
    · have := splitC_count c l (cur ++ [y]); simp; omega
theorem hours_is (k : Nat) (w : List UInt8) (y m d : Int) (hk : w.length + 4 < k) (hw : w.length ≤ 100000) : date_Time_hours.f k y m d 0 0 0 0 (bb w) = some (HR (hrs w) y m d) := by
  obtain ⟨k, rfl⟩ : ∃ k', k = k' + 1 := ⟨k - 1, by omega⟩
  have hp : ∀ x ∈ hrs w, x.length < k ∧ x.length ≤ 1000000 := fun x hx => by have := hrs_short w x hx; omega
  have hc := splitC_count 58 w []
  unfold date_Time_hours.f
  rw [split_bb w (by omega)]
  simp only [Option.bind_some, List.length_map]
  unfold hrs at hp ⊢
  by_cases h2 : (splitC 58 [] w).length = 2
  · rw [if_pos h2] at hp ⊢
    rw [if_pos (by omega), if_pos (by omega), show (splitC 58 [] w).map bb ++ [(⟨#[48, 48]⟩ : ByteArray)] = (splitC 58 [] w ++ [[48, 48]]).map bb by simp [bb], hours_j0 k _ y m d hp]
  · rw [if_neg h2] at hp ⊢
    rw [if_neg (by omega), hours_j0 k _ y m d hp]

/-! ### What the five parts behind a day's name tell -/
def MF (w : List UInt8) : Int := date_month.find (bb w) Tab1 1
/-- The moment behind the form. -/
def AT2 (off n : Int) : Int × Int := if 0 ≤ n - off ∧ n - off ≤ 1099511627776 then (n - off, 0) else (0, 1)
def AT (day off : Int) (n : Int × Int) : Int × Int :=
  if n.2 = 0 then (if 0 ≤ day ∧ day ≠ (n.1 / 86400 + 4) % 7 then (0, 3) else AT2 off n.1) else (0, n.2)
def RB (a b c d e : List UInt8) (day : Int) : Int × Int :=
  if (HR (hrs d) 0 0 0).1 = true ∧ (ZN e).2 = true ∧ 0 ≤ DV c 4 5 ∧ 1 ≤ MF b ∧ 0 ≤ DV a 1 2 then
    AT day (ZN e).1 (Num (DV c 4 5) (MF b) (DV a 1 2) (HR (hrs d) 0 0 0).2.2.2.2.1 (HR (hrs d) 0 0 0).2.2.2.2.2.1 (HR (hrs d) 0 0 0).2.2.2.2.2.2.1)
  else (0, 3)
theorem Num_range (y m d h i s : Int) : 0 ≤ (Num y m d h i s).1 ∧ (Num y m d h i s).1 ≤ 1099511627776 := by
  unfold Num
  split
  · rename_i c; exact ⟨c.2.2.1, c.2.2.2⟩
  · simp only; omega
theorem read_j2t (k : Nat) (off n : Int) : date_Read.j2 (k + 1) off n true = some (0, 3) := by rw [date_Read.j2, if_pos rfl]
theorem read_j2 (k : Nat) (off n : Int) (h : -400000 ≤ off ∧ off ≤ 400000) (r : 0 ≤ n ∧ n ≤ 1099511627776) : date_Read.j2 (k + 1) off n false = some (AT2 off n) := by
  rw [date_Read.j2, if_neg (by decide), w64 (n := n - off) (by omega) (by omega), moment_is]
  simp only [Option.bind_some]
  unfold AT2
  by_cases c : 0 ≤ n - off ∧ n - off ≤ 1099511627776
  · rw [if_pos (decide_eq_true c), if_pos c]
  · rw [if_neg (by rw [decide_eq_false c]; decide), if_neg c]
theorem read_j1 (k : Nat) (hk : 10 ≤ k) (day off y m d h i s w : Int) (ho : -400000 ≤ off ∧ off ≤ 400000) : date_Read.j1 k day off false y m d h i s w = some (AT day off (Num y m d h i s)) := by
  obtain ⟨k, rfl⟩ : ∃ k', k = k' + 2 := ⟨k - 2, by omega⟩
  have r := Num_range y m d h i s
  rw [date_Read.j1, if_neg (by decide), number_is (k + 1) (by omega)]
  simp only [Option.bind_some]
  unfold AT
  by_cases hn : (Num y m d h i s).2 = 0
  · rw [if_pos hn, if_pos hn, td _ r.1, w64 (n := (Num y m d h i s).1 / 86400) (by omega) (by omega), w64 (n := (Num y m d h i s).1 / 86400 + 4) (by omega) (by omega), tm _ (by omega)]
    by_cases hd : day ≥ 0
    · rw [if_pos hd]
      by_cases hx : day = ((Num y m d h i s).1 / 86400 + 4) % 7
      · rw [show (day != ((Num y m d h i s).1 / 86400 + 4) % 7) = false by simp [hx], read_j2 k off _ ho r, if_neg (by omega)]
      · rw [show (day != ((Num y m d h i s).1 / 86400 + 4) % 7) = true by simp [hx], read_j2t, if_pos ⟨hd, hx⟩]
    · rw [if_neg hd, read_j2 k off _ ho r, if_neg (by omega)]
  · rw [if_neg hn, if_neg hn]
theorem read_j1t (k : Nat) (hk : 10 ≤ k) (day off y m d h i s w : Int) : date_Read.j1 k day off true y m d h i s w = some (0, 3) := by
  obtain ⟨k, rfl⟩ : ∃ k', k = k' + 1 := ⟨k - 1, by omega⟩
  rw [date_Read.j1, if_pos rfl]
theorem HR_at (p : List (List UInt8)) (y m d : Int) : HR p y m d = ((HR p 0 0 0).1, y, m, d, (HR p 0 0 0).2.2.2.2.1, (HR p 0 0 0).2.2.2.2.2.1, (HR p 0 0 0).2.2.2.2.2.2.1, 0) := by
  unfold HR
  split <;> rfl
theorem read_j0 (k : Nat) (a b c d e : List UInt8) (day : Int) (hk : 400 ≤ k) (ha : a.length ≤ 300) (hb : b.length ≤ 300) (hc : c.length ≤ 300) (hd : d.length ≤ 300) (he : e.length ≤ 300) :
    date_Read.j0 k ([a, b, c, d, e].map bb) day = some (RB a b c d e day) := by
  obtain ⟨k, rfl⟩ : ∃ k', k = k' + 1 := ⟨k - 1, by omega⟩
  have zr := ZN_range e
  rw [date_Read.j0, if_pos (by simp), if_pos (by simp), show rdOf ByteArray.empty ([a, b, c, d, e].map bb) 0 = bb a from rfl, show rdOf ByteArray.empty ([a, b, c, d, e].map bb) 1 = bb b from rfl, show rdOf ByteArray.empty ([a, b, c, d, e].map bb) 2 = bb c from rfl,
    show rdOf ByteArray.empty ([a, b, c, d, e].map bb) 3 = bb d from rfl, show rdOf ByteArray.empty ([a, b, c, d, e].map bb) 4 = bb e from rfl, number_DV c 4 5 k (by omega) (by omega) (by omega) (by omega)]
  simp only [Option.bind_some]
  rw [if_pos (by simp), date_month.f, if_pos (by rw [bb_size]; omega)]
  simp only [Option.bind_some]
  rw [if_pos (by simp), number_DV a 1 2 k (by omega) (by omega) (by omega) (by omega)]
  simp only [Option.bind_some]
  rw [if_pos (by simp), zone_is k (by omega) e (by omega)]
  simp only [Option.bind_some]
  rw [if_pos (by simp), hours_is k d _ _ _ (by omega) (by omega), HR_at]
  simp only [Option.bind_some]
  show _ = some (RB a b c d e day)
  unfold RB MF
  by_cases h1 : (HR (hrs d) 0 0 0).1 = true
  · rw [if_pos h1]
    by_cases h2 : (ZN e).2 = true
    · rw [if_pos h2]
      by_cases h3 : DV c 4 5 < 0
      · rw [if_pos h3, read_j1t k (by omega), if_neg (by omega)]
      · rw [if_neg h3]
        by_cases h4 : date_month.find (bb b) Tab1 1 < 1
        · rw [if_pos h4, read_j1t k (by omega), if_neg (by omega)]
        · rw [if_neg h4]
          by_cases h5 : DV a 1 2 < 0
          · rw [decide_eq_true h5, read_j1t k (by omega), if_neg (by omega)]
          · rw [decide_eq_false h5, read_j1 k (by omega) _ _ _ _ _ _ _ _ _ zr, if_pos ⟨h1, h2, by omega, by omega, by omega⟩]
    · rw [if_neg h2, read_j1t k (by omega), if_neg (fun x => h2 x.2.1)]
  · rw [if_neg h1, read_j1t k (by omega), if_neg (fun x => h1 x.1)]
theorem read_j0n (k : Nat) (hk : 1 ≤ k) (l : List (List UInt8)) (day : Int) (h : l.length ≠ 5) : date_Read.j0 k (l.map bb) day = some (0, 3) := by
  obtain ⟨k, rfl⟩ : ∃ k', k = k' + 1 := ⟨k - 1, by omega⟩
  rw [date_Read.j0, if_neg (by rw [List.length_map]; omega)]
end Go.Proofs.YtcpmoolpbeeedaaGreatDoor.Q
