/- The words of a text, by its bytes alone: what glyph.Words' runes give. -/
import Derived.Test.YtcpmoolpbeeedaaGreatDoorQD
import Derived.Lib.FieldsP
import Derived.Lib.MapLaws
namespace Go.Proofs.YtcpmoolpbeeedaaGreatDoor.Q
open Go.RowKit Go.Proofs.YtcpmoolpbeeedaaGreatDoorW.PrintWords Go.Lib
set_option linter.unusedVariables false
set_option linter.unusedSimpArgs false

/-- Is a byte a blank? -/
def bw (c : UInt8) : Bool := c.toNat == 32 || c.toNat == 9 || c.toNat == 13 || c.toNat == 10
def wordsB : List UInt8 → List UInt8 → List (List UInt8)
  | cur, [] => if cur = [] then [] else [cur]
  | cur, c :: l => if bw c then (if cur = [] then wordsB [] l else cur :: wordsB [] l) else wordsB (cur ++ [c]) l
theorem wordsB_run : ∀ (xs : List UInt8) (cur l : List UInt8), (∀ c ∈ xs, bw c = false) → wordsB cur (xs ++ l) = wordsB (cur ++ xs) l
  | [], cur, l, _ => by simp
  | x :: xs, cur, l, h => by
    rw [List.cons_append, wordsB, h x (by simp)]
    simp only [Bool.false_eq_true, if_false]
    rw [wordsB_run xs _ l (fun c hc => h c (by simp [hc]))]
    simp

theorem get_at (s : ByteArray) (i : Nat) (h : i < s.size) : s.data.toList[i]? = some (s.get! i) := by
  have h' : i < s.data.size := h
  rw [Array.getElem?_toList, Array.getElem?_eq_getElem h']
  simp [ByteArray.get!, getElem!_pos s.data i h']
theorem blank_at (s : ByteArray) (pos : Nat) (hlt : pos < s.size) (hb : glyph_Words.blank (Utf8.decode s pos).1 = true) : (Utf8.decode s pos).2 = 1 ∧ ∃ c, s.data.toList.drop pos = c :: s.data.toList.drop (pos + 1) ∧ bw c = true := by
  have e := decode_at s pos
  rcases decodeN_shape (s.size - pos) (s.get! pos).toNat (s.get! (pos + 1)).toNat (s.get! (pos + 2)).toNat (s.get! (pos + 3)).toNat with ⟨h, hh⟩ | ⟨_, _, _, h, hh⟩ | ⟨_, _, _, _, h, _, hh⟩ | ⟨_, _, _, _, _, h, _, hh⟩ | hh
  · rw [hh] at e
    rw [e] at hb ⊢
    refine ⟨rfl, s.get! pos, ?_, by simpa [glyph_Words.blank, bw] using hb⟩
    have hg := get_at s pos hlt
    have hl : pos < s.data.toList.length := (List.getElem?_eq_some_iff.1 hg).1
    rw [List.drop_eq_getElem_cons hl, (List.getElem?_eq_some_iff.1 hg).2]
  all_goals
    rw [hh] at e
    rw [e] at hb
    simp [glyph_Words.blank] at hb <;> omega
theorem plain_at (s : ByteArray) (pos : Nat) (hlt : pos < s.size) (hb : glyph_Words.blank (Utf8.decode s pos).1 = false) : ∀ c ∈ (s.data.toList.drop pos).take (Utf8.decode s pos).2, bw c = false := by
  have e := decode_at s pos
  have big : ∀ x : UInt8, 128 ≤ x.toNat → bw x = false := by
    intro x hx
    simp only [bw, Bool.or_eq_false_iff, beq_eq_false_iff_ne]
    omega
  have one : ∀ c, c ∈ (s.data.toList.drop pos).take 1 → c = s.get! pos := by
    intro c hc
    have hg := get_at s pos hlt
    have hl : pos < s.data.toList.length := (List.getElem?_eq_some_iff.1 hg).1
    rw [List.drop_eq_getElem_cons hl, (List.getElem?_eq_some_iff.1 hg).2] at hc
    simpa using hc
  have each : ∀ w c, pos + w ≤ s.size → c ∈ (s.data.toList.drop pos).take w → ∃ j, j < w ∧ c = s.get! (pos + j) := by
    intro w c hw hc
    obtain ⟨j, hj⟩ := List.mem_iff_getElem?.1 hc
    rw [List.getElem?_take] at hj
    split at hj
    · rename_i hjw
      rw [List.getElem?_drop, get_at s (pos + j) (by omega)] at hj
      exact ⟨j, hjw, (Option.some.inj hj).symm⟩
    · cases hj
  rcases decodeN_shape (s.size - pos) (s.get! pos).toNat (s.get! (pos + 1)).toNat (s.get! (pos + 2)).toNat (s.get! (pos + 3)).toNat with ⟨h, hh⟩ | ⟨h0, h1, h2, h, hh⟩ | ⟨h0, h1, h2, h3, h, _, hh⟩ | ⟨h0, h1, h2, h3, h4, h, _, hh⟩ | hh
  · rw [hh] at e
    rw [e] at hb ⊢
    intro c hc
    rw [one c hc]
    simpa [glyph_Words.blank, bw] using hb
  · rw [hh] at e
    rw [e]
    intro c hc
    obtain ⟨j, hj, rfl⟩ := each 2 c (by omega) hc
    have : j = 0 ∨ j = 1 := by omega
    rcases this with rfl | rfl <;> exact big _ (by first | omega | (simp only [Nat.add_zero]; omega))
  · rw [hh] at e
    rw [e]
    intro c hc
    obtain ⟨j, hj, rfl⟩ := each 3 c (by omega) hc
    have : j = 0 ∨ j = 1 ∨ j = 2 := by omega
    rcases this with rfl | rfl | rfl <;> exact big _ (by first | omega | (simp only [Nat.add_zero]; omega))
  · rw [hh] at e
    rw [e]
    intro c hc
    obtain ⟨j, hj, rfl⟩ := each 4 c (by omega) hc
    have : j = 0 ∨ j = 1 ∨ j = 2 ∨ j = 3 := by omega
    rcases this with rfl | rfl | rfl | rfl <;> exact big _ (by first | omega | (simp only [Nat.add_zero]; omega))
  · rw [hh] at e
    rw [e]
    intro c hc
    rw [one c hc]
    by_cases h : (s.get! pos).toNat < 128
    · rw [decodeN, if_pos h] at hh
      simp at hh
      omega
    · exact big _ (by omega)

theorem spansB_eq (s : ByteArray) : ∀ (f pos : Nat) (st : Option Nat) (acc : List (Nat × Nat)), s.size ≤ pos + f → pos ≤ s.size → (∀ a, st = some a → a < pos) →
    acc.map (fun p => pieceU s.data.toList p.1 p.2) ++ wordsB (openPiece s.data.toList st pos) (s.data.toList.drop pos) = (closeSpans s (spansFromP glyph_Words.blank s f pos st acc)).map (fun p => pieceU s.data.toList p.1 p.2)
  | 0, pos, st, acc, h, hp, hst => by
    obtain rfl : pos = s.size := by omega
    have hd : s.data.toList.drop s.size = [] := List.drop_eq_nil_of_le (by rw [← size_eq]; exact Nat.le_refl _)
    rw [hd, wordsB]
    cases st with
    | none => simp [spansFromP, closeSpans, openPiece]
    | some a =>
      have := pieceU_ne s.data.toList a s.size (hst a rfl) (by rw [← size_eq]; exact Nat.le_refl _)
      simp [spansFromP, closeSpans, openPiece, this]
  | f + 1, pos, st, acc, h, hp, hst => by
    by_cases hlt : pos < s.size
    · have hw := width_pos s pos
      have hwn : pos + (Utf8.decode s pos).2 ≤ s.size := by
        have := decodeN_le_n' (s.size - pos) (s.get! pos).toNat (s.get! (pos + 1)).toNat (s.get! (pos + 2)).toNat (s.get! (pos + 3)).toNat (by omega)
        rw [← decode_at] at this
        omega
      simp only [spansFromP, if_pos hlt]
      cases hsp : glyph_Words.blank (Utf8.decode s pos).1 with
      | true =>
        obtain ⟨w1, c, hc, hbw⟩ := blank_at s pos hlt hsp
        simp only [if_true, w1, hc, wordsB, hbw]
        cases st with
        | none =>
          have ih := spansB_eq s f (pos + 1) none acc (by omega) (by omega) (fun a h => by cases h)
          simpa [openPiece] using ih
        | some a =>
          have hpn := pieceU_ne s.data.toList a pos (hst a rfl) (by rw [← size_eq]; omega)
          have ih := spansB_eq s f (pos + 1) none (acc ++ [(a, pos)]) (by omega) (by omega) (fun a h => by cases h)
          simpa [openPiece, hpn] using ih
      | false =>
        simp only [Bool.false_eq_true, if_false]
        have hpl := plain_at s pos hlt hsp
        have hsplit : s.data.toList.drop pos = (s.data.toList.drop pos).take (Utf8.decode s pos).2 ++ s.data.toList.drop (pos + (Utf8.decode s pos).2) := by
          rw [← List.drop_drop]; exact (List.take_append_drop _ _).symm
        rw [hsplit, wordsB_run _ _ _ hpl]
        cases st with
        | none =>
          have ih := spansB_eq s f (pos + (Utf8.decode s pos).2) (some pos) acc (by omega) hwn (fun a h => by cases h; omega)
          have e : ([] : List UInt8) ++ (s.data.toList.drop pos).take (Utf8.decode s pos).2 = pieceU s.data.toList pos (pos + (Utf8.decode s pos).2) := by
            unfold pieceU
            rw [List.nil_append, Nat.add_sub_cancel_left]
          simp only [openPiece] at ih ⊢
          rw [e]
          exact ih
        | some a =>
          have ih := spansB_eq s f (pos + (Utf8.decode s pos).2) (some a) acc (by omega) hwn (fun b h => by cases h; have := hst a rfl; omega)
          simp only [openPiece] at ih ⊢
          rw [pieceU_grow _ _ _ _ (Nat.le_of_lt (hst a rfl))]
          exact ih
    · obtain rfl : pos = s.size := by omega
      have hd : s.data.toList.drop s.size = [] := List.drop_eq_nil_of_le (by rw [← size_eq]; exact Nat.le_refl _)
      rw [hd, wordsB, spansFromP_end _ s _ _ _ _ hlt]
      cases st with
      | none => simp [closeSpans, openPiece]
      | some a =>
        have := pieceU_ne s.data.toList a s.size (hst a rfl) (by rw [← size_eq]; exact Nat.le_refl _)
        simp [closeSpans, openPiece, this]
/-- The words of a text are those of its bytes. -/
theorem words_eq (s : ByteArray) : (goFieldsP glyph_Words.blank s).map (·.data.toList) = wordsB [] s.data.toList := by
  have h := spansB_eq s s.size 0 none [] (by omega) (by omega) (fun a h => by cases h)
  simp only [openPiece, List.map_nil, List.nil_append, List.drop_zero] at h
  rw [h]
  unfold goFieldsP spansOfP
  rw [List.map_map]
  apply List.map_congr_left
  intro p _
  simp [pieceU, ByteArray.data_extract, List.extract]
theorem of_lists (l : List ByteArray) (m : List (List UInt8)) (h : l.map (·.data.toList) = m) : l = m.map fun x => ⟨x.toArray⟩ := by
  subst h
  rw [List.map_map]
  conv => lhs; rw [← List.map_id l]
  apply List.map_congr_left
  intro x _
  simp
theorem words_is (s : ByteArray) : goFieldsP glyph_Words.blank s = (wordsB [] s.data.toList).map fun x => ⟨x.toArray⟩ := of_lists _ _ (words_eq s)
end Go.Proofs.YtcpmoolpbeeedaaGreatDoor.Q
