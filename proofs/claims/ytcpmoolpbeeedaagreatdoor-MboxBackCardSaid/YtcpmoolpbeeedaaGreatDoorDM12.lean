import Derived.Test.YtcpmoolpbeeedaaGreatDoorDM11
import Derived.Lib.Strings
namespace Go.Proofs.YtcpmoolpbeeedaaGreatDoor.Q
open Go.RowKit Go.Proofs.YtcpmoolpbeeedaaGreatDoorW.PrintWords
set_option linter.unusedVariables false
set_option linter.unusedSimpArgs false
/-! ### The words' own lengths; the day's name -/
theorem wordsB_short : ∀ (l cur : List UInt8), ∀ x ∈ wordsB cur l, x.length ≤ cur.length + l.length
  | [], cur, x, hx => by
    rw [wordsB] at hx
    split at hx
    · cases hx
    · obtain rfl : x = cur := by simpa using hx
      simp
  | y :: l, cur, x, hx => by
    rw [wordsB] at hx
    split at hx
    · split at hx
      · have := wordsB_short l [] x hx; simp at this ⊢; omega
      · rcases List.mem_cons.1 hx with rfl | hx
        · omega
        · have := wordsB_short l [] x hx; simp at this ⊢; omega
    · have := wordsB_short l (cur ++ [y]) x hx; simp at this ⊢; omega
theorem wordsB_count : ∀ (l cur : List UInt8), (wordsB cur l).length ≤ l.length + 1
  | [], cur => by rw [wordsB]; split <;> simp
  | y :: l, cur => by
    rw [wordsB]
    split
    · split
      · have := wordsB_count l []; simp; omega
      · have := wordsB_count l []; simp; omega
    · have := wordsB_count l (cur ++ [y]); simp; omega
def WD (n : List UInt8) : Int := if n.getLast? = some 44 then date_week.find (bb n.dropLast) Tab0 0 else -1
def RDW (ws : List (List UInt8)) : Int × Int :=
  match ws with
  | [n, a, b, c, d, e] => if WD n < 0 then (0, 3) else RB a b c d e (WD n)
  | [a, b, c, d, e] => RB a b c d e (-1)
  | _ => (0, 3)
theorem RDW_six (n a b c d e : List UInt8) : RDW [n, a, b, c, d, e] = if WD n < 0 then (0, 3) else RB a b c d e (WD n) := rfl
theorem RDW_five (a b c d e : List UInt8) : RDW [a, b, c, d, e] = RB a b c d e (-1) := rfl
theorem WD_pos (n : List UInt8) (h : n.getLast? = some 44) : WD n = date_week.find (bb n.dropLast) Tab0 0 := if_pos h
theorem WD_neg (n : List UInt8) (h : ¬ n.getLast? = some 44) : WD n = -1 := if_neg h
theorem RDW_other (ws : List (List UInt8)) (h6 : ws.length ≠ 6) (h5 : ws.length ≠ 5) : RDW ws = (0, 3) := by
  unfold RDW
  split
  · simp at h6
  · simp at h5
  · rfl
theorem cut_comma (n : List UInt8) (hn : n.length ≤ 1000000) : strings_CutSuffix.f (bb n) (⟨#[44]⟩ : ByteArray) = some (if n.getLast? = some 44 then (bb n.dropLast, true) else (bb n, false)) := by
  have e1 : (⟨#[44]⟩ : ByteArray).size = 1 := rfl
  have e2 : (⟨#[44]⟩ : ByteArray).toList = [44] := by rw [Lib.toList_data]
  unfold strings_CutSuffix.f stringslite_CutSuffix.f stringslite_HasSuffix.f
  rw [bb_size, e1]
  cases hr : n.reverse with
  | nil =>
    have : n = [] := by simpa using hr
    subst this
    simp
  | cons c r =>
    have hnr : n = r.reverse ++ [c] := by
      have := congrArg List.reverse hr
      simpa using this
    have hl : n.length = r.length + 1 := by rw [hnr]; simp
    rw [if_pos (by omega), w64 (n := (n.length : Int) - ((1 : Nat) : Int)) (by omega) (by omega), if_pos (by omega), if_pos (by omega), show ((n.length : Int) - ((1 : Nat) : Int)).toNat = r.length by omega]
    have hx : ((bb n).extract r.length n.length).toList = [c] := by
      rw [Lib.extract_toList, bb_list, hnr, show r.length = r.reverse.length by simp, List.drop_left]
      simp
    have hy : (bb n).extract 0 r.length = bb n.dropLast := by
      rw [bb_cut, hnr]
      simp
    rw [hx, e2, hy]
    simp only [Option.bind_some]
    have hlast : n.getLast? = some c := by rw [hnr]; simp
    rw [hlast]
    by_cases hc : c = 44
    · subst hc; simp; rw [if_pos (by omega), if_pos (by omega)]; rfl
    · rw [if_neg (by simp [hc]), if_neg (by simp [hc])]
      rfl
theorem read_is (k : Nat) (hk : 1000 ≤ k) (l : List UInt8) (hl : l.length ≤ 300) : date_Read.f k (bb l) = some (RDW (wordsB [] l)) := by
  have hs := wordsB_short l []
  simp only [List.length_nil, Nat.zero_add] at hs
  unfold date_Read.f
  rw [glyph_Words.f, if_pos (by rw [bb_size]; omega), show Lib.goFieldsP glyph_Words.blank (bb l) = (wordsB [] l).map bb by rw [words_is, bb_list]; rfl]
  simp only [Option.bind_some, List.length_map]
  generalize wordsB [] l = ws at hs
  by_cases h6 : ws.length = 6
  · match ws, h6, hs with
    | [n, a, b, c, d, e], _, hs =>
      have hn := hs n (by simp)
      have ha := hs a (by simp)
      have hb := hs b (by simp)
      have hc := hs c (by simp)
      have hd := hs d (by simp)
      have he := hs e (by simp)
      rw [if_pos (by simp), if_pos (by simp), show rdOf ByteArray.empty ([n, a, b, c, d, e].map bb) 0 = bb n from rfl, cut_comma n (by omega)]
      simp only [Option.bind_some]
      rw [RDW_six]
      by_cases h44 : n.getLast? = some 44
      · rw [if_pos h44, WD_pos n h44, date_week.f, if_pos (by rw [bb_size, List.length_dropLast]; omega)]
        simp only [Option.bind_some]
        rw [if_pos trivial]
        by_cases hw : date_week.find (bb n.dropLast) Tab0 0 < 0
        · rw [if_pos hw, if_pos hw]
        · rw [if_neg hw, if_neg hw, if_pos (by simp), show ([n, a, b, c, d, e].map bb).drop ((1 : Int)).toNat = [a, b, c, d, e].map bb from rfl, read_j0 k a b c d e _ (by omega) (by omega) (by omega) (by omega) (by omega) (by omega)]
      · rw [if_neg h44, WD_neg n h44, date_week.f, if_pos (by rw [bb_size]; omega)]
        simp only [Option.bind_some]
        rw [if_neg (by decide), if_pos (by decide)]
  · rw [if_neg (by omega)]
    by_cases h5 : ws.length = 5
    · match ws, h5, hs with
      | [a, b, c, d, e], _, hs =>
        rw [read_j0 k a b c d e _ (by omega) (by have := hs a (by simp); omega) (by have := hs b (by simp); omega) (by have := hs c (by simp); omega) (by have := hs d (by simp); omega) (by have := hs e (by simp); omega)]
        rfl
    · rw [read_j0n k (by omega) ws _ h5, RDW_other ws h6 h5]
end Go.Proofs.YtcpmoolpbeeedaaGreatDoor.Q
