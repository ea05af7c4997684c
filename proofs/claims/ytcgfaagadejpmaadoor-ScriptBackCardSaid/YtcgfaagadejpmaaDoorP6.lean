/- A script's lines: each is told, and what is shown of it is told again. -/
import Derived.Test.YtcgfaagadejpmaaDoorP5
import Derived.Test.YtcgfaagadejpmaaDoorP3
namespace Go.Proofs.YtcgfaagadejpmaaDoor.Q
open Go.RowKit Go.Proofs.YtcgfaagadejpmaaDoorW.PrintWords Go.Proofs.YtcgfaagadejpmaaDoorW.PrintLast Go.Proofs.YtcgfaagadejpmaaDoorW.PrintMore Sp

theorem idx_one (c : UInt8) : ∀ s : List UInt8, (c ∉ s ∧ Lib.index s [c] = -1) ∨ ∃ a b, s = a ++ c :: b ∧ c ∉ a ∧ Lib.index s [c] = (a.length : Int)
  | [] => .inl ⟨by simp, rfl⟩
  | x :: l => by
    rw [Lib.index_one]
    by_cases hx : x = c
    · subst hx
      refine .inr ⟨[], l, rfl, by simp, ?_⟩
      simp [Lib.indexByte]
    · have hb : (x == c) = false := beq_eq_false_iff_ne.mpr hx
      rcases idx_one c l with ⟨h1, h2⟩ | ⟨a, b, h1, h2, h3⟩
      · rw [Lib.index_one] at h2
        refine .inl ⟨by simp [h1, Ne.symm hx], ?_⟩
        simp [Lib.indexByte, hb, h2]
      · rw [Lib.index_one] at h3
        refine .inr ⟨x :: a, b, by simp [h1], by simp [h2, Ne.symm hx], ?_⟩
        have : ((a.length : Int) == -1) = false := beq_eq_false_iff_ne.mpr (by omega)
        simp [Lib.indexByte, hb, h3, this]
theorem data_mk (l : List UInt8) : (mk l).data.toList = l := by simp [mk]
theorem size_mk (l : List UInt8) : (mk l).size = l.length := size_list l
theorem mk_data (x : ByteArray) : mk x.data.toList = x := by simp [mk]
theorem cut_hit (a b : List UInt8) (h : (32 : UInt8) ∉ a) (hs : (a ++ 32 :: b).length < 4294967281) : strings_Cut.f (mk (a ++ 32 :: b)) (⟨#[32]⟩ : ByteArray) = some (mk a, mk b, true) := by
  unfold strings_Cut.f
  rw [size_mk, if_pos hs, data_mk]
  have e : ([32] : List UInt8) = (⟨#[32]⟩ : ByteArray).data.toList := rfl
  rw [← e]
  unfold Lib.cut
  have hi : Lib.index (a ++ 32 :: b) [32] = (a.length : Int) := by
    rcases idx_one 32 (a ++ 32 :: b) with ⟨h1, _⟩ | ⟨a', b', h1, h2, h3⟩
    · exact absurd (by simp) h1
    · rw [h3]
      have := congrArg (splitC 32 []) h1
      rw [splitC_at 32 a b [] h, splitC_at 32 a' b' [] h2] at this
      have h4 : a = a' := by simpa using (List.cons.inj this).1
      rw [h4]
  rw [hi, if_pos (by omega)]
  simp [mk]
theorem cut_miss (s : List UInt8) (h : (32 : UInt8) ∉ s) (hs : s.length < 4294967281) : strings_Cut.f (mk s) (⟨#[32]⟩ : ByteArray) = some (mk s, mk [], false) := by
  unfold strings_Cut.f
  rw [size_mk, if_pos hs, data_mk]
  have e : ([32] : List UInt8) = (⟨#[32]⟩ : ByteArray).data.toList := rfl
  rw [← e]
  unfold Lib.cut
  rcases idx_one 32 s with ⟨_, h1⟩ | ⟨a, b, h1, _, _⟩
  · rw [h1, if_neg (by decide)]
    simp [mk]
  · exact absurd (by rw [h1]; simp) h
theorem idx_at (a b : List UInt8) (h : (32 : UInt8) ∉ a) : Lib.index (a ++ 32 :: b) [32] = (a.length : Int) := by
  rcases idx_one 32 (a ++ 32 :: b) with ⟨h1, _⟩ | ⟨a', b', h1, h2, h3⟩
  · exact absurd (by simp) h1
  · rw [h3]
    have := congrArg (splitC 32 []) h1
    rw [splitC_at 32 a b [] h, splitC_at 32 a' b' [] h2] at this
    have h4 : a = a' := by simpa using (List.cons.inj this).1
    rw [h4]
theorem splitK_hit (k : Nat) (a b : List UInt8) (h : (32 : UInt8) ∉ a) : Lib.splitK [32] 0 (k + 1) (a ++ 32 :: b) = a :: Lib.splitK [32] 0 k b := by
  rw [Lib.splitK, idx_at a b h, if_neg (by simp)]
  simp
theorem splitK_miss (k : Nat) (s : List UInt8) (h : (32 : UInt8) ∉ s) : Lib.splitK [32] 0 k s = [s] := by
  cases k with
  | zero => rfl
  | succ k =>
    rcases idx_one 32 s with ⟨_, h1⟩ | ⟨a, b, h1, _, _⟩
    · rw [Lib.splitK, h1]; rfl
    · exact absurd (by rw [h1]; simp) h
theorem splitK_min : ∀ (k : Nat) (s : List UInt8), Lib.splitK [32] 0 (min k s.length) s = Lib.splitK [32] 0 k s
  | 0, s => by simp
  | k + 1, s => by
    rcases idx_one 32 s with ⟨h1, _⟩ | ⟨a, b, h1, h2, _⟩
    · rw [splitK_miss _ s h1, splitK_miss _ s h1]
    · have e : min (k + 1) s.length = min k (s.length - 1) + 1 := by
        have : 0 < s.length := by rw [h1]; simp; omega
        omega
      rw [e]
      subst h1
      rw [splitK_hit _ a b h2, splitK_hit _ a b h2, ← splitK_min k b]
      congr 1
      have h3 := splitK_min (min k ((a ++ 32 :: b).length - 1)) b
      rw [← h3]
      congr 1
      simp
theorem splitN_eq (s : List UInt8) (hs : s.length < 4294967281) (n : Nat) (h1 : 1 ≤ n) (h2 : n ≤ 3) : strings_SplitN.f (mk s) (⟨#[32]⟩ : ByteArray) (n : Int) = some ((Lib.splitK [32] 0 (n - 1) s).map mk) := by
  unfold strings_SplitN.f
  rw [size_mk, if_pos hs, if_pos (by decide), if_pos (by omega), if_pos (by omega)]
  refine congrArg some ?_
  have hd := Lib.splitB_data (⟨#[32]⟩ : ByteArray) 0 (min ((n : Int).toNat) (s.length + 1) - 1) (mk s)
  rw [data_mk] at hd
  have e : (⟨#[32]⟩ : ByteArray).data.toList = [32] := rfl
  rw [e] at hd
  have e2 : min ((n : Int).toNat) (s.length + 1) - 1 = min (n - 1) s.length := by
    rw [Int.toNat_natCast]; omega
  rw [e2] at hd ⊢
  rw [splitK_min] at hd
  rw [← hd, List.map_map]
  have : (mk ∘ fun x : ByteArray => x.data.toList) = id := by funext x; exact mk_data x
  rw [this, List.map_id]
/-- The verb of a kind. -/
def verb (t : Nat) : List UInt8 := (Tab0.getD t ByteArray.empty).data.toList
theorem verb_ok : ∀ t < 14, 1 ≤ t → (32 : UInt8) ∉ verb t ∧ (10 : UInt8) ∉ verb t ∧ (verb t).length ≤ 7 ∧ verb t ≠ [] ∧ (verb t).head? ≠ some 35 ∧ script_known.f (mk (verb t)) = some (t : Int) := by decide +kernel
theorem rd_verb (t : Nat) : rdOf ByteArray.empty Tab0 (t : Int) = mk (verb t) := by
  unfold rdOf verb
  rw [mk_data]
  rfl
theorem known_go (s : ByteArray) : ∀ (l : List ByteArray) (i : Int), script_known.go s i l = 0 ∨ ∃ j : Nat, j < l.length ∧ script_known.go s i l = i + j ∧ (l.getD j ByteArray.empty).toList = s.toList
  | [], i => .inl rfl
  | v :: l, i => by
    unfold script_known.go
    split
    · rename_i h
      exact .inr ⟨0, by simp, by simp, h⟩
    · rcases known_go s l (i + 1) with h | ⟨j, h1, h2, h3⟩
      · exact .inl h
      · refine .inr ⟨j + 1, by simpa using h1, by rw [h2]; omega, by simpa using h3⟩
theorem known_eq (s : List UInt8) : script_known.f (mk s) = some 0 ∨ ∃ t : Nat, 1 ≤ t ∧ t < 14 ∧ script_known.f (mk s) = some (t : Int) ∧ s = verb t := by
  unfold script_known.f script_known.g
  rcases known_go (mk s) (Tab0.drop 1) 1 with h | ⟨j, h1, h2, h3⟩
  · rw [h]; exact .inl rfl
  · refine .inr ⟨j + 1, by omega, by have : (Tab0.drop 1).length = 13 := rfl; omega, by rw [h2]; congr 1; omega, ?_⟩
    rw [show (mk s).toList = s from toList_mk s] at h3
    have e : (Tab0.drop 1).getD j ByteArray.empty = Tab0.getD (j + 1) ByteArray.empty := by simp [List.getD_eq_getElem?_getD]
    rw [e] at h3
    unfold verb
    rw [← h3, Lib.toList_data]
end Go.Proofs.YtcgfaagadejpmaaDoor.Q
