/- ScriptEscape, plain. -/
import Derived.Test.YtcgfaagadejpmaaDoorP1
import Derived.Test.YtcgfaagadejpmaaDoorQ17
namespace Go.Proofs.YtcgfaagadejpmaaDoor.Q
open Go.RowKit Go.Proofs.YtcgfaagadejpmaaDoorW.PrintWords Go.Proofs.YtcgfaagadejpmaaDoorW.PrintLast Go.Proofs.YtcgfaagadejpmaaDoorW.PrintMore

theorem works_60 : bulletinlaw48_works.f 60 = some true := by decide +kernel
theorem works_up : ∀ k, 60 ≤ k → bulletinlaw48_works.f k = some true := up_of bulletinlaw48_works.mono works_60
theorem wrap_nat (i : Nat) (h : i < 4611686018427387904) : wrap64 ((i : Int) + 1) = ((i + 1 : Nat) : Int) := by
  unfold wrap64
  omega
theorem escape_end (l t : List UInt8) (hl : l.length ≤ 1000) (ht : t.length ≤ 1000) (k : Nat) (hk : 5000 < k) :
    bulletinlaw48_ScriptEscape.l0 k ⟨l.toArray⟩ ⟨t.toArray⟩ ⟨(l.flatMap script_Escape.esc).toArray⟩ (((l.flatMap script_Escape.esc).length : Nat) : Int) (((l.flatMap script_Escape.esc).length : Nat) : Int) = some true := by
  obtain ⟨k, rfl⟩ : ∃ j, k = j + 1 := ⟨k - 1, by omega⟩
  have hf := flat_len l
  unfold bulletinlaw48_ScriptEscape.l0
  rw [if_neg (by omega), unescape_f _ k (by omega) (by omega), un_flat, unescape_f t k (by omega) (by omega)]
  dsimp only [Option.bind_some]
  cases hu : un t with
  | none =>
    dsimp only
    rw [show script_Escape.f (⟨#[]⟩ : ByteArray) = some ⟨#[]⟩ from escape_eq [] (by decide)]
    dsimp only [Option.bind_some]
    rw [show script_Unescape.f k (⟨#[]⟩ : ByteArray) = some (⟨#[]⟩, true) from unescape_f [] k (by simp; omega) (by decide)]
    dsimp only [Option.bind_some]
    rw [if_pos rfl, if_pos rfl, if_pos rfl, if_pos rfl, if_neg (by decide), toList_mk []]
    rfl
  | some m =>
    have hm : m.length ≤ t.length := un_len _ _ _ (Nat.le_refl _) hu
    have hf2 := flat_len m
    dsimp only
    rw [escape_eq m (by omega)]
    dsimp only [Option.bind_some]
    rw [unescape_f _ k (by omega) (by omega), un_flat]
    dsimp only [Option.bind_some]
    rw [if_pos rfl, if_pos rfl, if_pos rfl, if_pos rfl, if_pos rfl]
theorem escape_loop (l t : List UInt8) (hl : l.length ≤ 1000) (ht : t.length ≤ 1000) : ∀ (m i k : Nat), i + m = (l.flatMap script_Escape.esc).length → 5000 + m < k →
    bulletinlaw48_ScriptEscape.l0 k ⟨l.toArray⟩ ⟨t.toArray⟩ ⟨(l.flatMap script_Escape.esc).toArray⟩ (((l.flatMap script_Escape.esc).length : Nat) : Int) (i : Int) = some true
  | 0, i, k, hi, hk => by
    obtain rfl : i = (l.flatMap script_Escape.esc).length := hi
    exact escape_end l t hl ht k (by omega)
  | m + 1, i, k, hi, hk => by
    obtain ⟨k, rfl⟩ : ∃ j, k = j + 1 := ⟨k - 1, by omega⟩
    have hf := flat_len l
    have hlt : i < (l.flatMap script_Escape.esc).length := by omega
    have hr := flat_range l _ (List.getElem_mem hlt)
    unfold bulletinlaw48_ScriptEscape.l0
    rw [if_pos (by omega), if_pos (by omega), if_pos (by rw [size_list]; omega), bt_list _ i hlt, if_neg (by omega), if_neg (by omega), wrap_nat i (by omega)]
    exact escape_loop l t hl ht m (i + 1) k (by omega) (by omega)
theorem scriptEscape_pure (a0 a1 : ByteArray) : bulletinlaw48_ScriptEscape.f 20000 a0 a1 = some true := by
  unfold bulletinlaw48_ScriptEscape.f
  rw [works_up 20000 (by decide)]
  dsimp only [Option.bind_some]
  rw [if_pos rfl]
  obtain ⟨l, rfl⟩ := list_eq a0
  obtain ⟨t, rfl⟩ := list_eq a1
  rw [size_list, size_list]
  by_cases h0 : (l.length : Int) > 1000
  · rw [if_pos h0]; rfl
  rw [if_neg h0]
  by_cases h1 : (t.length : Int) > 1000
  · rw [decide_eq_true h1]; rfl
  rw [decide_eq_false h1]
  show (if false = true then some true else (script_Escape.f ⟨l.toArray⟩).bind fun t328 => bulletinlaw48_ScriptEscape.l0 19999 ⟨l.toArray⟩ ⟨t.toArray⟩ t328 (t328.size : Int) 0) = some true
  rw [if_neg (by decide), escape_eq l (by omega)]
  dsimp only [Option.bind_some]
  rw [size_list]
  have := flat_len l
  exact escape_loop l t (by omega) (by omega) _ 0 19999 (Nat.zero_add _) (by omega)
end Go.Proofs.YtcgfaagadejpmaaDoor.Q
