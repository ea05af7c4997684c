/- ScriptShows, plain. -/
import Derived.Test.YtcgfaagadejpmaaGreatDoorS1
import Derived.Test.YtcgfaagadejpmaaGreatDoorQ19
namespace Go.Proofs.YtcgfaagadejpmaaGreatDoor.Q
open Go.RowKit Go.Proofs.YtcgfaagadejpmaaGreatDoorW.PrintWords Go.Proofs.YtcgfaagadejpmaaGreatDoorW.PrintLast Go.Proofs.YtcgfaagadejpmaaGreatDoorW.PrintMore

/-- The verb of a kind. -/
def verb (t : Nat) : List UInt8 := (Tab0.getD t ByteArray.empty).data.toList
theorem rd_verb (t : Nat) : rdOf ByteArray.empty Tab0 (t : Int) = mk (verb t) := by
  unfold rdOf verb mk
  simp
theorem ref_verb : ∀ t < 14, bulletinref48_Verb.f ((t : Nat) : Int) = some (mk (verb t)) := by decide +kernel
theorem verb_len : ∀ t < 14, (verb t).length ≤ 7 := by decide +kernel
theorem itoa_f (n : Int) (h0 : -9223372036854775808 ≤ n) (h1 : n ≤ 9223372036854775807) : strconv_Itoa.f n = some (mk (Lib.itoa n)) := by
  unfold strconv_Itoa.f
  rw [if_pos h0, if_pos h1]
  rfl
theorem itoa_len (n : Int) (h0 : -9223372036854775808 ≤ n) (h1 : n ≤ 9223372036854775807) : (Lib.itoa n).length ≤ 100 := by
  have : ∀ (j x : Nat), x < 10 ^ j → (Lib.decDigits x).length ≤ j + 1 := by
    intro j
    induction j with
    | zero =>
      intro x hx
      rw [Lib.decDigits_one (by simp at hx; omega)]
      simp
    | succ j ih =>
      intro x hx
      by_cases h : x < 10
      · rw [Lib.decDigits_one h]; simp
      · rw [Lib.decDigits, dif_neg h]
        have := ih (x / 10) (by rw [Nat.pow_succ] at hx; omega)
        simp; omega
  unfold Lib.itoa
  split
  · have := this 20 n.natAbs (by omega)
    simp; omega
  · have := this 20 n.toNat (by omega)
    omega
/-- What is shown. -/
def shown (t : Nat) (a b c : List UInt8) (n : Int) : List UInt8 :=
  if t = 1 then verb t else if t = 2 then verb t ++ [32] ++ c.flatMap script_Escape.esc else if t = 3 then verb t ++ [32] ++ a ++ [32] ++ b ++ [32] ++ c.flatMap script_Escape.esc
  else if t = 4 then verb t ++ [32] ++ b ++ [32] ++ c else if t = 8 then verb t ++ [32] ++ b ++ [32] ++ a else if t = 13 then verb t ++ [32] ++ c ++ [32] ++ Lib.itoa n
  else if t = 11 ∨ t = 12 then (if n = 1 then verb t ++ [32, 121, 101, 115] else verb t ++ [32, 110, 111]) else verb t ++ [32] ++ Lib.itoa n
theorem sp_mk : (⟨#[32]⟩ : ByteArray) = mk [32] := rfl
section
variable (a b c : List UInt8) (n : Int) (k : Nat) (ha : a.length ≤ 500) (hb : b.length ≤ 500) (hc : c.length ≤ 500) (h0 : -9223372036854775808 ≤ n) (h1 : n ≤ 9223372036854775807)
include ha hb hc h0 h1
theorem showP (t : Nat) (ht : 1 ≤ t) (ht2 : t < 14) : script_Show.f (k + 2) (t : Int) (mk a) (mk b) (mk c) n = some (mk (shown t a b c n)) := by
  have hi := itoa_f n h0 h1
  have il := itoa_len n h0 h1
  have el := flat_len c
  have vl := verb_len t ht2
  have he : script_Escape.f (mk c) = some (mk (c.flatMap script_Escape.esc)) := escape_eq c (by omega)
  have hv := rd_verb t
  have s1 := size_mk (verb t)
  have s2 := size_mk a
  have s3 := size_mk b
  have s4 := size_mk c
  have s5 := size_mk (c.flatMap script_Escape.esc)
  have s6 := size_mk (Lib.itoa n)
  unfold script_Show.f
  rw [if_neg (by omega), decide_eq_false (by omega), script_Show.j0, if_neg (by decide), if_pos (by omega), if_pos (by omega), hi]
  dsimp only [Option.bind_some]
  rw [hv, he]
  dsimp only [Option.bind_some]
  unfold shown
  by_cases t1 : t = 1
  · rw [if_pos (by omega), if_pos t1]
  rw [if_neg (by omega), if_neg t1]
  by_cases t2 : t = 2
  · rw [if_pos (by omega), if_pos t2, if_pos (by omega), if_pos (by omega), sp_mk]
    simp only [mk_append]
  rw [if_neg (by omega), if_neg t2]
  by_cases t3 : t = 3
  · rw [if_pos (by omega), if_pos t3, if_pos (by omega), if_pos (by omega), if_pos (by omega), if_pos (by omega), if_pos (by omega), if_pos (by omega), sp_mk]
    simp only [mk_append]
  rw [if_neg (by omega), if_neg t3]
  by_cases t4 : t = 4
  · rw [if_pos (by omega), if_pos t4, if_pos (by omega), if_pos (by omega), if_pos (by omega), if_pos (by omega), sp_mk]
    simp only [mk_append]
  rw [if_neg (by omega), if_neg t4]
  by_cases t8 : t = 8
  · rw [if_pos (by omega), if_pos t8, if_pos (by omega), if_pos (by omega), if_pos (by omega), if_pos (by omega), sp_mk]
    simp only [mk_append]
  rw [if_neg (by omega), if_neg t8]
  by_cases t13 : t = 13
  · rw [if_pos (by omega), if_pos t13, if_pos (by omega), if_pos (by omega), if_pos (by omega), if_pos (by omega), sp_mk]
    simp only [mk_append]
  rw [if_neg (by omega), if_neg t13]
  have num : ¬ (t = 11 ∨ t = 12) → script_Show.j1 (k + 1) (mk (verb t)) (mk (Lib.itoa n)) false (t : Int) (mk a) (mk b) (mk c) n = some (mk (verb t ++ [32] ++ Lib.itoa n)) := by
    intro _
    rw [script_Show.j1, if_neg (by decide), if_pos (by omega), if_pos (by omega), sp_mk]
    simp only [mk_append]
  have yes : script_Show.j1 (k + 1) (mk (verb t)) (mk (Lib.itoa n)) true (t : Int) (mk a) (mk b) (mk c) n = some (mk (if n = 1 then verb t ++ [32, 121, 101, 115] else verb t ++ [32, 110, 111])) := by
    rw [script_Show.j1, if_pos rfl]
    by_cases hn : n = 1
    · rw [if_pos hn, if_pos hn, if_pos (by omega), show (⟨#[32, 121, 101, 115]⟩ : ByteArray) = mk [32, 121, 101, 115] from rfl, mk_append]
    · rw [if_neg hn, if_neg hn, if_pos (by omega), show (⟨#[32, 110, 111]⟩ : ByteArray) = mk [32, 110, 111] from rfl, mk_append]
  by_cases t11 : t = 11
  · rw [if_pos (by omega), if_pos (.inl t11), show ((t : Int) == 11) = true from beq_iff_eq.2 (by omega)]
    exact yes
  rw [if_neg (by omega)]
  by_cases t12 : t = 12
  · rw [if_pos (.inr t12), show ((t : Int) == 12) = true from beq_iff_eq.2 (by omega)]
    exact yes
  · rw [if_neg (by omega), show ((t : Int) == 12) = false from beq_eq_false_iff_ne.2 (by omega)]
    exact num (by omega)
theorem showR (hk : 2000 ≤ k) (t : Nat) (ht : 1 ≤ t) (ht2 : t < 14) : bulletinref48_Show.f (k + 2) (t : Int) (mk a) (mk b) (mk c) n = some (mk (shown t a b c n)) := by
  have hi := fun k hk => number_f n k hk h0 h1
  have il := itoa_len n h0 h1
  have el := flat_len c
  have vl := verb_len t ht2
  have he : bulletinref48_Escape.f (k + 1) (mk c) = some (mk (c.flatMap script_Escape.esc)) := refEsc_f c (by omega) (k + 1) (by omega)
  have hv := ref_verb t ht2
  have s1 := size_mk (verb t)
  have s2 := size_mk a
  have s3 := size_mk b
  have s4 := size_mk c
  have s5 := size_mk (c.flatMap script_Escape.esc)
  have s6 := size_mk (Lib.itoa n)
  unfold bulletinref48_Show.f
  rw [if_neg (by omega), decide_eq_false (by omega), bulletinref48_Show.j0, if_neg (by decide), hv]
  dsimp only [Option.bind_some]
  rw [he, hi (k + 1) (by omega)]
  dsimp only [Option.bind_some]
  unfold shown
  have num : ¬ t = 1 → ¬ (t = 11 ∨ t = 12) → bulletinref48_Show.j1 (k + 1) (mk (verb t)) false (t : Int) (mk a) (mk b) (mk c) n = some (mk (verb t ++ [32] ++ Lib.itoa n)) := by
    intro _ _
    rw [bulletinref48_Show.j1, if_neg (by decide), if_neg (by omega), if_pos (by omega), hi k (by omega)]
    dsimp only [Option.bind_some]
    rw [if_pos (by omega), sp_mk]
    simp only [mk_append]
  have yes : bulletinref48_Show.j1 (k + 1) (mk (verb t)) true (t : Int) (mk a) (mk b) (mk c) n = some (mk (if n = 1 then verb t ++ [32, 121, 101, 115] else verb t ++ [32, 110, 111])) := by
    rw [bulletinref48_Show.j1, if_pos rfl]
    by_cases hn : n = 1
    · rw [if_pos hn, if_pos hn, if_pos (by omega), show (⟨#[32, 121, 101, 115]⟩ : ByteArray) = mk [32, 121, 101, 115] from rfl, mk_append]
    · rw [if_neg hn, if_neg hn, if_pos (by omega), show (⟨#[32, 110, 111]⟩ : ByteArray) = mk [32, 110, 111] from rfl, mk_append]
  by_cases t3 : t = 3
  · rw [if_pos (by omega), if_neg (by omega : ¬ t = 1), if_neg (by omega : ¬ t = 2), if_pos t3, if_pos (by omega), if_pos (by omega), if_pos (by omega), if_pos (by omega), if_pos (by omega), if_pos (by omega), sp_mk]
    simp only [mk_append]
  rw [if_neg (by omega)]
  by_cases t2 : t = 2
  · rw [if_pos (by omega), if_neg (by omega : ¬ t = 1), if_pos t2, if_pos (by omega), if_pos (by omega), sp_mk]
    simp only [mk_append]
  rw [if_neg (by omega), if_neg t2, if_neg t3]
  by_cases t4 : t = 4
  · rw [if_pos (by omega), if_neg (by omega : ¬ t = 1), if_pos t4, if_pos (by omega), if_pos (by omega), if_pos (by omega), if_pos (by omega), sp_mk]
    simp only [mk_append]
  rw [if_neg (by omega), if_neg t4]
  by_cases t8 : t = 8
  · rw [if_pos (by omega), if_neg (by omega : ¬ t = 1), if_pos t8, if_pos (by omega), if_pos (by omega), if_pos (by omega), if_pos (by omega), sp_mk]
    simp only [mk_append]
  rw [if_neg (by omega), if_neg t8]
  by_cases t13 : t = 13
  · rw [if_pos (by omega), if_neg (by omega : ¬ t = 1), if_pos t13, if_pos (by omega), if_pos (by omega), if_pos (by omega), if_pos (by omega), sp_mk]
    simp only [mk_append]
  rw [if_neg (by omega), if_neg t13]
  by_cases t11 : t = 11
  · rw [if_pos (by omega), if_neg (by omega : ¬ t = 1), if_pos (.inl t11)]
    exact yes
  rw [if_neg (by omega)]
  by_cases t12 : t = 12
  · rw [if_neg (by omega : ¬ t = 1), if_pos (.inr t12), show ((t : Int) == 12) = true from beq_iff_eq.2 (by omega)]
    exact yes
  rw [show ((t : Int) == 12) = false from beq_eq_false_iff_ne.2 (by omega)]
  by_cases t1 : t = 1
  · rw [if_pos t1, bulletinref48_Show.j1, if_neg (by decide), if_pos (by omega)]
  · rw [if_neg t1, if_neg (by omega)]
    exact num t1 (by omega)
theorem shows_eq (hk : 2000 ≤ k) (t : Int) : ∃ y, script_Show.f (k + 2) t (mk a) (mk b) (mk c) n = some y ∧ bulletinref48_Show.f (k + 2) t (mk a) (mk b) (mk c) n = some y := by
  by_cases l0 : t < 1
  · refine ⟨⟨#[]⟩, ?_, ?_⟩
    · unfold script_Show.f
      rw [if_pos l0, script_Show.j0, if_pos rfl]
    · unfold bulletinref48_Show.f
      rw [if_pos l0, bulletinref48_Show.j0, if_pos rfl]
  · by_cases l1 : t > 13
    · refine ⟨⟨#[]⟩, ?_, ?_⟩
      · unfold script_Show.f
        rw [if_neg l0, decide_eq_true l1, script_Show.j0, if_pos rfl]
      · unfold bulletinref48_Show.f
        rw [if_neg l0, decide_eq_true l1, bulletinref48_Show.j0, if_pos rfl]
    · obtain ⟨m, rfl⟩ : ∃ m : Nat, t = m := ⟨t.toNat, by omega⟩
      exact ⟨_, showP a b c n k ha hb hc h0 h1 m (by omega) (by omega), showR a b c n k ha hb hc h0 h1 hk m (by omega) (by omega)⟩
end
theorem works_60 : bulletinlaw48_works.f 60 = some true := by decide +kernel
theorem works_up : ∀ k, 60 ≤ k → bulletinlaw48_works.f k = some true := up_of bulletinlaw48_works.mono works_60
theorem scriptShows_pure (t : Int) (a b c : ByteArray) (n : Int) (s : ByteArray) (h0 : -9223372036854775808 ≤ n) (h1 : n ≤ 9223372036854775807) : bulletinlaw48_ScriptShows.f 6000 t a b c n s = some true := by
  have hw : bulletinlaw48_ScriptShows.j0 (5999 + 1) s true t a b c n = some true := by
    rw [bulletinlaw48_ScriptShows.j0, if_pos rfl, works_up 5999 (by decide)]
    rfl
  unfold bulletinlaw48_ScriptShows.f
  by_cases ha : (a.size : Int) > 500
  · rw [if_pos ha]; exact hw
  rw [if_neg ha]
  by_cases hb : (b.size : Int) > 500
  · rw [if_pos hb]; exact hw
  rw [if_neg hb]
  by_cases hc : (c.size : Int) > 500
  · rw [if_pos hc]; exact hw
  rw [if_neg hc]
  by_cases hs : (s.size : Int) > 500
  · rw [decide_eq_true hs]; exact hw
  rw [decide_eq_false hs]
  obtain ⟨a, rfl⟩ := list_eq a
  obtain ⟨b, rfl⟩ := list_eq b
  obtain ⟨c, rfl⟩ := list_eq c
  obtain ⟨s, rfl⟩ := list_eq s
  rw [size_list] at ha hb hc hs
  obtain ⟨y, y1, y2⟩ := shows_eq a b c n 5997 (by omega) (by omega) (by omega) h0 h1 (by decide) t
  show bulletinlaw48_ScriptShows.j0 (5999 + 1) (mk s) false t (mk a) (mk b) (mk c) n = some true
  rw [bulletinlaw48_ScriptShows.j0, if_neg (by decide), show script_Unescape.f 5999 (mk s) = _ from unescape_f s 5999 (by omega) (by omega), refUn_f s (by omega) 5999 (by omega)]
  dsimp only [Option.bind_some, bulletinlaw48_To.f]
  rw [y1, y2]
  dsimp only [Option.bind_some]
  rw [if_pos rfl, show script_Escape.f (mk s) = _ from escape_eq s (by omega), refEsc_f s (by omega) 5999 (by omega)]
  dsimp only [Option.bind_some]
  rw [if_pos (show (⟨(s.flatMap script_Escape.esc).toArray⟩ : ByteArray).toList = (mk (s.flatMap script_Escape.esc)).toList from rfl)]
  cases un s with
  | none =>
    dsimp only
    rw [if_pos (show (⟨#[]⟩ : ByteArray).toList = (mk []).toList from rfl), if_pos (by decide), works_up 5999 (by decide)]
    rfl
  | some m =>
    dsimp only
    rw [if_pos (show (⟨m.toArray⟩ : ByteArray).toList = (mk m).toList from rfl), if_pos (by decide), works_up 5999 (by decide)]
    rfl
end Go.Proofs.YtcgfaagadejpmaaGreatDoor.Q
