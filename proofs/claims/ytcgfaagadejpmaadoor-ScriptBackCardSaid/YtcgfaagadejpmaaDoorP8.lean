/- ScriptBack: lines are told, shown, and told again; plain. -/
import Derived.Test.YtcgfaagadejpmaaDoorP7
namespace Go.Proofs.YtcgfaagadejpmaaDoor.Q
open Go.RowKit Go.Proofs.YtcgfaagadejpmaaDoorW.PrintWords Go.Proofs.YtcgfaagadejpmaaDoorW.PrintLast Go.Proofs.YtcgfaagadejpmaaDoorW.PrintMore Sp

theorem splitC_no (c : UInt8) : ∀ (l cur : List UInt8) (p : List UInt8), c ∉ cur → p ∈ splitC c cur l → c ∉ p
  | [], cur, p, hc, h => by
    obtain rfl : p = cur := by simpa [splitC] using h
    exact hc
  | y :: l, cur, p, hc, h => by
    rw [splitC] at h
    split at h
    · rcases List.mem_cons.1 h with rfl | h
      · exact hc
      · exact splitC_no c l [] p (by simp) h
    · rename_i hy
      refine splitC_no c l (cur ++ [y]) p ?_ h
      intro e
      rcases List.mem_append.1 e with e | e
      · exact hc e
      · exact hy (List.mem_singleton.1 e).symm
abbrev LR := Int × ByteArray × ByteArray × ByteArray × Int × Int
def shw (k : Nat) (r : LR) : Option ByteArray := script_Show.f k r.1 r.2.1 r.2.2.1 r.2.2.2.1 r.2.2.2.2.1
/-- A line is told, and what is shown of it is told as it. -/
def Told (K : Nat) (x : List UInt8) : Prop := ∃ r : LR, script_line.f K (mk x) = some r ∧ (r.2.2.2.2.2 = 0 → ∃ y : List UInt8, shw K r = some (mk y) ∧ script_line.f K (mk y) = some r ∧ (10 : UInt8) ∉ y ∧ y ≠ [] ∧ y.head? ≠ some 35 ∧ y.length ≤ 13000)
theorem mx_nat (n : Nat) : mx (n : Int) 1 = ((max n 1 : Nat) : Int) := by unfold mx; omega
theorem line_at (k t : Nat) (h1 : 1 ≤ t) (h2 : t < 14) (b : List UInt8) (hb : b.length ≤ 20000) (n : Nat) (hn : script_count.f (t : Int) = some (n : Int)) (hn3 : n ≤ 3) (l : List (List UInt8)) (hl : Lib.splitK [32] 0 (max n 1 - 1) b = l) :
    script_line.f k (mk (verb t ++ 32 :: b)) = script_line.j0 k (t : Int) (n : Int) (l.map mk) := by
  obtain ⟨v1, v2, v3, v4, v5, v6⟩ := verb_ok t h2 h1
  unfold script_line.f
  rw [cut_hit (verb t) b v1 (by simp; omega)]
  dsimp only [Option.bind_some]
  rw [v6]
  dsimp only [Option.bind_some]
  rw [if_neg (by omega), hn]
  dsimp only [Option.bind_some]
  rw [if_pos rfl, mx_nat, splitN_eq b (by omega) (max n 1) (by omega) (by omega), hl]
  rfl
theorem line_off (k t : Nat) (n : Nat) (l : List (List UInt8)) (hlen : l.length ≠ n) :
    script_line.j0 (k + 1) (t : Int) (n : Int) (l.map mk) = some (0, mk [], mk [], mk [], 0, 3) := by
  rw [script_line.j0, if_neg (by rw [List.length_map]; omega)]
  rfl
theorem line_on (k t : Nat) (n : Nat) (l : List (List UInt8)) (hlen : l.length = n) (r : R6) (hr : script_step.f k (t : Int) (l.map mk) = some r) :
    script_line.j0 (k + 1) (t : Int) (n : Int) (l.map mk) = some (if r.2.2.2.2.2 = true then (r.1, r.2.1, r.2.2.1, r.2.2.2.1, r.2.2.2.2.1, 0) else (0, mk [], mk [], mk [], 0, 3)) := by
  rw [script_line.j0, if_pos (by rw [List.length_map]; omega), hr]
  dsimp only [Option.bind_some]
  split <;> rfl
theorem show_up (k : Nat) (r : R6) (e : Int) (y : ByteArray) (h : sh k r = some y) : shw (k + 1) (r.1, r.2.1, r.2.2.1, r.2.2.2.1, r.2.2.2.2.1, e) = some y :=
  script_Show.mono _ _ _ _ _ _ _ h
theorem told_bad {K : Nat} {x : List UInt8} {e : Int} (he : e ≠ 0) (h : script_line.f K (mk x) = some (0, mk [], mk [], mk [], 0, e)) : Told K x :=
  ⟨_, h, fun h0 => absurd h0 he⟩
theorem notin10 {v b : List UInt8} (hv : (10 : UInt8) ∉ v) (hb : (10 : UInt8) ∉ b) : (10 : UInt8) ∉ v ++ 32 :: b := by
  intro h
  rcases List.mem_append.1 h with h | h
  · exact hv h
  · rcases List.mem_cons.1 h with h | h
    · exact absurd h (by decide)
    · exact hb h
theorem head_app {v x : List UInt8} (h : v ≠ []) : (v ++ x).head? = v.head? := by
  cases v with
  | nil => exact absurd rfl h
  | cons c r => rfl
theorem told_one (k t : Nat) (h1 : 1 ≤ t) (h2 : t < 14) (hO : One (k + 100000) (t : Int) (verb t)) (hn : script_count.f (t : Int) = some ((1 : Nat) : Int)) (b : List UInt8) (hb : b.length ≤ 3000) (h10 : (10 : UInt8) ∉ b) :
    Told (k + 100001) (verb t ++ 32 :: b) := by
  obtain ⟨v1, v2, v3, v4, v5, v6⟩ := verb_ok t h2 h1
  obtain ⟨r, hr, hok⟩ := hO b hb
  have hL : ∀ b' : List UInt8, b'.length ≤ 20000 → script_step.f (k + 100000) (t : Int) [mk b'] = some r → script_line.f (k + 100001) (mk (verb t ++ 32 :: b')) = some (if r.2.2.2.2.2 = true then (r.1, r.2.1, r.2.2.1, r.2.2.2.1, r.2.2.2.2.1, 0) else (0, mk [], mk [], mk [], 0, 3)) := by
    intro b' hb' hr'
    rw [line_at (k + 100001) t h1 h2 b' hb' 1 hn (by decide) [b'] rfl]
    exact line_on (k + 100000) t 1 [b'] rfl r hr'
  have h := hL b (by omega) hr
  by_cases ho : r.2.2.2.2.2 = true
  · obtain ⟨b', hs, hs2, hb10, hl⟩ := hok ho
    have h' := hL b' (by omega) hs2
    rw [if_pos ho] at h h'
    refine ⟨_, h, fun _ => ⟨verb t ++ 32 :: b', show_up _ r 0 _ hs, h', notin10 v2 (hb10 h10), by simp, ?_, by simp; omega⟩⟩
    rw [head_app v4]; exact v5
  · rw [if_neg ho] at h
    exact told_bad (by decide) h
theorem told_two (k t : Nat) (h1 : 1 ≤ t) (h2 : t < 14) (hO : Two (k + 100000) (t : Int) (verb t)) (hn : script_count.f (t : Int) = some ((2 : Nat) : Int)) (b : List UInt8) (hb : b.length ≤ 3000) (h10 : (10 : UInt8) ∉ b) :
    Told (k + 100001) (verb t ++ 32 :: b) := by
  obtain ⟨v1, v2, v3, v4, v5, v6⟩ := verb_ok t h2 h1
  rcases idx_one 32 b with ⟨hm, _⟩ | ⟨a1, b1, rfl, ha, _⟩
  · refine told_bad (e := 3) (by decide) ?_
    rw [line_at (k + 100001) t h1 h2 b (by omega) 2 hn (by decide) [b] (splitK_miss 1 b hm)]
    exact line_off (k + 100000) t 2 [b] (by simp)
  · simp only [List.length_append, List.length_cons] at hb
    obtain ⟨r, hr, hok⟩ := hO a1 b1 (by omega) (by omega)
    have h : script_line.f (k + 100001) (mk (verb t ++ 32 :: (a1 ++ 32 :: b1))) = some (if r.2.2.2.2.2 = true then (r.1, r.2.1, r.2.2.1, r.2.2.2.1, r.2.2.2.2.1, 0) else (0, mk [], mk [], mk [], 0, 3)) := by
      rw [line_at (k + 100001) t h1 h2 _ (by simp; omega) 2 hn (by decide) [a1, b1] (by rw [show max 2 1 - 1 = 0 + 1 from rfl, splitK_hit 0 a1 b1 ha]; rfl)]
      exact line_on (k + 100000) t 2 [a1, b1] rfl r hr
    by_cases ho : r.2.2.2.2.2 = true
    · rw [if_pos ho] at h
      refine ⟨_, h, fun _ => ⟨_, show_up _ r 0 _ (hok ho), h, notin10 v2 h10, by simp, ?_, by simp; omega⟩⟩
      rw [head_app v4]; exact v5
    · rw [if_neg ho] at h
      exact told_bad (by decide) h
theorem told_three (k t : Nat) (h1 : 1 ≤ t) (h2 : t < 14) (hO : Three (k + 100000) (t : Int) (verb t)) (hn : script_count.f (t : Int) = some ((3 : Nat) : Int)) (b : List UInt8) (hb : b.length ≤ 3000) (h10 : (10 : UInt8) ∉ b) :
    Told (k + 100001) (verb t ++ 32 :: b) := by
  obtain ⟨v1, v2, v3, v4, v5, v6⟩ := verb_ok t h2 h1
  rcases idx_one 32 b with ⟨hm, _⟩ | ⟨a1, b1, rfl, ha, _⟩
  · refine told_bad (e := 3) (by decide) ?_
    rw [line_at (k + 100001) t h1 h2 b (by omega) 3 hn (by decide) [b] (splitK_miss 2 b hm)]
    exact line_off (k + 100000) t 3 [b] (by simp)
  · rcases idx_one 32 b1 with ⟨hm, _⟩ | ⟨a2, b2, rfl, ha2, _⟩
    · refine told_bad (e := 3) (by decide) ?_
      rw [line_at (k + 100001) t h1 h2 _ (by omega) 3 hn (by decide) [a1, b1] (by rw [show max 3 1 - 1 = 1 + 1 from rfl, splitK_hit 1 a1 b1 ha, splitK_miss 1 b1 hm])]
      exact line_off (k + 100000) t 3 [a1, b1] (by simp)
    · simp only [List.length_append, List.length_cons] at hb
      obtain ⟨r, hr, hok⟩ := hO a1 a2 b2 (by omega) (by omega) (by omega)
      have hL : ∀ b' : List UInt8, b'.length ≤ 12000 → script_step.f (k + 100000) (t : Int) [mk a1, mk a2, mk b'] = some r → script_line.f (k + 100001) (mk (verb t ++ 32 :: (a1 ++ 32 :: (a2 ++ 32 :: b')))) = some (if r.2.2.2.2.2 = true then (r.1, r.2.1, r.2.2.1, r.2.2.2.1, r.2.2.2.2.1, 0) else (0, mk [], mk [], mk [], 0, 3)) := by
        intro b' hb' hr'
        rw [line_at (k + 100001) t h1 h2 _ (by simp; omega) 3 hn (by decide) [a1, a2, b'] (by rw [show max 3 1 - 1 = 1 + 1 from rfl, splitK_hit 1 a1 _ ha, show 1 = 0 + 1 from rfl, splitK_hit 0 a2 b' ha2]; rfl)]
        exact line_on (k + 100000) t 3 [a1, a2, b'] rfl r hr'
      have h := hL b2 (by omega) hr
      by_cases ho : r.2.2.2.2.2 = true
      · obtain ⟨b', hs, hs2, hb10, hl⟩ := hok ho
        have h' := hL b' (by omega) hs2
        rw [if_pos ho] at h h'
        have ha10 : (10 : UInt8) ∉ a1 := fun e => h10 (by simp [e])
        have hd10 : (10 : UInt8) ∉ a2 := fun e => h10 (by simp [e])
        have he10 : (10 : UInt8) ∉ b2 := fun e => h10 (by simp [e])
        refine ⟨_, h, fun _ => ⟨_, show_up _ r 0 _ hs, h', notin10 v2 (notin10 ha10 (notin10 hd10 (hb10 he10))), by simp, ?_, by simp; omega⟩⟩
        rw [head_app v4]; exact v5
      · rw [if_neg ho] at h
        exact told_bad (by decide) h
theorem told_connect (k : Nat) : Told (k + 100001) (verb 1) := by
  have hl : script_line.f (k + 100001) (mk (verb 1)) = some (1, mk [], mk [], mk [], 0, 0) := by
    unfold script_line.f
    rw [cut_miss (verb 1) (by decide) (by decide)]
    dsimp only [Option.bind_some]
    rw [show script_known.f (mk (verb 1)) = some ((1 : Nat) : Int) from (verb_ok 1 (by decide) (by decide)).2.2.2.2.2]
    dsimp only [Option.bind_some]
    rw [if_neg (by decide), show script_count.f ((1 : Nat) : Int) = some ((0 : Nat) : Int) from rfl]
    dsimp only [Option.bind_some]
    rw [if_neg (by decide)]
    have hst : script_step.f (k + 100000) ((1 : Nat) : Int) (([] : List (List UInt8)).map mk) = some (1, mk [], mk [], mk [], 0, true) := by
      unfold script_step.f
      rw [if_pos (by decide)]
      rfl
    exact line_on (k + 100000) 1 0 [] rfl _ hst
  refine ⟨_, hl, fun _ => ⟨verb 1, ?_, hl, by decide, by decide, by decide, by decide⟩⟩
  show script_Show.f (k + 100000 + 1) 1 (mk []) (mk []) (mk []) 0 = _
  obtain ⟨y0, hy0⟩ := itoa_t 0 (by decide)
  unfold script_Show.f
  rw [if_neg (by decide), script_Show.j0, if_neg (by decide), if_pos (by decide), if_pos (by decide), hy0]
  dsimp only [Option.bind_some]
  rw [if_pos rfl]
  exact congrArg some (rd_verb 1)
theorem One.up {k k' : Nat} {t : Int} {v : List UInt8} (h : One k t v) (e : k = k') : One k' t v := e ▸ h
theorem Two.up {k k' : Nat} {t : Int} {v : List UInt8} (h : Two k t v) (e : k = k') : Two k' t v := e ▸ h
theorem told (k : Nat) (x : List UInt8) (hx : x.length ≤ 3000) (h10 : (10 : UInt8) ∉ x) : Told (k + 100001) x := by
  rcases idx_one 32 x with ⟨hm, _⟩ | ⟨a, b, rfl, ha, _⟩
  · rcases known_eq x with hk | ⟨t, h1, h2, hk, hv⟩
    · refine told_bad (e := 270) (by decide) ?_
      unfold script_line.f
      rw [cut_miss x hm (by omega)]
      dsimp only [Option.bind_some]
      rw [hk]
      rfl
    · by_cases ht : t = 1
      · subst ht
        rw [hv]
        exact told_connect k
      · refine told_bad (e := 3) (by decide) ?_
        unfold script_line.f
        rw [cut_miss x hm (by omega)]
        dsimp only [Option.bind_some]
        rw [hk]
        dsimp only [Option.bind_some]
        rw [if_neg (by omega)]
        have hc : ∀ t : Nat, t < 14 → 1 < t → ∃ n : Nat, script_count.f (t : Int) = some ((n + 1 : Nat) : Int) := by
          intro t ht h1
          obtain rfl | rfl | rfl | rfl | rfl | rfl | rfl | rfl | rfl | rfl | rfl | rfl : t = 2 ∨ t = 3 ∨ t = 4 ∨ t = 5 ∨ t = 6 ∨ t = 7 ∨ t = 8 ∨ t = 9 ∨ t = 10 ∨ t = 11 ∨ t = 12 ∨ t = 13 := by omega
          · exact ⟨0, rfl⟩
          · exact ⟨2, rfl⟩
          · exact ⟨1, rfl⟩
          · exact ⟨0, rfl⟩
          · exact ⟨0, rfl⟩
          · exact ⟨0, rfl⟩
          · exact ⟨1, rfl⟩
          · exact ⟨0, rfl⟩
          · exact ⟨0, rfl⟩
          · exact ⟨0, rfl⟩
          · exact ⟨0, rfl⟩
          · exact ⟨1, rfl⟩
        obtain ⟨n, hn⟩ := hc t h2 (by omega)
        rw [hn]
        dsimp only [Option.bind_some]
        rw [if_neg (by decide)]
        exact line_off (k + 100000) t (n + 1) [] (by simp)
  · have hb10 : (10 : UInt8) ∉ b := fun e => h10 (by simp [e])
    simp only [List.length_append, List.length_cons] at hx
    rcases known_eq a with hk | ⟨t, h1, h2, hk, hv⟩
    · refine told_bad (e := 270) (by decide) ?_
      unfold script_line.f
      rw [cut_hit a b ha (by simp; omega)]
      dsimp only [Option.bind_some]
      rw [hk]
      rfl
    · rw [hv]
      have hl : b.length ≤ 3000 := by omega
      have r1 : ∀ t : Nat, t < 14 → rdOf ByteArray.empty Tab0 (t : Int) = mk (verb t) := fun t _ => rd_verb t
      have l1 : ∀ t : Nat, 1 ≤ t → t < 14 → (verb t).length ≤ 7 := fun t h1 h2 => (verb_ok t h2 h1).2.2.1
      obtain rfl | rfl | rfl | rfl | rfl | rfl | rfl | rfl | rfl | rfl | rfl | rfl | rfl : t = 1 ∨ t = 2 ∨ t = 3 ∨ t = 4 ∨ t = 5 ∨ t = 6 ∨ t = 7 ∨ t = 8 ∨ t = 9 ∨ t = 10 ∨ t = 11 ∨ t = 12 ∨ t = 13 := by omega
      · refine told_bad (e := 3) (by decide) ?_
        rw [line_at (k + 100001) 1 h1 h2 b (by omega) 0 rfl (by decide) [b] rfl]
        exact line_off (k + 100000) 1 0 [b] (by simp)
      · exact told_one k 2 h1 h2 ((one_say (k + 80000)).up (by omega)) rfl b hl hb10
      · exact told_three k 3 h1 h2 (three_mail k) rfl b hl hb10
      · exact told_two k 4 h1 h2 ((two_click (k + 80000)).up (by omega)) rfl b hl hb10
      · exact told_one k 5 h1 h2 ((one_num1 (k + 96000) 5 _ (by decide) (r1 5 h2) (l1 5 h1 h2)).up (by omega)) rfl b hl hb10
      · exact told_one k 6 h1 h2 ((one_num1 (k + 96000) 6 _ (by decide) (r1 6 h2) (l1 6 h1 h2)).up (by omega)) rfl b hl hb10
      · exact told_one k 7 h1 h2 ((one_num1 (k + 96000) 7 _ (by decide) (r1 7 h2) (l1 7 h1 h2)).up (by omega)) rfl b hl hb10
      · exact told_two k 8 h1 h2 (two_bounce k) rfl b hl hb10
      · exact told_one k 9 h1 h2 ((one_num2 (k + 96000) 9 _ (by decide) (r1 9 h2) (l1 9 h1 h2)).up (by omega)) rfl b hl hb10
      · exact told_one k 10 h1 h2 ((one_num2 (k + 96000) 10 _ (by decide) (r1 10 h2) (l1 10 h1 h2)).up (by omega)) rfl b hl hb10
      · exact told_one k 11 h1 h2 ((one_yes (k + 96000) 11 _ (by decide) (r1 11 h2) (l1 11 h1 h2)).up (by omega)) rfl b hl hb10
      · exact told_one k 12 h1 h2 ((one_yes (k + 96000) 12 _ (by decide) (r1 12 h2) (l1 12 h1 h2)).up (by omega)) rfl b hl hb10
      · exact told_two k 13 h1 h2 ((two_crash (k + 80000)).up (by omega)) rfl b hl hb10
end Go.Proofs.YtcgfaagadejpmaaDoor.Q
