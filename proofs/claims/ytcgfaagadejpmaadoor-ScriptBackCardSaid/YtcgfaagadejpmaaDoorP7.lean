/- A step of fields is told, and what is shown of it has the same fields. -/
import Derived.Test.YtcgfaagadejpmaaDoorP6
import Derived.Test.YtcgfaagadejpmaaDoorQ16
namespace Go.Proofs.YtcgfaagadejpmaaDoor.Q
open Go.RowKit Go.Proofs.YtcgfaagadejpmaaDoorW.PrintWords Go.Proofs.YtcgfaagadejpmaaDoorW.PrintLast Go.Proofs.YtcgfaagadejpmaaDoorW.PrintMore Sp

theorem wrap_range (i : Int) : -9223372036854775808 ≤ wrap64 i ∧ wrap64 i ≤ 9223372036854775807 := by unfold wrap64; omega
theorem itoa_t (n : Int) (h : -9223372036854775808 ≤ n ∧ n ≤ 9223372036854775807) : ∃ y, strconv_Itoa.f n = some y := by
  unfold strconv_Itoa.f
  rw [if_pos h.1, if_pos h.2]
  exact ⟨_, rfl⟩
theorem number_l (x : ByteArray) (hx : x.size < 1000000000) : ∀ (n k i : Nat) (v : Int), i + n = x.size → n < k → (-9223372036854775808 ≤ v ∧ v ≤ 9223372036854775807) →
    ∃ r, script_number.l0 k x v (x.size : Int) (i : Int) = some r ∧ (r = -1 ∨ ∃ y, strconv_Itoa.f r = some y ∧ y.toList = x.toList)
  | 0, k, i, v, hn, hk, hv => by
    obtain ⟨k, rfl⟩ : ∃ j, k = j + 1 := ⟨k - 1, by omega⟩
    unfold script_number.l0
    rw [if_neg (by omega)]
    obtain ⟨y, hy⟩ := itoa_t v hv
    rw [hy]
    dsimp only [Option.bind_some]
    split
    · rename_i h
      split
      · exact ⟨_, rfl, .inl rfl⟩
      · exact ⟨_, rfl, .inr ⟨y, hy, h⟩⟩
    · exact ⟨_, rfl, .inl rfl⟩
  | n + 1, k, i, v, hn, hk, hv => by
    obtain ⟨k, rfl⟩ : ∃ j, k = j + 1 := ⟨k - 1, by omega⟩
    unfold script_number.l0
    rw [if_pos (by omega), if_pos (by omega), if_pos (by omega)]
    split
    · exact ⟨_, rfl, .inl rfl⟩
    split
    · exact ⟨_, rfl, .inl rfl⟩
    split
    · exact ⟨_, rfl, .inl rfl⟩
    · rw [wr1 i (by omega) (by omega)]
      exact number_l x hx n k (i + 1) _ (by omega) (by omega) (wrap_range _)
theorem number_t (x : List UInt8) (hx : x.length < 1000000000) (k : Nat) (hk : x.length < k) : ∃ r, script_number.f k (mk x) = some r ∧ (r = -1 ∨ strconv_Itoa.f r = some (mk x)) := by
  obtain ⟨r, hr, h⟩ := number_l (mk x) (by rw [size_mk]; exact hx) (mk x).size k 0 0 (by omega) (by rw [size_mk]; exact hk) (by omega)
  refine ⟨r, hr, h.imp id fun ⟨y, hy, h⟩ => ?_⟩
  rw [hy, ← mk_data y, ← Lib.toList_data y, h]
  exact congrArg (fun z => some (mk z)) (toList_mk x)
theorem kept_t (x : ByteArray) (hx : x.size < 1000000000) : ∃ b, script_kept.f x = some b := by
  unfold script_kept.f
  split
  · exact ⟨_, rfl⟩
  split
  · exact ⟨_, rfl⟩
  split
  · unfold strings_Trim.f
    rw [if_pos (by omega), if_pos (by decide), if_pos (by decide)]
    exact ⟨_, rfl⟩
  · exact ⟨_, rfl⟩
abbrev R6 := Int × ByteArray × ByteArray × ByteArray × Int × Bool
/-- What is shown of what a step told. -/
def sh (k : Nat) (r : R6) : Option ByteArray := script_Show.f k r.1 r.2.1 r.2.2.1 r.2.2.2.1 r.2.2.2.2.1
def One (k : Nat) (t : Int) (v : List UInt8) : Prop := ∀ b : List UInt8, b.length ≤ 3000 → ∃ r, script_step.f k t [mk b] = some r ∧ (r.2.2.2.2.2 = true →
  ∃ b' : List UInt8, sh k r = some (mk (v ++ 32 :: b')) ∧ script_step.f k t [mk b'] = some r ∧ ((10 : UInt8) ∉ b → (10 : UInt8) ∉ b') ∧ b'.length ≤ 4 * b.length)
def Two (k : Nat) (t : Int) (v : List UInt8) : Prop := ∀ a b : List UInt8, a.length ≤ 3000 → b.length ≤ 3000 → ∃ r, script_step.f k t [mk a, mk b] = some r ∧ (r.2.2.2.2.2 = true → sh k r = some (mk (v ++ 32 :: (a ++ 32 :: b))))
def Three (k : Nat) (t : Int) (v : List UInt8) : Prop := ∀ a d e : List UInt8, a.length ≤ 3000 → d.length ≤ 3000 → e.length ≤ 3000 → ∃ r, script_step.f k t [mk a, mk d, mk e] = some r ∧ (r.2.2.2.2.2 = true →
  ∃ e' : List UInt8, sh k r = some (mk (v ++ 32 :: (a ++ 32 :: (d ++ 32 :: e')))) ∧ script_step.f k t [mk a, mk d, mk e'] = some r ∧ ((10 : UInt8) ∉ e → (10 : UInt8) ∉ e') ∧ e'.length ≤ 4 * e.length)
theorem mk_append (a b : List UInt8) : mk a ++ mk b = mk (a ++ b) := append_list a b
theorem sp_mk : (⟨#[32]⟩ : ByteArray) = mk [32] := rfl
theorem itoa_small {n : Int} {y : List UInt8} (_h : strconv_Itoa.f n = some (mk y)) (hy : y.length ≤ 3000) : (mk y).size ≤ 3000 := by rw [size_mk]; exact hy
theorem show_num (k : Nat) (t : Int) (v : List UInt8) (ht : t = 5 ∨ t = 6 ∨ t = 7 ∨ t = 9 ∨ t = 10) (hv : rdOf ByteArray.empty Tab0 t = mk v) (hvl : v.length ≤ 7) (a b c : ByteArray) (n : Int) (y : List UInt8) (hy : strconv_Itoa.f n = some (mk y)) (hl : y.length ≤ 3000) :
    script_Show.f (k + 2) t a b c n = some (mk (v ++ 32 :: y)) := by
  have e : mk v ++ (⟨#[32]⟩ : ByteArray) ++ mk y = mk (v ++ 32 :: y) := by rw [sp_mk, mk_append, mk_append]; simp
  have s1 := size_mk v
  have s2 := size_mk y
  unfold script_Show.f
  rcases ht with rfl | rfl | rfl | rfl | rfl <;>
  · rw [if_neg (by decide), script_Show.j0, if_neg (by decide), if_pos (by decide), if_pos (by decide), hy]
    dsimp only [Option.bind_some]
    rw [if_neg (by decide), if_neg (by decide), if_neg (by decide), if_neg (by decide), if_neg (by decide), if_neg (by decide), if_neg (by decide), hv, script_Show.j1, if_neg (by decide), if_pos (by omega), if_pos (by omega), e]
theorem show_yes (k : Nat) (t : Int) (v : List UInt8) (ht : t = 11 ∨ t = 12) (hv : rdOf ByteArray.empty Tab0 t = mk v) (hvl : v.length ≤ 7) (a b c : ByteArray) :
    script_Show.f (k + 2) t a b c 1 = some (mk (v ++ 32 :: [121, 101, 115])) ∧ script_Show.f (k + 2) t a b c 0 = some (mk (v ++ 32 :: [110, 111])) := by
  have e1 : mk v ++ (⟨#[32, 121, 101, 115]⟩ : ByteArray) = mk (v ++ 32 :: [121, 101, 115]) := append_list v [32, 121, 101, 115]
  have e2 : mk v ++ (⟨#[32, 110, 111]⟩ : ByteArray) = mk (v ++ 32 :: [110, 111]) := append_list v [32, 110, 111]
  have s1 := size_mk v
  obtain ⟨y1, hy1⟩ := itoa_t 1 (by decide)
  obtain ⟨y0, hy0⟩ := itoa_t 0 (by decide)
  unfold script_Show.f
  constructor
  · rcases ht with rfl | rfl
    · rw [if_neg (by decide), script_Show.j0, if_neg (by decide), if_pos (by decide), if_pos (by decide), hy1]
      dsimp only [Option.bind_some]
      rw [if_neg (by decide), if_neg (by decide), if_neg (by decide), if_neg (by decide), if_neg (by decide), if_neg (by decide), if_pos rfl, hv, script_Show.j1, if_pos (by decide), if_pos rfl, if_pos (by omega), e1]
    · rw [if_neg (by decide), script_Show.j0, if_neg (by decide), if_pos (by decide), if_pos (by decide), hy1]
      dsimp only [Option.bind_some]
      rw [if_neg (by decide), if_neg (by decide), if_neg (by decide), if_neg (by decide), if_neg (by decide), if_neg (by decide), if_neg (by decide), hv, script_Show.j1, if_pos (by decide), if_pos rfl, if_pos (by omega), e1]
  · rcases ht with rfl | rfl
    · rw [if_neg (by decide), script_Show.j0, if_neg (by decide), if_pos (by decide), if_pos (by decide), hy0]
      dsimp only [Option.bind_some]
      rw [if_neg (by decide), if_neg (by decide), if_neg (by decide), if_neg (by decide), if_neg (by decide), if_neg (by decide), if_pos rfl, hv, script_Show.j1, if_pos (by decide), if_neg (by decide), if_pos (by omega), e2]
    · rw [if_neg (by decide), script_Show.j0, if_neg (by decide), if_pos (by decide), if_pos (by decide), hy0]
      dsimp only [Option.bind_some]
      rw [if_neg (by decide), if_neg (by decide), if_neg (by decide), if_neg (by decide), if_neg (by decide), if_neg (by decide), if_neg (by decide), hv, script_Show.j1, if_pos (by decide), if_neg (by decide), if_pos (by omega), e2]
theorem rd1 (b : List UInt8) (l : List ByteArray) : rdOf ByteArray.empty (mk b :: l) 0 = mk b := rfl
theorem rd2 (a : ByteArray) (b : List UInt8) (l : List ByteArray) : rdOf ByteArray.empty (a :: mk b :: l) 1 = mk b := rfl
theorem rd3 (a c : ByteArray) (b : List UInt8) (l : List ByteArray) : rdOf ByteArray.empty (a :: c :: mk b :: l) 2 = mk b := rfl
theorem one_num1 (k : Nat) (t : Int) (v : List UInt8) (ht : t = 5 ∨ t = 6 ∨ t = 7) (hv : rdOf ByteArray.empty Tab0 t = mk v) (hvl : v.length ≤ 7) : One (k + 4000) t v := by
  intro b hb
  obtain ⟨n, hn, hn2⟩ := number_t b (by omega) (k + 3999) (by omega)
  have hs : script_step.f (k + 4000) t [mk b] = if n ≥ 1 then some (t, mk [], mk [], mk [], n, decide (n ≤ 1000)) else some (t, mk [], mk [], mk [], n, false) := by
    unfold script_step.f
    rcases ht with rfl | rfl | rfl
    · rw [if_neg (by decide), if_neg (by decide), if_neg (by decide), if_neg (by decide), if_neg (by decide), if_pos rfl, script_step.j0, if_pos (by decide), if_pos (by simp), rd1, hn]
      rfl
    · rw [if_neg (by decide), if_neg (by decide), if_neg (by decide), if_neg (by decide), if_neg (by decide), if_neg (by decide), if_pos rfl, script_step.j0, if_pos (by decide), if_pos (by simp), rd1, hn]
      rfl
    · rw [if_neg (by decide), if_neg (by decide), if_neg (by decide), if_neg (by decide), if_neg (by decide), if_neg (by decide), if_neg (by decide), script_step.j0, if_pos (by decide), if_pos (by simp), rd1, hn]
      rfl
  rw [hs]
  by_cases h1 : n ≥ 1
  · rw [if_pos h1]
    refine ⟨_, rfl, fun _ => ⟨b, ?_, by rw [hs, if_pos h1], id, by omega⟩⟩
    exact show_num (k + 3998) t v (by rcases ht with h | h | h <;> simp [h]) hv hvl _ _ _ n b (hn2.resolve_left (by omega)) hb
  · rw [if_neg h1]
    exact ⟨_, rfl, fun e => by cases e⟩
theorem one_num2 (k : Nat) (t : Int) (v : List UInt8) (ht : t = 9 ∨ t = 10) (hv : rdOf ByteArray.empty Tab0 t = mk v) (hvl : v.length ≤ 7) : One (k + 4000) t v := by
  intro b hb
  obtain ⟨n, hn, hn2⟩ := number_t b (by omega) (k + 3998) (by omega)
  have hs : script_step.f (k + 4000) t [mk b] = some (t, mk [], mk [], mk [], n, decide (n ≥ 0)) := by
    unfold script_step.f
    rcases ht with rfl | rfl
    · rw [if_neg (by decide), if_neg (by decide), if_neg (by decide), if_neg (by decide), if_neg (by decide), if_neg (by decide), if_neg (by decide), script_step.j0, if_neg (by decide), if_pos rfl, script_step.j1, if_pos (by decide), if_pos (by simp), rd1, hn]
      rfl
    · rw [if_neg (by decide), if_neg (by decide), if_neg (by decide), if_neg (by decide), if_neg (by decide), if_neg (by decide), if_neg (by decide), script_step.j0, if_neg (by decide), if_neg (by decide), script_step.j1, if_pos (by decide), if_pos (by simp), rd1, hn]
      rfl
  refine ⟨_, hs, fun h => ⟨b, ?_, hs, id, by omega⟩⟩
  have h0 : n ≥ 0 := of_decide_eq_true h
  exact show_num (k + 3998) t v (by rcases ht with h | h <;> simp [h]) hv hvl _ _ _ n b (hn2.resolve_left (by omega)) hb
theorem one_yes (k : Nat) (t : Int) (v : List UInt8) (ht : t = 11 ∨ t = 12) (hv : rdOf ByteArray.empty Tab0 t = mk v) (hvl : v.length ≤ 7) : One (k + 4000) t v := by
  intro b hb
  have hs : script_step.f (k + 4000) t [mk b] = if b = [121, 101, 115] then some (t, mk [], mk [], mk [], 1, true) else some (t, mk [], mk [], mk [], 0, b == [110, 111]) := by
    unfold script_step.f
    rcases ht with rfl | rfl
    · rw [if_neg (by decide), if_neg (by decide), if_neg (by decide), if_neg (by decide), if_neg (by decide), if_neg (by decide), if_neg (by decide), script_step.j0, if_neg (by decide), if_neg (by decide), script_step.j1, if_neg (by decide), if_pos rfl, script_step.j2, if_pos (by decide), if_pos (by simp), rd1, show (mk b).toList = b from toList_mk b]
      rfl
    · rw [if_neg (by decide), if_neg (by decide), if_neg (by decide), if_neg (by decide), if_neg (by decide), if_neg (by decide), if_neg (by decide), script_step.j0, if_neg (by decide), if_neg (by decide), script_step.j1, if_neg (by decide), if_neg (by decide), script_step.j2, if_pos (by decide), if_pos (by simp), rd1, show (mk b).toList = b from toList_mk b]
      rfl
  have hsh := show_yes (k + 3998) t v ht hv hvl (mk []) (mk []) (mk [])
  rw [hs]
  by_cases h1 : b = [121, 101, 115]
  · rw [if_pos h1]
    refine ⟨_, rfl, fun _ => ⟨b, ?_, by rw [hs, if_pos h1], id, by omega⟩⟩
    rw [h1]
    exact hsh.1
  · rw [if_neg h1]
    refine ⟨_, rfl, fun h => ⟨b, ?_, by rw [hs, if_neg h1], id, by omega⟩⟩
    have h2 : b = [110, 111] := beq_iff_eq.1 h
    rw [h2]
    exact hsh.2
theorem un_ne {b m : List UInt8} (hb : b ≠ []) (h : un b = some m) : m ≠ [] := by
  cases b with
  | nil => exact absurd rfl hb
  | cons c r =>
    rw [un_cons] at h
    split at h
    · obtain ⟨p, _, h⟩ := Option.bind_eq_some_iff.mp h
      obtain ⟨q, _, rfl⟩ := Option.map_eq_some_iff.mp h
      simp
    · split at h
      · cases h
      · obtain ⟨q, _, rfl⟩ := Option.map_eq_some_iff.mp h
        simp
theorem esc_ne {m : List UInt8} (h : m ≠ []) : m.flatMap script_Escape.esc ≠ [] := by
  cases m with
  | nil => exact absurd rfl h
  | cons c r =>
    intro e
    have h2 : script_Escape.esc c = [] := by
      rw [List.flatMap_cons] at e
      exact (List.append_eq_nil_iff.1 e).1
    have h3 : ∀ c : UInt8, script_Escape.esc c ≠ [] := fun c => by
      unfold script_Escape.esc
      repeat' split
      all_goals simp
    exact h3 c h2
theorem esc_10 (m : List UInt8) : (10 : UInt8) ∉ m.flatMap script_Escape.esc := fun h => by
  have := flat_range m 10 h
  exact absurd this.1 (by decide)
theorem one_say (k : Nat) : One (k + 20000) 2 (verb 2) := by
  intro b hb
  have hu := unescape_f b (k + 20000) (by omega) (by omega)
  have hv : rdOf ByteArray.empty Tab0 2 = mk (verb 2) := rd_verb 2
  have hvl : (mk (verb 2)).size = 3 := by rw [size_mk]; rfl
  have hs : ∀ b : List UInt8, script_step.f (k + 20000) 2 [mk b] = (script_Unescape.f (k + 20000) (mk b)).bind fun bt244 => (if bt244.2 = true then (some ((2 : Int), mk [], mk [], bt244.1, (0 : Int), b != [])) else (some (2, mk [], mk [], bt244.1, 0, false))) := fun b => by
    unfold script_step.f
    rw [if_neg (by decide), if_pos rfl, if_pos (by simp), rd1, show (mk b).toList = b from toList_mk b]
    rfl
  cases hm : un b with
  | none =>
    rw [hm] at hu
    exact ⟨_, by rw [hs, show script_Unescape.f (k + 20000) (mk b) = _ from hu]; rfl, fun e => by cases e⟩
  | some m =>
    rw [hm] at hu
    have hl : m.length ≤ b.length := un_len _ _ _ (Nat.le_refl _) hm
    have hf := flat_len m
    have h1 : script_step.f (k + 20000) 2 [mk b] = some (2, mk [], mk [], mk m, 0, b != []) := by
      rw [hs, show script_Unescape.f (k + 20000) (mk b) = _ from hu]
      rfl
    refine ⟨_, h1, fun h => ?_⟩
    have hb0 : b ≠ [] := by simpa using h
    have hu2 := unescape_f (m.flatMap script_Escape.esc) (k + 20000) (by omega) (by omega)
    rw [un_flat] at hu2
    refine ⟨m.flatMap script_Escape.esc, ?_, ?_, fun _ => esc_10 m, by omega⟩
    · show script_Show.f (k + 19999 + 1) 2 (mk []) (mk []) (mk m) 0 = _
      obtain ⟨y0, hy0⟩ := itoa_t 0 (by decide)
      unfold script_Show.f
      rw [if_neg (by decide), script_Show.j0, if_neg (by decide), if_pos (by decide), if_pos (by decide), hy0]
      dsimp only [Option.bind_some]
      rw [if_neg (by decide), if_pos rfl, hv, if_pos (by omega), show script_Escape.f (mk m) = some (mk (m.flatMap script_Escape.esc)) from escape_eq m (by omega)]
      dsimp only [Option.bind_some]
      rw [size_mk (m.flatMap script_Escape.esc), if_pos (by omega), sp_mk]
      simp only [mk_append]
      simp
    · rw [hs, show script_Unescape.f (k + 20000) (mk (m.flatMap script_Escape.esc)) = _ from hu2]
      have e1 : (m.flatMap script_Escape.esc != []) = (b != []) := by
        rw [bne_iff_ne.mpr (esc_ne (un_ne hb0 hm)), bne_iff_ne.mpr hb0]
      show some ((2 : Int), mk [], mk [], mk m, (0 : Int), (m.flatMap script_Escape.esc != [])) = _
      rw [e1]
theorem two_click (k : Nat) : Two (k + 20000) 4 (verb 4) := by
  intro a b ha hb
  have hv : rdOf ByteArray.empty Tab0 4 = mk (verb 4) := rd_verb 4
  have hvl : (mk (verb 4)).size = 5 := by rw [size_mk]; rfl
  obtain ⟨wa, hwa⟩ := word_t (mk a) (by rw [size_mk]; omega) (k + 20000) (by rw [size_mk]; omega)
  obtain ⟨wb, hwb⟩ := word_t (mk b) (by rw [size_mk]; omega) (k + 20000) (by rw [size_mk]; omega)
  have hs : ∃ o, script_step.f (k + 20000) 4 [mk a, mk b] = some (4, mk [], mk a, mk b, 0, o) := by
    unfold script_step.f
    rw [if_neg (by decide), if_neg (by decide), if_neg (by decide), if_pos rfl, if_pos (by simp), if_pos (by simp), rd1, rd2, hwa, hwb]
    dsimp only [Option.bind_some]
    split <;> exact ⟨_, rfl⟩
  obtain ⟨o, hs⟩ := hs
  refine ⟨_, hs, fun _ => ?_⟩
  have s1 := size_mk a
  have s2 := size_mk b
  show script_Show.f (k + 19999 + 1) 4 (mk []) (mk a) (mk b) 0 = _
  obtain ⟨y0, hy0⟩ := itoa_t 0 (by decide)
  unfold script_Show.f
  rw [if_neg (by decide), script_Show.j0, if_neg (by decide), if_pos (by decide), if_pos (by decide), hy0]
  dsimp only [Option.bind_some]
  rw [if_neg (by decide), if_neg (by decide), if_neg (by decide), if_pos rfl, hv, if_pos (by omega), if_pos (by omega), if_pos (by omega), if_pos (by omega), sp_mk]
  simp only [mk_append]
  simp
theorem two_bounce (k : Nat) : Two (k + 100000) 8 (verb 8) := by
  intro a b ha hb
  have hv : rdOf ByteArray.empty Tab0 8 = mk (verb 8) := rd_verb 8
  have hvl : (mk (verb 8)).size = 6 := by rw [size_mk]; rfl
  obtain ⟨wa, hwa⟩ := word_t (mk a) (by rw [size_mk]; omega) (k + 100000) (by rw [size_mk]; omega)
  obtain ⟨wb, hwb⟩ := address_t (mk b) (by rw [size_mk]; omega) (k + 100000) (by rw [size_mk]; omega)
  have hs : ∃ o, script_step.f (k + 100000) 8 [mk a, mk b] = some (8, mk b, mk a, mk [], 0, o) := by
    unfold script_step.f
    rw [if_neg (by decide), if_neg (by decide), if_neg (by decide), if_neg (by decide), if_pos rfl, if_pos (by simp), if_pos (by simp), rd1, rd2, hwa, hwb]
    dsimp only [Option.bind_some]
    split <;> exact ⟨_, rfl⟩
  obtain ⟨o, hs⟩ := hs
  refine ⟨_, hs, fun _ => ?_⟩
  have s1 := size_mk a
  have s2 := size_mk b
  show script_Show.f (k + 99999 + 1) 8 (mk b) (mk a) (mk []) 0 = _
  obtain ⟨y0, hy0⟩ := itoa_t 0 (by decide)
  unfold script_Show.f
  rw [if_neg (by decide), script_Show.j0, if_neg (by decide), if_pos (by decide), if_pos (by decide), hy0]
  dsimp only [Option.bind_some]
  rw [if_neg (by decide), if_neg (by decide), if_neg (by decide), if_neg (by decide), if_pos rfl, hv, if_pos (by omega), if_pos (by omega), if_pos (by omega), if_pos (by omega), sp_mk]
  simp only [mk_append]
  simp
theorem two_crash (k : Nat) : Two (k + 20000) 13 (verb 13) := by
  intro a b ha hb
  have hv : rdOf ByteArray.empty Tab0 13 = mk (verb 13) := rd_verb 13
  have hvl : (mk (verb 13)).size = 5 := by rw [size_mk]; rfl
  obtain ⟨n, hn, hn2⟩ := number_t b (by omega) (k + 19997) (by omega)
  obtain ⟨w, hw⟩ := kept_t (mk a) (by rw [size_mk]; omega)
  have hs : ∃ o, script_step.f (k + 20000) 13 [mk a, mk b] = some (13, mk [], mk [], mk a, n, o) ∧ (o = true → n ≥ 0) := by
    unfold script_step.f
    rw [if_neg (by decide), if_neg (by decide), if_neg (by decide), if_neg (by decide), if_neg (by decide), if_neg (by decide), if_neg (by decide), script_step.j0, if_neg (by decide), if_neg (by decide), script_step.j1, if_neg (by decide), if_neg (by decide), script_step.j2, if_neg (by decide), if_pos rfl, if_pos (by simp), if_pos (by simp), rd1, rd2, hn, hw]
    dsimp only [Option.bind_some]
    split
    · exact ⟨_, rfl, fun e => of_decide_eq_true e⟩
    · exact ⟨_, rfl, fun e => by cases e⟩
  obtain ⟨o, hs, ho⟩ := hs
  refine ⟨_, hs, fun h => ?_⟩
  have s1 := size_mk a
  have s2 := size_mk b
  show script_Show.f (k + 19999 + 1) 13 (mk []) (mk []) (mk a) n = _
  have := ho h
  unfold script_Show.f
  rw [if_neg (by decide), script_Show.j0, if_neg (by decide), if_pos (by decide), if_pos (by decide), hn2.resolve_left (by omega)]
  dsimp only [Option.bind_some]
  rw [if_neg (by decide), if_neg (by decide), if_neg (by decide), if_neg (by decide), if_neg (by decide), if_pos rfl, hv, if_pos (by omega), if_pos (by omega), if_pos (by omega), if_pos (by omega), sp_mk]
  simp only [mk_append]
  simp
theorem three_mail (k : Nat) : Three (k + 100000) 3 (verb 3) := by
  intro a d e ha hd he
  have hv : rdOf ByteArray.empty Tab0 3 = mk (verb 3) := rd_verb 3
  have hvl : (mk (verb 3)).size = 4 := by rw [size_mk]; rfl
  have s1 := size_mk a
  have s2 := size_mk d
  obtain ⟨wa, hwa⟩ := address_t (mk a) (by omega) (k + 100000) (by omega)
  obtain ⟨wd, hwd⟩ := all_t (mk d) (by omega) (k + 100000) (by omega)
  have hs : ∃ q : Bool, ∀ e : List UInt8, script_step.f (k + 100000) 3 [mk a, mk d, mk e] = (script_Unescape.f (k + 100000) (mk e)).bind fun bt250 => some ((3 : Int), mk a, mk d, bt250.1, (0 : Int), bt250.2 && (e != [] && q)) := by
    refine ⟨if a = [45] then wd else wa && wd, fun e => ?_⟩
    unfold script_step.f
    rw [if_neg (by decide), if_neg (by decide), if_pos rfl, if_pos (by simp), if_pos (by simp), if_pos (by simp), rd1, rd2, rd3, hwa, hwd, show (mk e).toList = e from toList_mk e, show (mk a).toList = a from toList_mk a]
    refine congrArg _ (funext fun bt => ?_)
    dsimp only [Option.bind_some]
    cases bt.2 with
    | false => rw [if_neg (by decide)]; rfl
    | true =>
      rw [if_pos rfl]
      by_cases he0 : e = []
      · rw [if_pos he0, he0]; rfl
      · rw [if_neg he0, bne_iff_ne.mpr he0]
        by_cases ha0 : a = [45]
        · rw [if_pos ha0, if_pos ha0]; rfl
        · rw [if_neg ha0, if_neg ha0]
          cases wa <;> rfl
  obtain ⟨q, hs⟩ := hs
  have hu := unescape_f e (k + 100000) (by omega) (by omega)
  cases hm : un e with
  | none =>
    rw [hm] at hu
    exact ⟨_, by rw [hs, show script_Unescape.f (k + 100000) (mk e) = _ from hu]; rfl, fun h => by cases h⟩
  | some m =>
    rw [hm] at hu
    have hl : m.length ≤ e.length := un_len _ _ _ (Nat.le_refl _) hm
    have hf := flat_len m
    have h1 : script_step.f (k + 100000) 3 [mk a, mk d, mk e] = some (3, mk a, mk d, mk m, 0, e != [] && q) := by
      rw [hs, show script_Unescape.f (k + 100000) (mk e) = _ from hu]
      rfl
    refine ⟨_, h1, fun h => ?_⟩
    have h' : (e != [] && q) = true := h
    rw [Bool.and_eq_true] at h'
    have hb0 : e ≠ [] := bne_iff_ne.1 h'.1
    have hu2 := unescape_f (m.flatMap script_Escape.esc) (k + 100000) (by omega) (by omega)
    rw [un_flat] at hu2
    refine ⟨m.flatMap script_Escape.esc, ?_, ?_, fun _ => esc_10 m, by omega⟩
    · show script_Show.f (k + 99999 + 1) 3 (mk a) (mk d) (mk m) 0 = _
      obtain ⟨y0, hy0⟩ := itoa_t 0 (by decide)
      unfold script_Show.f
      rw [if_neg (by decide), script_Show.j0, if_neg (by decide), if_pos (by decide), if_pos (by decide), hy0]
      dsimp only [Option.bind_some]
      rw [if_neg (by decide), if_neg (by decide), if_pos rfl, hv, if_pos (by omega), if_pos (by omega), if_pos (by omega), if_pos (by omega), if_pos (by omega), show script_Escape.f (mk m) = some (mk (m.flatMap script_Escape.esc)) from escape_eq m (by omega)]
      dsimp only [Option.bind_some]
      rw [size_mk (m.flatMap script_Escape.esc), if_pos (by omega), sp_mk]
      simp only [mk_append]
      simp
    · rw [hs, show script_Unescape.f (k + 100000) (mk (m.flatMap script_Escape.esc)) = _ from hu2]
      have e1 : (m.flatMap script_Escape.esc != []) = (e != []) := by
        rw [bne_iff_ne.mpr (esc_ne (un_ne hb0 hm)), bne_iff_ne.mpr hb0]
      show some ((3 : Int), mk a, mk d, mk m, (0 : Int), (m.flatMap script_Escape.esc != [] && q)) = _
      rw [e1]
end Go.Proofs.YtcgfaagadejpmaaDoor.Q
