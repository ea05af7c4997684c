/- The document's escaping, its numbers, its texts of bytes: as the program's; plain. -/
import Derived.Test.YtcgfaagadejpmaaGreatDoorP1
import Derived.Test.YtcgfaagadejpmaaGreatDoorQ16
import Derived.Test.YtcgfaagadejpmaaGreatDoorQ17
import Derived.Test.YtcgfaagadejpmaaGreatDoorQ4
import Derived.Test.YtcgfaagadejpmaaGreatDoorQ18
namespace Go.Proofs.YtcgfaagadejpmaaGreatDoor.Q
open Go.RowKit Go.Proofs.YtcgfaagadejpmaaGreatDoorW.PrintWords Go.Proofs.YtcgfaagadejpmaaGreatDoorW.PrintLast Go.Proofs.YtcgfaagadejpmaaGreatDoorW.PrintMore

def mk (l : List UInt8) : ByteArray := ⟨l.toArray⟩
theorem mk_append (a b : List UInt8) : mk a ++ mk b = mk (a ++ b) := by
  apply ByteArray.ext
  simp [mk]
theorem size_mk (l : List UInt8) : (mk l).size = l.length := size_list l
theorem wr1 (i : Nat) (h : i < 4611686018427387904) : wrap64 ((i : Int) + 1) = ((i + 1 : Nat) : Int) := by unfold wrap64; omega
theorem wr2 (i : Nat) (h : i < 4611686018427387904) : wrap64 ((i : Int) + 2) = ((i + 2 : Nat) : Int) := by unfold wrap64; omega
theorem wr3 (i j : Nat) (h : i + j < 4611686018427387904) : wrap64 ((i : Int) + (j : Int)) = ((i + j : Nat) : Int) := by unfold wrap64; omega
theorem value_is (c : UInt8) (k : Nat) (hk : 2 ≤ k) : bulletinref48_value.f k (c.toNat : Int) = some ((Option.map (fun x : Nat => (x : Int)) (hexv c)).getD (-1)) := by
  obtain ⟨k, rfl⟩ : ∃ j, k = j + 1 := ⟨k - 1, by omega⟩
  have := c.toNat_lt
  unfold bulletinref48_value.f hexv
  by_cases h1 : 48 ≤ c.toNat ∧ c.toNat ≤ 57
  · rw [if_pos (by omega), decide_eq_true (by omega), bulletinref48_value.j0, if_pos rfl, if_pos h1]
    refine congrArg some ?_
    simp only [Option.map_some, Option.getD_some]
    unfold wrap64
    omega
  · have hj : bulletinref48_value.j0 (k + 1) (c.toNat : Int) false = some ((Option.map (fun x : Nat => (x : Int)) (if 48 ≤ c.toNat ∧ c.toNat ≤ 57 then some (c.toNat - 48) else if 97 ≤ c.toNat ∧ c.toNat ≤ 102 then some (c.toNat - 87) else none)).getD (-1)) := by
      rw [bulletinref48_value.j0, if_neg (by decide), if_neg h1]
      by_cases h2 : 97 ≤ c.toNat
      · rw [if_pos (by omega)]
        by_cases h3 : c.toNat ≤ 102
        · rw [if_pos (by omega), if_pos ⟨h2, h3⟩]
          refine congrArg some ?_
          simp only [Option.map_some, Option.getD_some]
          unfold wrap64
          omega
        · rw [if_neg (by omega), if_neg (by omega)]
          rfl
      · rw [if_neg (by omega), if_neg (by omega)]
        rfl
    by_cases h2 : 48 ≤ c.toNat
    · rw [if_pos (by omega), decide_eq_false (by omega)]; exact hj
    · rw [if_neg (by omega)]; exact hj
theorem hexv_pos (c : UInt8) : (Option.map (fun x : Nat => (x : Int)) (hexv c)).getD (-1) ≥ 0 ↔ ∃ x, hexv c = some x := by
  cases h : hexv c with
  | none => simp
  | some x => simp
theorem byte_is {a b : Nat} (_ha : a < 16) (_hb : b < 16) : strOfNums [(wrap64 ((wrap64 (16 * (a : Int))) + (b : Int))) % 256] = mk [(16 * a + b).toUInt8] := by
  have : (wrap64 ((wrap64 (16 * (a : Int))) + (b : Int))) % 256 = (((16 * a + b).toUInt8.toNat : Nat) : Int) := by
    have e : (16 * a + b).toUInt8.toNat = (16 * a + b) % 256 := rfl
    rw [e]
    unfold wrap64
    omega
  rw [this]
  exact strOfNums_map [(16 * a + b).toUInt8]
theorem drop_at (l : List UInt8) (i : Nat) (h : i < l.length) : l.drop i = l[i] :: l.drop (i + 1) := List.drop_eq_getElem_cons h
theorem extract_one (l : List UInt8) (i : Nat) (h : i < l.length) : (mk l).extract i (i + 1) = mk [l[i]] := by
  apply ByteArray.ext
  apply Array.toList_inj.1
  rw [Lib.extract_data]
  show (l.drop i).take (i + 1 - i) = [l[i]]
  rw [drop_at l i h, show i + 1 - i = 1 by omega]
  rfl
theorem un_nil : un [] = some [] := rfl
theorem refUn (l : List UInt8) (hl : l.length < 1000000) : ∀ (n i k : Nat) (acc : List UInt8), i + n = l.length → 3 * n + 5 < k → acc.length ≤ i →
    bulletinref48_Unescape.l0 k (mk l) (mk acc) (i : Int) = some (match un (l.drop i) with | none => (mk [], false) | some m => (mk (acc ++ m), true)) := by
  intro n
  induction n using Nat.strongRecOn with
  | _ n ih =>
    intro i k acc hi hk ha
    obtain ⟨k, rfl⟩ : ∃ j, k = j + 3 := ⟨k - 3, by omega⟩
    by_cases hn : n = 0
    · subst hn
      obtain rfl : i = l.length := by omega
      rw [List.drop_length, un_nil, bulletinref48_Unescape.l0, if_neg (by rw [size_mk]; omega)]
      simp
    have hlt : i < l.length := by omega
    have hbt : bt (mk l) (i : Int) = ((l[i]'hlt).toNat : Int) := bt_list l i hlt
    have c256 := (l[i]'hlt).toNat_lt
    rw [drop_at l i hlt, un_cons]
    rw [bulletinref48_Unescape.l0, if_pos (by rw [size_mk]; omega), if_pos (by omega), hbt]
    have bad : ∀ q, bulletinref48_Unescape.j1 (k + 2) (mk l) (mk acc) (i : Int) true = q → q = some (mk [], false) := by
      intro q h
      rw [← h, bulletinref48_Unescape.j1, if_pos rfl]
      rfl
    have good : ¬ (l[i]'hlt).toNat < 32 → ¬ 126 < (l[i]'hlt).toNat → bulletinref48_Unescape.j1 (k + 2) (mk l) (mk acc) (i : Int) false = some (match (if (l[i]'hlt).toNat = 92 then (sgn (l.drop (i + 1))).bind fun p => (un ((l.drop (i + 1)).drop p.2)).map (p.1 :: ·) else if (l[i]'hlt).toNat < 32 ∨ 126 < (l[i]'hlt).toNat then none else (un (l.drop (i + 1))).map ((l[i]'hlt) :: ·)) with | none => (mk [], false) | some m => (mk (acc ++ m), true)) := by
      intro h1 h2
      rw [bulletinref48_Unescape.j1, if_neg (by decide), if_pos (by omega), if_pos (by rw [size_mk]; omega), hbt]
      by_cases h92 : (l[i]'hlt).toNat = 92
      · rw [if_pos (by omega), if_pos h92, wr1 i (by omega)]
        by_cases he : i + 1 = l.length
        · rw [if_pos (by rw [size_mk]; omega), he, List.drop_length]
          rfl
        have hlt1 : i + 1 < l.length := by omega
        have hbt1 : bt (mk l) ((i + 1 : Nat) : Int) = ((l[i + 1]'hlt1).toNat : Int) := bt_list l (i + 1) hlt1
        rw [if_neg (by rw [size_mk]; omega), if_pos (by omega), if_pos (by rw [size_mk]; omega), hbt1, drop_at l (i + 1) hlt1, sgn_cons]
        have step1 : ∀ (v : UInt8) (x : ByteArray), x = mk [v] → bulletinref48_Unescape.l0 (k + 1) (mk l) (mk acc ++ x) ((i + 1 + 1 : Nat) : Int) = some (match (un (l.drop (i + 1 + 1))).map (v :: ·) with | none => (mk [], false) | some m => (mk (acc ++ m), true)) := by
          intro v x hx
          rw [hx, mk_append, ih (n - 2) (by omega) (i + 1 + 1) (k + 1) (acc ++ [v]) (by omega) (by omega) (by simp; omega)]
          cases un (l.drop (i + 1 + 1)) with
          | none => rfl
          | some m => simp
        by_cases h114 : (l[i + 1]'hlt1).toNat = 114
        · rw [if_pos (by omega), if_pos h114, if_pos (by rw [size_mk]; omega), wr1 (i + 1) (by omega)]
          exact step1 13 _ rfl
        rw [if_neg (by omega), if_neg h114]
        by_cases h110 : (l[i + 1]'hlt1).toNat = 110
        · rw [if_pos (by omega), if_pos h110, if_pos (by rw [size_mk]; omega), wr1 (i + 1) (by omega)]
          exact step1 10 _ rfl
        rw [if_neg (by omega), if_neg h110]
        by_cases h92' : (l[i + 1]'hlt1).toNat = 92
        · rw [if_pos (by omega), if_pos h92', if_pos (by rw [size_mk]; omega), wr1 (i + 1) (by omega)]
          exact step1 92 _ rfl
        rw [if_neg (by omega), if_neg h92']
        have j2f : ∀ z : Int, bulletinref48_Unescape.j2 (k + 1) (mk l) (mk acc) z false = some (mk [], false) := by
          intro z
          rw [bulletinref48_Unescape.j2, if_neg (by decide)]
          rfl
        by_cases h120 : (l[i + 1]'hlt1).toNat = 120
        · rw [if_pos (by omega), if_pos h120, wr2 (i + 1) (by omega)]
          by_cases hs : i + 3 < l.length
          · have hlt2 : i + 2 < l.length := by omega
            have hbt2 : bt (mk l) ((i + 1 + 1 : Nat) : Int) = ((l[i + 2]'hlt2).toNat : Int) := bt_list l (i + 2) hlt2
            have hbt3 : bt (mk l) ((i + 1 + 2 : Nat) : Int) = ((l[i + 3]'hs).toNat : Int) := bt_list l (i + 3) hs
            rw [if_pos (by rw [size_mk]; omega), wr1 (i + 1) (by omega), if_pos (by omega), if_pos (by rw [size_mk]; omega), hbt2, hbt3, value_is _ _ (by omega), value_is _ _ (by omega)]
            dsimp only [Option.bind_some]
            rw [drop_at l (i + 1 + 1) hlt2, show l.drop (i + 1 + 1 + 1) = l[i + 3] :: l.drop (i + 3 + 1) from drop_at l (i + 3) hs]
            dsimp only
            cases hx : hexv (l[i + 1 + 1]'hlt2) with
            | none =>
              rw [if_neg (by decide), j2f]
              rfl
            | some x =>
              have hx' : hexv (l[i + 2]'hlt2) = some x := hx
              rw [if_pos (by simp), if_pos (by omega)]
              cases hy : hexv (l[i + 3]'hs) with
              | none =>
                rw [show decide (((Option.map (fun x : Nat => (x : Int)) (none : Option Nat)).getD (-1)) ≥ 0) = false from rfl, j2f]
                rfl
              | some y =>
                have x16 := hexv_lt hx
                have y16 := hexv_lt hy
                rw [show decide (((Option.map (fun x : Nat => (x : Int)) (some y)).getD (-1)) ≥ 0) = true from by simp]
                rw [bulletinref48_Unescape.j2, if_pos rfl, wr1 (i + 1) (by omega), if_pos (by omega), if_pos (by rw [size_mk]; omega), hbt2, value_is _ _ (by omega), wr2 (i + 1) (by omega)]
                dsimp only [Option.bind_some]
                rw [if_pos (by omega), if_pos (by rw [size_mk]; omega), hbt3, value_is _ _ (by omega), hx', hy]
                dsimp only [Option.bind_some, Option.map_some, Option.getD_some]
                simp only [byte_is x16 y16]
                rw [size_mk, size_mk, if_pos (by simp; omega), mk_append, wr1 (i + 1 + 2) (by omega), ih (n - 4) (by omega) (i + 1 + 2 + 1) k (acc ++ [(16 * x + y).toUInt8]) (by omega) (by omega) (by simp; omega)]
                have e3 : (l[i + 1] :: l[i + 1 + 1] :: l[i + 3] :: l.drop (i + 3 + 1)).drop 3 = l.drop (i + 1 + 2 + 1) := rfl
                rw [e3]
                cases un (l.drop (i + 1 + 2 + 1)) with
                | none => rfl
                | some m => simp
          · rw [if_neg (by rw [size_mk]; omega), j2f]
            have hr2 : (l.drop (i + 1 + 1)).length < 2 := by simp; omega
            generalize l.drop (i + 1 + 1) = r at hr2 ⊢
            rcases r with _ | ⟨a, _ | ⟨b, r⟩⟩
            · rfl
            · rfl
            · simp at hr2
              omega
        · rw [if_neg (by omega), if_neg h120, j2f]
          rfl
      · rw [if_neg (by omega), if_neg h92, if_neg (show ¬ ((l[i]'hlt).toNat < 32 ∨ 126 < (l[i]'hlt).toNat) by omega), wr1 i (by omega)]
        rw [if_pos (by omega), if_pos (by rw [size_mk]; omega), Int.toNat_natCast, Int.toNat_natCast, extract_one l i hlt, size_mk, size_mk, if_pos (by simp; omega), mk_append, ih (n - 1) (by omega) (i + 1) (k + 1) (acc ++ [l[i]'hlt]) (by omega) (by omega) (by simp; omega)]
        cases un (l.drop (i + 1)) with
        | none => rfl
        | some m => simp
    by_cases h1 : (l[i]'hlt).toNat < 32
    · rw [if_pos (by omega), bad _ rfl, if_neg (by omega), if_pos (.inl h1)]
    · rw [if_neg (by omega)]
      by_cases h2 : 126 < (l[i]'hlt).toNat
      · rw [decide_eq_true (by omega), bad _ rfl, if_neg (by omega), if_pos (.inr h2)]
      · rw [decide_eq_false (by omega)]
        exact good h1 h2
theorem refUn_f (l : List UInt8) (hl : l.length < 1000000) (k : Nat) (hk : 3 * l.length + 5 < k) : bulletinref48_Unescape.f k (mk l) = some (match un l with | none => (mk [], false) | some m => (mk m, true)) :=
  refUn l hl l.length 0 k [] (Nat.zero_add _) hk (Nat.zero_le _)
theorem hx_is : ∀ n < 16, bulletinref48_hex.f ((n : Nat) : Int) = some (mk [script_Escape.hx n]) := by decide +kernel
theorem refEsc (l : List UInt8) (hl : l.length < 1000000) : ∀ (n i k : Nat) (acc : List UInt8), i + n = l.length → 2 * n + 2 < k → acc.length ≤ 4 * i →
    bulletinref48_Escape.l0 k (mk l) (mk acc) (i : Int) = some (mk (acc ++ (l.drop i).flatMap script_Escape.esc))
  | 0, i, k, acc, hi, hk, ha => by
    obtain ⟨k, rfl⟩ : ∃ j, k = j + 1 := ⟨k - 1, by omega⟩
    obtain rfl : i = l.length := by omega
    rw [bulletinref48_Escape.l0, if_neg (by rw [size_mk]; omega)]
    simp
  | n + 1, i, k, acc, hi, hk, ha => by
    obtain ⟨k, rfl⟩ : ∃ j, k = j + 2 := ⟨k - 2, by omega⟩
    have hlt : i < l.length := by omega
    have hbt : bt (mk l) (i : Int) = ((l[i]'hlt).toNat : Int) := bt_list l i hlt
    have c256 := (l[i]'hlt).toNat_lt
    have ih := fun (k' : Nat) (hk' : 2 * n + 2 < k') (e : List UInt8) (he : e.length ≤ 4) => refEsc l hl n (i + 1) k' (acc ++ e) (by omega) hk' (by simp; omega)
    rw [drop_at l i hlt, List.flatMap_cons]
    rw [bulletinref48_Escape.l0, if_pos (by rw [size_mk]; omega), if_pos (by omega), hbt, wr1 i (by omega)]
    have esc_def : ∀ c : UInt8, script_Escape.esc c = if c.toNat = 13 then [92, 114] else if c.toNat = 10 then [92, 110] else if c.toNat = 92 then [92, 92] else if c.toNat < 32 ∨ 126 < c.toNat then [92, 120, script_Escape.hx (c.toNat / 16), script_Escape.hx (c.toNat % 16)] else [c] := fun c => rfl
    rw [esc_def (l[i]'hlt)]
    by_cases h13 : (l[i]'hlt).toNat = 13
    · rw [if_pos (by omega), if_pos h13, if_pos (by rw [size_mk]; omega), show (⟨#[92, 114]⟩ : ByteArray) = mk [92, 114] from rfl, mk_append, ih (k + 1) (by omega) [92, 114] (by simp), List.append_assoc]
    rw [if_neg (by omega), if_neg h13]
    by_cases h10 : (l[i]'hlt).toNat = 10
    · rw [if_pos (by omega), if_pos h10, if_pos (by rw [size_mk]; omega), show (⟨#[92, 110]⟩ : ByteArray) = mk [92, 110] from rfl, mk_append, ih (k + 1) (by omega) [92, 110] (by simp), List.append_assoc]
    rw [if_neg (by omega), if_neg h10]
    by_cases h92 : (l[i]'hlt).toNat = 92
    · rw [if_pos (by omega), if_pos h92, if_pos (by rw [size_mk]; omega), show (⟨#[92, 92]⟩ : ByteArray) = mk [92, 92] from rfl, mk_append, ih (k + 1) (by omega) [92, 92] (by simp), List.append_assoc]
    rw [if_neg (by omega), if_neg h92]
    have bad : bulletinref48_Escape.j1 (k + 1) (mk l) (mk acc) (i : Int) ((l[i]'hlt).toNat : Int) false = some (mk (acc ++ ([92, 120, script_Escape.hx ((l[i]'hlt).toNat / 16), script_Escape.hx ((l[i]'hlt).toNat % 16)] ++ (l.drop (i + 1)).flatMap script_Escape.esc))) := by
      rw [bulletinref48_Escape.j1, if_neg (by decide), if_pos (by rw [size_mk]; omega)]
      have e1 : (Int.tdiv ((l[i]'hlt).toNat : Int) 16) % 256 = (((l[i]'hlt).toNat / 16 : Nat) : Int) := by
        rw [Int.tdiv_eq_ediv_of_nonneg (by omega)]
        omega
      have e2 : Int.tmod ((l[i]'hlt).toNat : Int) 16 = (((l[i]'hlt).toNat % 16 : Nat) : Int) := by
        rw [Int.tmod_eq_emod_of_nonneg (by omega)]
        omega
      rw [e1, e2, hx_is _ (by omega), hx_is _ (by omega)]
      dsimp only [Option.bind_some]
      rw [size_mk, size_mk, size_mk, if_pos (by simp; omega), if_pos (by simp; omega), show (⟨#[92, 120]⟩ : ByteArray) = mk [92, 120] from rfl, mk_append, mk_append, mk_append, wr1 i (by omega)]
      have := ih k (by omega) [92, 120, script_Escape.hx ((l[i]'hlt).toNat / 16), script_Escape.hx ((l[i]'hlt).toNat % 16)] (by simp)
      simp only [List.append_assoc, List.cons_append, List.nil_append] at this ⊢
      exact this
    by_cases h32 : (l[i]'hlt).toNat < 32
    · rw [if_neg (by omega), if_pos (.inl h32)]
      exact bad
    · rw [if_pos (by omega)]
      by_cases h126 : 126 < (l[i]'hlt).toNat
      · rw [decide_eq_false (by omega), if_pos (.inr h126)]
        exact bad
      · rw [decide_eq_true (by omega), if_neg (by omega), bulletinref48_Escape.j1, if_pos rfl, if_pos (by omega), wr1 i (by omega), if_pos (by omega), if_pos (by rw [size_mk]; omega), Int.toNat_natCast, Int.toNat_natCast, extract_one l i hlt, size_mk, size_mk, if_pos (by simp; omega), mk_append, ih k (by omega) [l[i]'hlt] (by simp), List.append_assoc]
theorem refEsc_f (l : List UInt8) (hl : l.length < 1000000) (k : Nat) (hk : 2 * l.length + 2 < k) : bulletinref48_Escape.f k (mk l) = some (mk (l.flatMap script_Escape.esc)) :=
  refEsc l hl l.length 0 k [] (Nat.zero_add _) hk (Nat.zero_le _)
/-! ### Numbers -/
theorem digit_is (x : Nat) : strOfNums [(wrap64 (48 + (Int.tmod (x : Int) 10))) % 256] = mk [UInt8.ofNat (48 + x % 10)] := by
  have : (wrap64 (48 + (Int.tmod (x : Int) 10))) % 256 = (((UInt8.ofNat (48 + x % 10)).toNat : Nat) : Int) := by
    have e : (UInt8.ofNat (48 + x % 10)).toNat = (48 + x % 10) % 256 := rfl
    rw [e, Int.tmod_eq_emod_of_nonneg (by omega)]
    unfold wrap64
    omega
  rw [this]
  exact strOfNums_map [UInt8.ofNat (48 + x % 10)]
theorem tdiv10 (x : Nat) (h : x < 9223372036854775808) : wrap64 (Int.tdiv (x : Int) 10) = ((x / 10 : Nat) : Int) := by
  rw [Int.tdiv_eq_ediv_of_nonneg (by omega)]
  unfold wrap64
  omega
def digs (x : Nat) : List UInt8 := if x = 0 then [] else Lib.decDigits x
theorem digs_step (x : Nat) (h : 0 < x) (acc : List UInt8) : digs (x / 10) ++ (UInt8.ofNat (48 + x % 10) :: acc) = digs x ++ acc := by
  unfold digs
  rw [if_neg (by omega : ¬ x = 0)]
  by_cases h1 : x < 10
  · rw [if_pos (by omega), Lib.decDigits, dif_pos h1, Nat.mod_eq_of_lt h1]
    rfl
  · have e : Lib.decDigits x = Lib.decDigits (x / 10) ++ [UInt8.ofNat (48 + x % 10)] := by
      rw [Lib.decDigits, dif_neg h1]
    rw [if_neg (by omega), e]
    simp
theorem dec_step (x : Nat) : digs (x / 10) ++ [UInt8.ofNat (48 + x % 10)] = Lib.decDigits x := by
  by_cases h : 0 < x
  · rw [digs_step x h]
    unfold digs
    rw [if_neg (by omega)]
    simp
  · obtain rfl : x = 0 := by omega
    rw [Lib.decDigits, dif_pos (by decide)]
    rfl
theorem digits_l0 : ∀ (j x i k : Nat) (acc : List UInt8), x < 10 ^ j → j + i ≤ 20 → 1 ≤ i → j + 2 < k → acc.length ≤ i → x < 9223372036854775808 →
    bulletinref01_Digits.l0 k (x : Int) (mk acc) (i : Int) = some (mk (digs x ++ acc))
  | j, x, i, k, acc, hx, hj, hi, hk, ha, hb => by
    obtain ⟨k, rfl⟩ : ∃ m, k = m + 1 := ⟨k - 1, by omega⟩
    rw [bulletinref01_Digits.l0, if_neg (by omega)]
    by_cases h0 : x = 0
    · subst h0
      rw [if_neg (by decide)]
      rfl
    · match j, hx, hj, hk with
      | 0, hx, _, _ => simp at hx; omega
      | j + 1, hx, hj, hk =>
        rw [if_pos (by omega), if_pos (by omega)]
        dsimp only [Option.bind_some]
        rw [digit_is]
        rw [size_mk, size_mk, if_pos (by simp; omega), tdiv10 x hb, wr1 i (by omega), mk_append]
        rw [digits_l0 j (x / 10) (i + 1) k ([UInt8.ofNat (48 + x % 10)] ++ acc) (by rw [Nat.pow_succ] at hx; omega) (by omega) (by omega) (by omega) (by simp; omega) (by omega)]
        rw [← digs_step x (by omega) acc]
        rfl
theorem digits_f (x k : Nat) (hk : 30 ≤ k) (h : x < 9223372036854775808) : bulletinref01_Digits.f k (x : Int) = some (mk (Lib.decDigits x)) := by
  obtain ⟨k, rfl⟩ : ∃ m, k = m + 1 := ⟨k - 1, by omega⟩
  unfold bulletinref01_Digits.f
  rw [bulletinref01_Digits.l0, if_pos rfl]
  dsimp only [Option.bind_some]
  rw [digit_is]
  rw [show (⟨#[]⟩ : ByteArray) = mk [] from rfl, size_mk, size_mk, if_pos (by simp), tdiv10 x h, mk_append, show wrap64 (0 + 1) = ((1 : Nat) : Int) by unfold wrap64; omega]
  rw [digits_l0 19 (x / 10) 1 k _ (by omega) (by omega) (by omega) (by omega) (by simp) (by omega), List.append_nil, dec_step]
theorem number_f (n : Int) (k : Nat) (hk : 30 ≤ k) (h0 : -9223372036854775808 ≤ n) (h1 : n ≤ 9223372036854775807) : bulletinref07_Number.f k n = some (mk (Lib.itoa n)) := by
  unfold bulletinref07_Number.f
  by_cases hn : n ≥ 0
  · obtain ⟨u, rfl⟩ : ∃ u : Nat, n = u := ⟨n.toNat, by omega⟩
    rw [if_pos hn, digits_f u k hk (by omega)]
    unfold Lib.itoa
    rw [if_neg (by omega)]
    simp
  · obtain ⟨u, hu⟩ : ∃ u : Nat, n = -(u : Int) := ⟨n.natAbs, by omega⟩
    rw [if_neg hn]
    have e1 : wrap64 (-(Int.tmod n 10)) = ((u % 10 : Nat) : Int) := by
      rw [hu, Int.neg_tmod, Int.tmod_eq_emod_of_nonneg (by omega)]
      unfold wrap64
      omega
    have e2 : wrap64 (-(wrap64 (Int.tdiv n 10))) = ((u / 10 : Nat) : Int) := by
      rw [hu, Int.neg_tdiv, Int.tdiv_eq_ediv_of_nonneg (by omega)]
      unfold wrap64
      omega
    rw [e1, e2, digits_f (u % 10) k hk (by omega)]
    dsimp only [Option.bind_some]
    have hl : ∀ x : Nat, x < 9223372036854775808 → (Lib.decDigits x).length ≤ 100 := by
      intro x hx
      have : ∀ (j x : Nat), x < 10 ^ j → (Lib.decDigits x).length ≤ j + 1 := by
        intro j
        induction j with
        | zero =>
          intro x hx
          rw [Lib.decDigits_one (by simp at hx; omega)]
          simp
        | succ j ih =>
          intro x hx
          by_cases h : x < 10
          · rw [Lib.decDigits_one h]; simp
          · rw [Lib.decDigits, dif_neg h]
            have := ih (x / 10) (by rw [Nat.pow_succ] at hx; omega)
            simp; omega
      have := this 19 x (by omega)
      omega
    have l1 := hl (u % 10) (by omega)
    have hit : Lib.itoa n = 45 :: Lib.decDigits u := by
      unfold Lib.itoa
      rw [if_pos (by omega), show n.natAbs = u by omega]
    rw [hit]
    by_cases h10 : u / 10 > 0
    · rw [if_pos (by omega), digits_f (u / 10) k hk (by omega)]
      dsimp only [Option.bind_some]
      have l2 := hl (u / 10) (by omega)
      rw [size_mk, size_mk, if_pos (by omega), if_pos (by omega), show (⟨#[45]⟩ : ByteArray) = mk [45] from rfl, mk_append, mk_append, Lib.decDigits_one (i := u % 10) (by omega)]
      have : Lib.decDigits u = Lib.decDigits (u / 10) ++ [UInt8.ofNat (48 + u % 10)] := by
        rw [Lib.decDigits, dif_neg (by omega)]
      rw [this]
      rfl
    · rw [if_neg (by omega), size_mk, if_pos (by omega), show (⟨#[45]⟩ : ByteArray) = mk [45] from rfl, mk_append, show u % 10 = u by omega]
      rfl
end Go.Proofs.YtcgfaagadejpmaaGreatDoor.Q
