import Derived.Test.YtcpmoolpbeeedaaGreatDoorQ19
import Derived.Test.YtcpmoolpbeeedaaGreatDoorQ20
import Derived.Test.YtcpmoolpbeeedaaGreatDoorUA
namespace Go.Proofs.YtcpmoolpbeeedaaGreatDoor.Q
open Go.RowKit Go.Proofs.YtcpmoolpbeeedaaGreatDoorW.PrintWords Go.Proofs.YtcpmoolpbeeedaaGreatDoorW.PrintLast Go.Proofs.YtcpmoolpbeeedaaGreatDoorW.PrintMore
theorem refLines (l : List UInt8) (hl : l.length < 1000000) : ∀ (n i k : Nat) (acc : List (List UInt8)) (cur : List UInt8), i + n = l.length → n < k → acc.length ≤ i → cur.length ≤ i →
    bulletinref17_Lines.l0 k (mk l) (acc.map mk) (mk cur) (i : Int) = some ((acc ++ lines cur (l.drop i)).map mk) := by
  intro n
  induction n using Nat.strongRecOn with
  | _ n ih =>
    intro i k acc cur hi hk ha hc
    obtain ⟨k, rfl⟩ : ∃ j, k = j + 1 := ⟨k - 1, by omega⟩
    by_cases hn : n = 0
    · subst hn
      obtain rfl : i = l.length := by omega
      rw [List.drop_length, bulletinref17_Lines.l0, if_neg (by rw [size_mk]; omega), List.length_map, if_pos (by omega)]
      simp [lines]
    have hlt : i < l.length := by omega
    have hbt : bt (mk l) (i : Int) = ((l[i]'hlt).toNat : Int) := bt_mk l i hlt
    have c256 := (l[i]'hlt).toNat_lt
    rw [drop_at l i hlt]
    have step : ¬ ((l[i]'hlt) = 13 ∧ (l.drop (i + 1)).head? = some 10) → (if (i : Int) ≤ ((i + 1 : Nat) : Int) then (if ((i + 1 : Nat) : Int) ≤ ((mk l).size : Int) then (if (mk cur).size + (((mk l).extract ((i : Nat) : Int).toNat (((i + 1 : Nat) : Int)).toNat).size) ≤ 9223372036854775807 then (bulletinref17_Lines.l0 k (mk l) (acc.map mk) ((mk cur) ++ ((mk l).extract ((i : Nat) : Int).toNat (((i + 1 : Nat) : Int)).toNat)) ((i + 1 : Nat) : Int)) else (none)) else (none)) else (none)) = some ((acc ++ lines cur ((l[i]'hlt) :: l.drop (i + 1))).map mk) := by
      intro hne
      rw [if_pos (by omega), if_pos (by rw [size_mk]; omega), Int.toNat_natCast, Int.toNat_natCast, extract_one l i hlt, size_mk, size_mk, if_pos (by simp; omega), mk_append, lines_step cur _ _ hne]
      exact ih (n - 1) (by omega) (i + 1) k acc (cur ++ [l[i]'hlt]) (by omega) (by omega) (by omega) (by simp; omega)
    rw [bulletinref17_Lines.l0, if_pos (by rw [size_mk]; omega), if_pos (by omega), hbt, wr1 i (by omega)]
    by_cases h13 : (l[i]'hlt) = 13
    · have e13 : (((l[i]'hlt).toNat : Nat) : Int) = 13 := by rw [h13]; rfl
      rw [if_pos e13]
      by_cases hlt1 : i + 1 < l.length
      · have hbt1 : bt (mk l) ((i + 1 : Nat) : Int) = ((l[i + 1]'hlt1).toNat : Int) := bt_mk l (i + 1) hlt1
        rw [if_pos (by rw [size_mk]; omega), if_pos (by omega), hbt1]
        by_cases h10 : (l[i + 1]'hlt1) = 10
        · rw [if_pos (by rw [h10]; rfl), List.length_map, if_pos (by omega), wr1 (i + 1) (by omega), drop_at l (i + 1) hlt1, h13, h10, lines_hit]
          have := ih (n - 2) (by omega) (i + 1 + 1) k (acc ++ [cur]) [] (by omega) (by omega) (by simp; omega) (by simp)
          simp only [List.map_append, List.map_cons, List.map_nil, List.append_assoc, List.singleton_append] at this ⊢
          exact this
        · have e10 : ¬ (((l[i + 1]'hlt1).toNat : Nat) : Int) = 10 := fun e => h10 (UInt8.toNat_inj.1 (by simpa using (by omega : (l[i + 1]'hlt1).toNat = 10)))
          rw [if_neg e10]
          exact step (fun e => h10 (by have := e.2; rw [drop_at l (i + 1) hlt1] at this; exact Option.some.inj this))
      · rw [if_neg (by rw [size_mk]; omega)]
        exact step (fun e => by have := e.2; rw [List.drop_of_length_le (by omega)] at this; simp at this)
    · have e13 : ¬ (((l[i]'hlt).toNat : Nat) : Int) = 13 := fun e => h13 (UInt8.toNat_inj.1 (by simpa using (by omega : (l[i]'hlt).toNat = 13)))
      rw [if_neg e13]
      exact step (fun e => h13 e.1)
theorem refLines_f (l : List UInt8) (hl : l.length < 1000000) (k : Nat) (hk : l.length < k) : bulletinref17_Lines.f k (mk l) = some ((lines [] l).map mk) :=
  refLines l hl l.length 0 k [] [] (Nat.zero_add _) hk (Nat.zero_le _) (Nat.zero_le _)
def ahead : List UInt8 → Nat
  | [] => 0
  | c :: l => if c = 62 then ahead l + 1 else 0
theorem drop_ahead : ∀ l : List UInt8, l.drop (ahead l) = l.dropWhile (· == 62)
  | [] => rfl
  | c :: l => by
    unfold ahead
    by_cases h : c = 62
    · subst h
      rw [if_pos rfl, List.dropWhile_cons_of_pos (by decide), ← drop_ahead l]
      rfl
    · rw [if_neg h, List.dropWhile_cons_of_neg (by simpa using h)]
      rfl
def marks (l : List UInt8) : Int := if mkd l = true then (ahead l : Int) else -1
theorem marks_is (l : List UInt8) (hl : l.length < 1000000) : ∀ (n i k : Nat), i + n = l.length → n < k → ahead l = i + ahead (l.drop i) → bulletinref23_Marks.l0 k (mk l) (i : Int) = some (marks l)
  | n, i, k, hi, hk, ha => by
    obtain ⟨k, rfl⟩ : ∃ j, k = j + 1 := ⟨k - 1, by omega⟩
    have fin : ahead (l.drop i) = 0 → (if ((i + 5 : Nat) : Int) ≤ ((mk l).size : Int) then (if (i : Int) ≤ ((i + 5 : Nat) : Int) then (if ((mk l).extract ((i : Nat) : Int).toNat (((i + 5 : Nat) : Int)).toNat).toList = ([70, 114, 111, 109, 32] : List UInt8) then (some ((i : Nat) : Int)) else (some (-1))) else (none)) else (some (-1))) = some (marks l) := by
      intro h0
      have hd : l.drop i = l.dropWhile (· == 62) := by rw [← drop_ahead l, show ahead l = i by omega]
      unfold marks mkd
      rw [← hd, show (ahead l : Int) = i by omega]
      by_cases h5 : i + 5 ≤ l.length
      · rw [if_pos (by rw [size_mk]; omega), if_pos (by omega), Int.toNat_natCast, Int.toNat_natCast, extract_mk, toList_mk, show i + 5 - i = 5 by omega]
        by_cases hf : (l.drop i).take 5 = from5
        · rw [if_pos (show (l.drop i).take 5 = [70, 114, 111, 109, 32] from hf), if_pos (by rw [hf]; rfl)]
        · rw [if_neg (show ¬ (l.drop i).take 5 = [70, 114, 111, 109, 32] from hf), if_neg (by simpa using hf)]
      · rw [if_neg (by rw [size_mk]; omega), if_neg]
        intro e
        have := congrArg List.length (eq_of_beq e)
        simp [from5] at this
        omega
    by_cases hlt : i < l.length
    · have hbt : bt (mk l) (i : Int) = ((l[i]'hlt).toNat : Int) := bt_mk l i hlt
      rw [drop_at l i hlt] at ha fin
      rw [bulletinref23_Marks.l0, if_pos (by rw [size_mk]; omega), if_pos (by omega), hbt]
      by_cases h62 : (l[i]'hlt) = 62
      · rw [if_pos (by rw [h62]; rfl), wr1 i (by omega)]
        rw [ahead, if_pos h62] at ha
        match n, hi, hk with
        | n + 1, hi, hk => exact marks_is l hl n (i + 1) k (by omega) (by omega) (by omega)
        | 0, hi, _ => omega
      · have e62 : ¬ (((l[i]'hlt).toNat : Nat) : Int) = 62 := fun e => h62 (UInt8.toNat_inj.1 (by simpa using (by omega : (l[i]'hlt).toNat = 62)))
        rw [if_neg e62, wr5 i (by omega)]
        exact fin (by rw [ahead, if_neg h62])
    · have h0 : l.drop i = [] := List.drop_of_length_le (by omega)
      rw [bulletinref23_Marks.l0, if_neg (by rw [size_mk]; omega), wr5 i (by omega)]
      have := fin (by rw [h0]; rfl)
      rw [← this]
      by_cases h5 : ((i + 5 : Nat) : Int) ≤ ((mk l).size : Int)
      · rw [if_pos h5, if_pos h5, if_pos (by omega)]
      · rw [if_neg h5, if_neg h5]
theorem marks_f (l : List UInt8) (hl : l.length < 1000000) (k : Nat) (hk : l.length < k) : bulletinref23_Marks.f k (mk l) = some (marks l) :=
  marks_is l hl l.length 0 k (Nat.zero_add _) hk (by simp)
theorem rd_at (ls : List (List UInt8)) (i : Nat) (h : i < ls.length) : rdOf ByteArray.empty (ls.map mk) (i : Int) = mk (ls[i]'h) := by
  unfold rdOf
  simp [List.getD_eq_getElem?_getD, List.getElem?_eq_getElem h]
theorem marks_qu (l : List UInt8) : marks l ≥ 0 ↔ mkd l = true := by
  unfold marks
  split <;> simp_all
theorem ended_snoc : ∀ (ls : List (List UInt8)) (x : List UInt8), ls ≠ [] → ended (ls ++ [x]) = ended ls ++ 13 :: 10 :: x
  | [], _, h => absurd rfl h
  | [y], x, _ => by rw [List.singleton_append, ended_cons, ended_one, ended_one]
  | y :: z :: l, x, _ => by
    rw [List.cons_append, List.cons_append, ended_cons, ended_cons, ← List.cons_append, ended_snoc (z :: l) x (by simp)]
    simp
theorem end_mk : (⟨#[13, 10]⟩ : ByteArray) = mk [13, 10] := rfl
theorem refQuote_l0 (ls : List (List UInt8)) (hb : ∀ x ∈ ls, x.length < 100000) (hlen : ls.length < 100000) : ∀ (n i k : Nat), i + n = ls.length → 200000 + n < k → (ended ((ls.take i).map qu)).length ≤ 200000 * i →
    bulletinref23_Quote.l0 k (ls.map mk) (mk (ended ((ls.take i).map qu))) (i : Int) = some (mk (ended (ls.map qu)))
  | 0, i, k, hi, hk, _ => by
    obtain ⟨k, rfl⟩ : ∃ j, k = j + 1 := ⟨k - 1, by omega⟩
    rw [bulletinref23_Quote.l0, if_neg (by rw [List.length_map]; omega), List.take_of_length_le (by omega)]
  | n + 1, i, k, hi, hk, hs => by
    obtain ⟨k, rfl⟩ : ∃ j, k = j + 1 := ⟨k - 1, by omega⟩
    have hlt : i < ls.length := by omega
    have hx := hb _ (List.getElem_mem hlt)
    have hq : (qu (ls[i]'hlt)).length ≤ (ls[i]'hlt).length + 1 := by unfold qu; split <;> simp
    have htk : (ls.take (i + 1)).map qu = (ls.take i).map qu ++ [qu (ls[i]'hlt)] := by rw [List.take_succ_eq_append_getElem hlt, List.map_append]; rfl
    rw [bulletinref23_Quote.l0, if_pos (by rw [List.length_map]; omega)]
    by_cases h0 : i = 0
    · subst h0
      have e1 : ended ((ls.take 1).map qu) = qu (ls[0]'hlt) := by rw [htk]; exact ended_one _
      rw [if_neg (by omega), if_pos (by omega), rd_at ls 0 hlt, marks_f _ (by omega) k (by omega)]
      dsimp only [Option.bind_some]
      have ih := refQuote_l0 ls hb hlen n 1 k (by omega) (by omega) (by rw [e1]; omega)
      rw [e1] at ih
      simp only [List.take_zero, List.map_nil, show ended [] = [] from rfl]
      by_cases hm : mkd (ls[0]'hlt) = true
      · rw [if_pos ((marks_qu _).2 hm), size_mk, size_mk, if_pos (by simp), if_pos (by simp; omega), show (⟨#[62]⟩ : ByteArray) = mk [62] from rfl, mk_append, mk_append, wr1 0 (by omega)]
        rw [qu, if_pos hm] at ih
        exact ih
      · rw [if_neg (fun e => hm ((marks_qu _).1 e)), size_mk, size_mk, if_pos (by simp; omega), mk_append, wr1 0 (by omega)]
        rw [qu, if_neg hm] at ih
        exact ih
    · have e1 : ended ((ls.take (i + 1)).map qu) = ended ((ls.take i).map qu) ++ 13 :: 10 :: qu (ls[i]'hlt) := by
        rw [htk]
        exact ended_snoc _ _ (by intro e; have := congrArg List.length e; rw [List.length_map, List.length_take, List.length_nil] at this; omega)
      have hlen2 : (ended ((ls.take (i + 1)).map qu)).length ≤ 200000 * (i + 1) := by
        have hlen1 := congrArg List.length e1
        simp only [List.length_append, List.length_cons] at hlen1
        omega
      have ih := refQuote_l0 ls hb hlen n (i + 1) k (by omega) (by omega) hlen2
      rw [e1] at ih
      rw [if_pos (by omega), size_mk, if_pos (by omega), if_pos (by omega), rd_at ls i hlt, marks_f _ (by omega) k (by omega)]
      dsimp only [Option.bind_some]
      by_cases hm : mkd (ls[i]'hlt) = true
      · rw [if_pos ((marks_qu _).2 hm), size_mk, if_pos (by omega), if_pos (by omega), show (⟨#[62]⟩ : ByteArray) = mk [62] from rfl, end_mk, mk_append, mk_append, mk_append, wr1 i (by omega)]
        rw [qu, if_pos hm] at ih
        simpa using ih
      · rw [if_neg (fun e => hm ((marks_qu _).1 e)), size_mk, if_pos (by omega), end_mk, mk_append, mk_append, wr1 i (by omega)]
        rw [qu, if_neg hm] at ih
        simpa using ih
end Go.Proofs.YtcpmoolpbeeedaaGreatDoor.Q
