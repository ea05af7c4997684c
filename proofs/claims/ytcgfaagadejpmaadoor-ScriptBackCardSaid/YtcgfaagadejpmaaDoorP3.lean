/- ScriptMany, plain. -/
import Derived.Test.YtcgfaagadejpmaaDoorP2
namespace Go.Proofs.YtcgfaagadejpmaaDoor.Q
open Go.RowKit Go.Proofs.YtcgfaagadejpmaaDoorW.PrintWords Go.Proofs.YtcgfaagadejpmaaDoorW.PrintLast Go.Proofs.YtcgfaagadejpmaaDoorW.PrintMore Sp

theorem append_list (a b : List UInt8) : (⟨a.toArray⟩ : ByteArray) ++ ⟨b.toArray⟩ = ⟨(a ++ b).toArray⟩ := by
  apply ByteArray.ext
  simp
theorem splitC_at (c : UInt8) (x r cur : List UInt8) (h : c ∉ x) : splitC c cur (x ++ c :: r) = (cur ++ x) :: splitC c [] r := by
  have := splitC_some c x.length (x ++ c :: r) cur (by simp) (fun k hk e => by
    rw [List.getElem?_append_left hk] at e
    exact h (List.mem_of_getElem? e))
  rw [this]
  simp
/-- Lines, each with its end. -/
def ends : List (List UInt8) → List UInt8
  | [] => []
  | x :: l => x ++ 10 :: ends l
theorem ends_append : ∀ l m : List (List UInt8), ends (l ++ m) = ends l ++ ends m
  | [], m => rfl
  | x :: l, m => by simp [ends, ends_append l m]
theorem splitC_ends : ∀ (l : List (List UInt8)), (∀ x ∈ l, (10 : UInt8) ∉ x) → splitC 10 [] (ends l) = l ++ [[]]
  | [], _ => rfl
  | x :: l, h => by
    rw [ends, splitC_at 10 x _ [] (h x (by simp)), splitC_ends l (fun y hy => h y (by simp [hy]))]
    simp
def mk (l : List UInt8) : ByteArray := ⟨l.toArray⟩
theorem parts_ends (l : List (List UInt8)) (h : ∀ x ∈ l, (10 : UInt8) ∉ x) : parts 10 (mk (ends l)) = l.map mk ++ [mk []] := by
  unfold parts mk
  rw [show (⟨(ends l).toArray⟩ : ByteArray).data.toList = ends l by simp, splitC_ends l h]
  simp
theorem g_skip {line : ByteArray → Option (Int × ByteArray × ByteArray × ByteArray × Int × Int)} {acc : List S30} {n : Nat} {x : List UInt8} {xs : List ByteArray} (h : x = [] ∨ x.head? = some 35) : script_Read.g line acc n (mk x :: xs) = script_Read.g line acc (n + 1) xs := by
  rw [script_Read.g, if_pos]
  rcases h with rfl | h
  · exact .inl (toList_mk [])
  · cases x with
    | nil => simp at h
    | cons c r =>
      obtain rfl : c = 35 := by simpa using h
      exact .inr (bt_list (35 :: r) 0 (by simp))
theorem g_step {line : ByteArray → Option (Int × ByteArray × ByteArray × ByteArray × Int × Int)} {acc : List S30} {n : Nat} {c : UInt8} {x : List UInt8} {xs : List ByteArray} {s : S30} (hc : c ≠ 35) (hl : line (mk (c :: x)) = some (s.f0, s.f1, s.f2, s.f3, s.f4, 0)) :
    script_Read.g line acc n (mk (c :: x) :: xs) = if acc.length = 200 then some ([], ((n + 1 : Nat) : Int), 8) else script_Read.g line (acc ++ [s]) (n + 1) xs := by
  rw [script_Read.g, if_neg, hl]
  · rfl
  · rintro (h | h)
    · rw [show (mk (c :: x)).toList = c :: x from toList_mk _] at h
      cases h
    · have := bt_list (c :: x) 0 (by simp)
      rw [show bt (mk (c :: x)) 0 = (c.toNat : Int) from this] at h
      exact hc (UInt8.toNat_inj.1 (by simpa using (by omega : c.toNat = 35)))
def tick : List UInt8 := [116, 105, 99, 107, 32, 49]
def tickS : S30 := ⟨7, ⟨#[]⟩, ⟨#[]⟩, ⟨#[]⟩, 1⟩
theorem tick_60 : script_line.f 60 (mk tick) = some (7, ⟨#[]⟩, ⟨#[]⟩, ⟨#[]⟩, 1, 0) := by decide +kernel
theorem tick_up : ∀ k, 60 ≤ k → script_line.f k (mk tick) = some (7, ⟨#[]⟩, ⟨#[]⟩, ⟨#[]⟩, 1, 0) := up_of (script_line.mono _) tick_60
theorem g_rem (line : ByteArray → Option (Int × ByteArray × ByteArray × ByteArray × Int × Int)) (acc : List S30) (xs : List ByteArray) : ∀ (e n : Nat), script_Read.g line acc n (List.replicate e (mk [35]) ++ xs) = script_Read.g line acc (n + e) xs
  | 0, n => rfl
  | e + 1, n => by
    rw [List.replicate_succ, List.cons_append, g_skip (.inr rfl), g_rem line acc xs e (n + 1), show n + 1 + e = n + (e + 1) by omega]
theorem g_ticks {line : ByteArray → Option (Int × ByteArray × ByteArray × ByteArray × Int × Int)} (hl : line (mk tick) = some (7, ⟨#[]⟩, ⟨#[]⟩, ⟨#[]⟩, 1, 0)) : ∀ (m : Nat) (acc : List S30) (n : Nat), acc.length ≤ 200 →
    script_Read.g line acc n (List.replicate m (mk tick) ++ [mk []]) = if acc.length + m ≤ 200 then some (acc ++ List.replicate m tickS, 0, 0) else some ([], ((n + (200 - acc.length) + 1 : Nat) : Int), 8)
  | 0, acc, n, ha => by
    rw [if_pos (by omega), List.replicate_zero, List.nil_append, g_skip (.inl rfl), script_Read.g]
    simp
  | m + 1, acc, n, ha => by
    rw [List.replicate_succ, List.cons_append, show mk tick = mk (116 :: [105, 99, 107, 32, 49]) from rfl, g_step (s := tickS) (by decide) hl]
    by_cases h : acc.length = 200
    · rw [if_pos h, if_neg (by omega), h]
    · rw [if_neg h, show mk (116 :: [105, 99, 107, 32, 49]) = mk tick from rfl, g_ticks hl m (acc ++ [tickS]) (n + 1) (by simp; omega)]
      simp only [List.length_append, List.length_singleton]
      by_cases h2 : acc.length + (m + 1) ≤ 200
      · rw [if_pos (by omega), if_pos h2]
        simp [List.replicate_succ]
      · rw [if_neg (by omega), if_neg h2]
        congr 4
        omega
/-- The text. -/
def manyT (e n : Nat) : List UInt8 := ends (List.replicate e [35] ++ List.replicate n tick)
theorem manyT_len (e n : Nat) : (manyT e n).length = 2 * e + 7 * n := by
  unfold manyT
  rw [ends_append, List.length_append]
  have h1 : ∀ e, (ends (List.replicate e [35])).length = 2 * e := fun e => by
    induction e with
    | zero => rfl
    | succ e ih => rw [List.replicate_succ, ends]; simp [ih]; omega
  have h2 : ∀ e, (ends (List.replicate e tick)).length = 7 * e := fun e => by
    induction e with
    | zero => rfl
    | succ e ih =>
      have h6 : tick.length = 6 := rfl
      rw [List.replicate_succ, ends, List.length_append, List.length_cons, ih]
      omega
  rw [h1, h2]
theorem many_read (e n k : Nat) (he : e ≤ 220) (hn : n ≤ 220) (hk : 60 ≤ k) : script_Read.f k (mk (manyT e n)) = if n ≤ 200 then some (List.replicate n tickS, 0, 0) else some ([], ((e + 201 : Nat) : Int), 8) := by
  unfold script_Read.f
  rw [if_pos (by rw [show (mk (manyT e n)).size = (manyT e n).length from size_list _, manyT_len]; omega)]
  unfold manyT
  rw [parts_ends _ (by
    intro x hx
    rcases List.mem_append.1 hx with hx | hx <;> rw [List.eq_of_mem_replicate hx] <;> decide)]
  rw [List.map_append, List.map_replicate, List.map_replicate, List.append_assoc, g_rem, g_ticks (tick_up k hk) n [] _ (by simp)]
  simp only [List.length_nil, Nat.zero_add, List.nil_append]
theorem manyT_tick (e n : Nat) : manyT e n ++ [116, 105, 99, 107, 32, 49, 10] = manyT e (n + 1) := by
  unfold manyT
  rw [List.replicate_succ', ← List.append_assoc, ends_append _ [tick]]
  rfl
theorem manyT_rem (e : Nat) : manyT e 0 ++ [35, 10] = manyT (e + 1) 0 := by
  unfold manyT
  simp only [List.replicate_zero, List.append_nil]
  rw [List.replicate_succ', ends_append _ [[35]]]
  rfl
theorem many_l1 (e n : Nat) (he : e ≤ 220) (hn : n ≤ 220) : ∀ (m i k : Nat), i + m = n → 1000 + m < k → bulletinlaw48_ScriptMany.l1 k (n : Int) (e : Int) (mk (manyT e i)) (i : Int) = some true
  | 0, i, k, hi, hk => by
    obtain rfl : i = n := hi
    obtain ⟨k, rfl⟩ : ∃ j, k = j + 1 := ⟨k - 1, by omega⟩
    unfold bulletinlaw48_ScriptMany.l1
    rw [if_neg (by omega), many_read e i k he hn (by omega)]
    by_cases h : i ≤ 200
    · rw [if_pos h]
      dsimp only [Option.bind_some]
      rw [if_neg (by omega), if_pos (by simp), if_pos rfl, if_pos rfl, works_up k (by omega)]
      rfl
    · rw [if_neg h]
      dsimp only [Option.bind_some]
      rw [if_pos (by omega), if_pos (show (([] : List S30).length : Int) = 0 from rfl), if_pos (show ((e + 201 : Nat) : Int) = wrap64 ((e : Int) + 201) by unfold wrap64; omega), if_pos (show (8 : Int) = 8 from rfl), works_up k (by omega)]
      rfl
  | m + 1, i, k, hi, hk => by
    obtain ⟨k, rfl⟩ : ∃ j, k = j + 1 := ⟨k - 1, by omega⟩
    unfold bulletinlaw48_ScriptMany.l1
    have hs : (mk (manyT e i)).size = 2 * e + 7 * i := (size_list _).trans (manyT_len e i)
    rw [if_pos (by omega), if_pos (by omega), wrap_nat i (by omega), show mk (manyT e i) ++ (⟨#[116, 105, 99, 107, 32, 49, 10]⟩ : ByteArray) = mk (manyT e (i + 1)) from (append_list _ [116, 105, 99, 107, 32, 49, 10]).trans (congrArg mk (manyT_tick e i))]
    exact many_l1 e n he hn m (i + 1) k (by omega) (by omega)
theorem many_l0 (e n : Nat) (he : e ≤ 220) (hn : n ≤ 220) : ∀ (m i k : Nat), i + m = e → 2000 + m < k → bulletinlaw48_ScriptMany.l0 k (n : Int) (e : Int) (mk (manyT i 0)) (i : Int) = some true
  | 0, i, k, hi, hk => by
    obtain rfl : i = e := hi
    obtain ⟨k, rfl⟩ : ∃ j, k = j + 1 := ⟨k - 1, by omega⟩
    unfold bulletinlaw48_ScriptMany.l0
    rw [if_neg (by omega)]
    exact many_l1 i n he hn n 0 k (by omega) (by omega)
  | m + 1, i, k, hi, hk => by
    obtain ⟨k, rfl⟩ : ∃ j, k = j + 1 := ⟨k - 1, by omega⟩
    unfold bulletinlaw48_ScriptMany.l0
    have hs : (mk (manyT i 0)).size = 2 * i + 7 * 0 := (size_list _).trans (manyT_len i 0)
    rw [if_pos (by omega), if_pos (by omega), wrap_nat i (by omega), show mk (manyT i 0) ++ (⟨#[35, 10]⟩ : ByteArray) = mk (manyT (i + 1) 0) from (append_list _ [35, 10]).trans (congrArg mk (manyT_rem i))]
    exact many_l0 e n he hn m (i + 1) k (by omega) (by omega)
theorem scriptMany_pure (a0 a1 : Int) : bulletinlaw48_ScriptMany.f 5000 a0 a1 = some true := by
  have hw : bulletinlaw48_ScriptMany.j0 (4999 + 1) a0 a1 true = some true := by
    rw [bulletinlaw48_ScriptMany.j0, if_pos rfl, works_up 4999 (by decide)]
    rfl
  unfold bulletinlaw48_ScriptMany.f
  by_cases h0 : a0 < 0
  · rw [if_pos h0]; exact hw
  rw [if_neg h0]
  by_cases h1 : a0 > 220
  · rw [if_pos h1]; exact hw
  rw [if_neg h1]
  by_cases h2 : a1 < 0
  · rw [if_pos h2]; exact hw
  rw [if_neg h2]
  by_cases h3 : a1 > 220
  · rw [decide_eq_true h3]; exact hw
  rw [decide_eq_false h3]
  obtain ⟨n, rfl⟩ : ∃ n : Nat, a0 = n := ⟨a0.toNat, by omega⟩
  obtain ⟨e, rfl⟩ : ∃ e : Nat, a1 = e := ⟨a1.toNat, by omega⟩
  show (if false = true then ((bulletinlaw48_works.f 4999).bind fun t304 => (some t304)) else bulletinlaw48_ScriptMany.l0 4999 (n : Int) (e : Int) (⟨#[]⟩ : ByteArray) 0) = some true
  rw [if_neg (by decide)]
  exact many_l0 e n (by omega) (by omega) e 0 4999 (by omega) (by omega)
end Go.Proofs.YtcgfaagadejpmaaDoor.Q
