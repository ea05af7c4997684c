/- Moments, plain: what is written of a moment in a mail's first line is read as it (by the program, by the document). -/
import Derived.Test.YtcpmoolpbeeedaaGreatDoorU13
import Derived.Test.YtcpmoolpbeeedaaGreatDoorDM9
import Derived.Shelf.Strings.FieldsAny
namespace Go.Proofs.YtcpmoolpbeeedaaGreatDoor.Q
open Go.RowKit Go.Proofs.YtcpmoolpbeeedaaGreatDoorW.PrintWords Go.Proofs.YtcpmoolpbeeedaaGreatDoorW.PrintLast Go.Proofs.YtcpmoolpbeeedaaGreatDoorW.PrintMore

def dayL (d : Int) : List UInt8 := if d < 10 then 32 :: Lib.itoa d else Lib.itoa d
def lineL (y m d h i s w : Int) : List UInt8 := weekL w ++ 32 :: (monthL m ++ 32 :: (dayL d ++ 32 :: (clockL h i s ++ 32 :: Lib.itoa y)))
theorem lineB_eq (y m d h i s w : Int) : lineB y m d h i s w = mk (lineL y m d h i s w) := by
  unfold lineB lineL num dayL
  rw [clockB_eq, of_bb (weekB w), of_bb (monthB m), show (⟨#[32]⟩ : ByteArray) = bb [32] from rfl]
  by_cases h : d < 10
  · rw [if_pos h, if_pos h]
    simp only [bb_append]
    simp [weekL, monthL]
    rfl
  · rw [if_neg h, if_neg h]
    simp only [bb_append]
    simp [weekL, monthL]
    rfl
def word (x : List UInt8) : Prop := x ≠ [] ∧ ∀ c ∈ x, Lib.isSp c = false ∧ c.toNat < 128
theorem fieldsGo_run : ∀ (x cur l : List UInt8), (∀ c ∈ x, Lib.isSp c = false) → Lib.fieldsGo cur (x ++ l) = Lib.fieldsGo (cur ++ x) l
  | [], cur, l, _ => by simp
  | c :: x, cur, l, h => by
    rw [List.cons_append, Lib.fieldsGo, h c (by simp), if_neg (by decide), fieldsGo_run x _ l (fun c hc => h c (by simp [hc]))]
    simp
theorem fieldsGo_word (x l : List UInt8) (h : word x) : Lib.fieldsGo [] (x ++ 32 :: l) = x :: Lib.fieldsGo [] l := by
  rw [fieldsGo_run x [] _ (fun c hc => (h.2 c hc).1), List.nil_append, Lib.fieldsGo, if_pos (by decide), if_neg (by simpa using h.1)]
theorem fieldsGo_last (x : List UInt8) (h : word x) : Lib.fieldsGo [] x = [x] := by
  have := fieldsGo_run x [] [] (fun c hc => (h.2 c hc).1)
  rw [List.append_nil, List.nil_append, Lib.fieldsGo, if_neg (by simpa using h.1)] at this
  exact this
theorem fieldsGo_blank (l : List UInt8) : Lib.fieldsGo [] (32 :: l) = Lib.fieldsGo [] l := by
  rw [Lib.fieldsGo, if_pos (by decide)]
  rfl
theorem dig_sp (c : UInt8) (h : dig c = true) : Lib.isSp c = false ∧ c.toNat < 128 := by
  have hall : (List.range 256).all (fun n => decide (dig (UInt8.ofNat n) = true → Lib.isSp (UInt8.ofNat n) = false ∧ n < 128)) = true := by decide +kernel
  have := of_decide_eq_true (List.all_eq_true.1 hall c.toNat (List.mem_range.2 c.toNat_lt))
  rw [UInt8.ofNat_toNat] at this
  exact this h
theorem weekW (w : Int) (h0 : 0 ≤ w) (h1 : w < 7) : word (weekL w) ∧ (weekL w).length = 3 ∧ (weekL w).head? ≠ some 32 := by
  have : w = 0 ∨ w = 1 ∨ w = 2 ∨ w = 3 ∨ w = 4 ∨ w = 5 ∨ w = 6 := by omega
  unfold word
  rcases this with h | h | h | h | h | h | h <;> subst h <;> decide +kernel
theorem monthW (m : Int) (h1 : 1 ≤ m) (h2 : m ≤ 12) : word (monthL m) ∧ (monthL m).length = 3 := by
  have : m = 1 ∨ m = 2 ∨ m = 3 ∨ m = 4 ∨ m = 5 ∨ m = 6 ∨ m = 7 ∨ m = 8 ∨ m = 9 ∨ m = 10 ∨ m = 11 ∨ m = 12 := by omega
  unfold word
  rcases this with h | h | h | h | h | h | h | h | h | h | h | h <;> subst h <;> decide +kernel
theorem itoaW (n : Int) (h : 0 ≤ n) : word (Lib.itoa n) := ⟨(itoa_plain n h).2, fun c hc => dig_sp c ((itoa_worth n h).2 c hc)⟩
theorem clockW (h i s : Int) (h0 : 0 ≤ h) (h1 : h < 24) (i0 : 0 ≤ i) (i1 : i < 60) (s0 : 0 ≤ s) (s1 : s < 60) : word (clockL h i s) := by
  refine ⟨by simp [clockL, twoL], fun c hc => ?_⟩
  simp only [clockL, List.mem_append, List.mem_cons] at hc
  rcases hc with hc | rfl | hc | rfl | hc
  · exact dig_sp c (twoL_dig h h0 (by omega) c hc)
  · decide
  · exact dig_sp c (twoL_dig i i0 (by omega) c hc)
  · decide
  · exact dig_sp c (twoL_dig s s0 (by omega) c hc)
/-- A moment's parts, and how they are written. -/
structure Parts (a y m d : Int) : Prop where
  is : Is (a / 86400 + 719528) y m d
  lo : 0 ≤ a
  hi : a ≤ 1099511627776
theorem Parts.small {a y m d : Int} (p : Parts a y m d) : 1970 ≤ y ∧ y ≤ 40000 ∧ 1 ≤ m ∧ m ≤ 12 ∧ 1 ≤ d ∧ d ≤ 31 := by
  have := p.is.small (by have := p.lo; omega) (by have := p.hi; omega)
  have l := Lg_le y m
  omega
def lineOf (a y m d : Int) : List UInt8 := lineL y m d (a % 86400 / 3600) (a % 86400 / 60 % 60) (a % 60) ((a / 86400 + 4) % 7)
theorem line_eq (a : Int) (h : 0 ≤ a ∧ a ≤ 1099511627776) : ∃ y m d, Parts a y m d ∧ ∀ k, 70000 ≤ k → date_Line.f k a = some (mk (lineOf a y m d)) := by
  obtain ⟨y, m, d, i, e⟩ := of_is a h.1 h.2 70000 (Nat.le_refl _)
  refine ⟨y, m, d, ⟨i, h.1, h.2⟩, fun k hk => ?_⟩
  obtain ⟨y', m', d', i', e'⟩ := of_is a h.1 h.2 k hk
  obtain ⟨rfl, rfl, rfl⟩ := i.one i'
  rw [line_is a h.1 h.2 k y m d i e', lineB_eq]
  rfl
theorem dayW (d : Int) (h : 1 ≤ d ∧ d ≤ 31) : (Lib.itoa d).length ≤ 2 ∧ 1 ≤ (Lib.itoa d).length ∧ (dayL d).length = 2 := by
  have : d = 1 ∨ d = 2 ∨ d = 3 ∨ d = 4 ∨ d = 5 ∨ d = 6 ∨ d = 7 ∨ d = 8 ∨ d = 9 ∨ d = 10 ∨ d = 11 ∨ d = 12 ∨ d = 13 ∨ d = 14 ∨ d = 15 ∨ d = 16 ∨ d = 17 ∨ d = 18 ∨ d = 19 ∨ d = 20 ∨ d = 21 ∨ d = 22 ∨ d = 23 ∨ d = 24 ∨ d = 25 ∨ d = 26 ∨ d = 27 ∨ d = 28 ∨ d = 29 ∨ d = 30 ∨ d = 31 := by omega
  rcases this with h | h | h | h | h | h | h | h | h | h | h | h | h | h | h | h | h | h | h | h | h | h | h | h | h | h | h | h | h | h | h <;> subst h <;> decide +kernel
theorem yearW (y : Int) (h : 1970 ≤ y ∧ y ≤ 40000) : (Lib.itoa y).length ≤ 5 ∧ 4 ≤ (Lib.itoa y).length := by
  rw [Lib.itoa, if_neg (by omega)]
  exact ⟨decDigits_most 4 _ (by simp; omega), decDigits_least 3 _ (by simp; omega)⟩
theorem lineOf_len {a y m d : Int} (p : Parts a y m d) : (lineOf a y m d).length = 20 + (Lib.itoa y).length ∧ (lineOf a y m d).head? ≠ some 32 ∧ lineOf a y m d ≠ [] := by
  have sm := p.small
  obtain ⟨_, w2, w3⟩ := weekW ((a / 86400 + 4) % 7) (by omega) (by omega)
  have m2 := (monthW m (by omega) (by omega)).2
  have d2 := (dayW d (by omega)).2.2
  unfold lineOf lineL
  refine ⟨by simp [w2, m2, d2, clockL, twoL]; omega, ?_, by simp⟩
  cases hw : weekL ((a / 86400 + 4) % 7) with
  | nil => rw [hw] at w2; cases w2
  | cons c l => rw [hw] at w3; exact w3
theorem fields_line {a y m d : Int} (p : Parts a y m d) : Lib.fieldsD (lineOf a y m d) = [weekL ((a / 86400 + 4) % 7), monthL m, Lib.itoa d, clockL (a % 86400 / 3600) (a % 86400 / 60 % 60) (a % 60), Lib.itoa y] := by
  have sm := p.small
  have ww := (weekW ((a / 86400 + 4) % 7) (by omega) (by omega)).1
  have mw := (monthW m (by omega) (by omega)).1
  have dw := itoaW d (by omega)
  have cw := clockW (a % 86400 / 3600) (a % 86400 / 60 % 60) (a % 60) (by omega) (by omega) (by omega) (by omega) (by omega) (by omega)
  have yw := itoaW y (by omega)
  unfold lineOf lineL
  rw [Lib.fieldsD_ascii]
  · unfold Lib.fields
    rw [fieldsGo_word _ _ ww, fieldsGo_word _ _ mw]
    have hd : ∀ l, Lib.fieldsGo [] (dayL d ++ 32 :: l) = Lib.itoa d :: Lib.fieldsGo [] l := fun l => by
      unfold dayL
      split
      · rw [List.cons_append, fieldsGo_blank, fieldsGo_word _ _ dw]
      · rw [fieldsGo_word _ _ dw]
    rw [hd, fieldsGo_word _ _ cw, fieldsGo_last _ yw]
  · intro b hb
    have hday : ∀ c ∈ dayL d, c.toNat < 128 := fun c hc => by
      unfold dayL at hc
      split at hc
      · rcases List.mem_cons.1 hc with rfl | hc
        · decide
        · exact (dw.2 c hc).2
      · exact (dw.2 c hc).2
    simp only [List.mem_append, List.mem_cons] at hb
    rcases hb with hb | rfl | hb | rfl | hb | rfl | hb | rfl | hb
    · exact (ww.2 b hb).2
    · decide
    · exact (mw.2 b hb).2
    · decide
    · exact hday b hb
    · decide
    · exact (cw.2 b hb).2
    · decide
    · exact (yw.2 b hb).2
theorem DV_dig (l : List UInt8) (least most : Int) (h1 : least ≤ (l.length : Int)) (h2 : (l.length : Int) ≤ most) (h : ∀ c ∈ l, dig c = true) : DV l least most = (worth 0 l : Int) := by
  unfold DV
  rw [if_pos ⟨h1, h2, List.all_eq_true.2 h⟩]
theorem DV_two_is (n : Int) (h0 : 0 ≤ n) (h1 : n < 100) : DV (twoL n) 2 2 = n := by
  rw [DV_dig _ _ _ (by simp [twoL]) (by simp [twoL]) (twoL_dig n h0 h1), twoL_worth n h0 h1]
theorem hrs_clock (h i s : Int) (h0 : 0 ≤ h) (h1 : h < 24) (i0 : 0 ≤ i) (i1 : i < 60) (s0 : 0 ≤ s) (s1 : s < 60) : hrs (clockL h i s) = [twoL h, twoL i, twoL s] := by
  have p : ∀ n, 0 ≤ n → n < 100 → ∀ x ∈ twoL n, x ≠ 58 := fun n a b x hx => (dig_plain x (twoL_dig n a b x hx)).2
  have e : splitC 58 [] (clockL h i s) = [twoL h, twoL i, twoL s] := by
    unfold clockL
    rw [splitC_run 58 (twoL h) [] _ (p h h0 (by omega)), splitC, if_pos rfl, splitC_run 58 (twoL i) [] _ (p i i0 (by omega)), splitC, if_pos rfl]
    have := splitC_run 58 (twoL s) [] [] (p s s0 (by omega))
    rw [List.append_nil] at this
    rw [this]
    rfl
  unfold hrs
  rw [e]
  rfl
theorem HR_clock (h i s : Int) (h0 : 0 ≤ h) (h1 : h < 24) (i0 : 0 ≤ i) (i1 : i < 60) (s0 : 0 ≤ s) (s1 : s < 60) : HR [twoL h, twoL i, twoL s] 0 0 0 = (true, 0, 0, 0, h, i, s, 0) := by
  simp only [HR, DV_two_is h h0 (by omega), DV_two_is i i0 (by omega), DV_two_is s s0 (by omega), h0, i0, s0]
  rfl
theorem MF_month (m : Int) (h1 : 1 ≤ m) (h2 : m ≤ 12) : MF (monthL m) = m := by
  have : m = 1 ∨ m = 2 ∨ m = 3 ∨ m = 4 ∨ m = 5 ∨ m = 6 ∨ m = 7 ∨ m = 8 ∨ m = 9 ∨ m = 10 ∨ m = 11 ∨ m = 12 := by omega
  rcases this with h | h | h | h | h | h | h | h | h | h | h | h <;> subst h <;> decide +kernel
theorem read_line {a y m d : Int} (p : Parts a y m d) (k : Nat) (hk : 1000 ≤ k) :
    date_Read.f k (mk (Lib.itoa d ++ 32 :: (monthL m ++ 32 :: (Lib.itoa y ++ 32 :: (clockL (a % 86400 / 3600) (a % 86400 / 60 % 60) (a % 60) ++ 32 :: [90]))))) = some (a, 0) := by
  have sm := p.small
  have dl := dayW d (by omega)
  have yl := yearW y (by omega)
  have ml := (monthW m (by omega) (by omega)).2
  have lo := p.lo
  have hi := p.hi
  have h := read_is k hk (Lib.itoa d ++ 32 :: (monthL m ++ 32 :: (Lib.itoa y ++ 32 :: (clockL (a % 86400 / 3600) (a % 86400 / 60 % 60) (a % 60) ++ 32 :: [90])))) (by simp [ml, clockL, twoL]; omega)
  have dw := itoa_worth d (by omega)
  have yw := itoa_worth y (by omega)
  rw [show ∀ l, mk l = bb l from fun _ => rfl, h, wordsB_word _ _ (itoa_plain d (by omega)).1 (itoa_plain d (by omega)).2, wordsB_word _ _ (monthL_plain m (by omega) (by omega)).1 (monthL_plain m (by omega) (by omega)).2,
    wordsB_word _ _ (itoa_plain y (by omega)).1 (itoa_plain y (by omega)).2, wordsB_word _ _ (clockL_plain _ _ _ (by omega) (by omega) (by omega) (by omega) (by omega) (by omega)).1 (clockL_plain _ _ _ (by omega) (by omega) (by omega) (by omega) (by omega) (by omega)).2, wordsB_last _ (by decide) (by decide), RDW_five]
  unfold RB
  rw [hrs_clock _ _ _ (by omega) (by omega) (by omega) (by omega) (by omega) (by omega), show ZN [90] = (0, true) by decide +kernel, DV_dig (Lib.itoa y) 4 5 (by omega) (by omega) yw.2, yw.1, DV_dig (Lib.itoa d) 1 2 (by omega) (by omega) dw.2, dw.1, MF_month m (by omega) (by omega)]
  rw [HR_clock _ _ _ (by omega) (by omega) (by omega) (by omega) (by omega) (by omega), if_pos ⟨rfl, rfl, by omega, by omega, by omega⟩, num_back a lo hi y m d p.is]
  unfold AT AT2
  rw [if_pos rfl, if_neg (by omega), if_pos (by dsimp only; omega)]
  simp
theorem moment_line {a y m d : Int} (p : Parts a y m d) (k : Nat) (hk : 1000 ≤ k) : mbox_moment.f k (mk (lineOf a y m d)) = some (a, true) := by
  have sm := p.small
  have ll := (lineOf_len p).1
  have dl := dayW d (by omega)
  have yl := yearW y (by omega)
  have ml := (monthW m (by omega) (by omega)).2
  unfold mbox_moment.f strings_Fields.f
  rw [size_mk, if_pos (by omega), data_mk, fields_line p]
  dsimp only [Option.bind_some, List.map_cons, List.map_nil]
  have r := read_line p k hk
  have cl : (clockL (a % 86400 / 3600) (a % 86400 / 60 % 60) (a % 60)).length = 8 := by simp [clockL, twoL]
  generalize clockL (a % 86400 / 3600) (a % 86400 / 60 % 60) (a % 60) = cL at r cl
  have z : ∀ l : List UInt8, (⟨l.toArray⟩ : ByteArray) = mk l := fun _ => rfl
  have q1 : ∀ x0 x1 x2 x3 x4 : ByteArray, rdOf ByteArray.empty [x0, x1, x2, x3, x4] 1 = x1 := fun _ _ _ _ _ => rfl
  have q2 : ∀ x0 x1 x2 x3 x4 : ByteArray, rdOf ByteArray.empty [x0, x1, x2, x3, x4] 2 = x2 := fun _ _ _ _ _ => rfl
  have q3 : ∀ x0 x1 x2 x3 x4 : ByteArray, rdOf ByteArray.empty [x0, x1, x2, x3, x4] 3 = x3 := fun _ _ _ _ _ => rfl
  have q4 : ∀ x0 x1 x2 x3 x4 : ByteArray, rdOf ByteArray.empty [x0, x1, x2, x3, x4] 4 = x4 := fun _ _ _ _ _ => rfl
  simp only [List.map_cons, List.map_nil, z, q1, q2, q3, q4, size_mk, List.length_cons, List.length_nil]
  have e : (((((((mk (Lib.itoa d) ++ mk [32]) ++ mk (monthL m)) ++ mk [32]) ++ mk (Lib.itoa y)) ++ mk [32]) ++ mk cL) ++ mk [32, 90]) = mk (Lib.itoa d ++ 32 :: (monthL m ++ 32 :: (Lib.itoa y ++ 32 :: (cL ++ 32 :: [90])))) := by
    simp only [mk_append]
    simp
  rw [if_pos (by decide), if_pos (by decide), if_pos (by omega), if_pos (by decide), if_pos (by omega), if_pos (by omega), if_pos (by decide), if_pos (by omega), if_pos (by omega), if_pos (by decide), if_pos (by omega), if_pos (by omega), e, r]
  rfl
end Go.Proofs.YtcpmoolpbeeedaaGreatDoor.Q
