-- Texts of this session put together by a program of it (wip/pack.py).
import Derived.Test.YtpniccllpfonfaaGreatDoorKQ0
namespace Go.Proofs.YtpniccllpfonfaaGreatDoor.Q
open Go.RowKit Go.Proofs.YtpniccllpfonfaaGreatDoorW.PrintWords Go.Proofs.YtpniccllpfonfaaGreatDoorW.PrintLast Go.Proofs.YtpniccllpfonfaaGreatDoorW.PrintMore Go.Proofs.YtpniccllpfonfaaGreatDoorW.PrintSq
attribute [local go_sem] max2_int min2_int max_two min_two max_three min_three max_four min_four   -- for this text's walks alone
set_option linter.unusedVariables false
set_option linter.unusedSimpArgs false
/-! ### strconv_Itoa: function 45 -/
def strconv_Itoa.f (a0 : Int) : Option (ByteArray) := if -9223372036854775808 ≤ a0 then (if a0 ≤ 9223372036854775807 then (some ⟨(Lib.itoa a0).toArray⟩) else none) else none
theorem strconv_Itoa.below (w : World) (k : Nat) (os : Array Obj) : Below w.heap.size w (Sort.grow (w.drewN k) os) :=
  ⟨rfl, rfl, rfl, by simp [Sort.grow], fun j hj => by simp [Sort.grow, Array.getElem?_append, hj]⟩
theorem strconv_Itoa.calls (a0 : Int) (r : ByteArray) (w : World) (hG : Amb w) (h : strconv_Itoa.f a0 = some r) :
    Calls Tryz.prog 45 #[.int .i64 a0] w fun e w' => e = .returned (.string r) ∧ Below w.heap.size w w' := by
 unfold strconv_Itoa.f at h
 by_cases h0 : -9223372036854775808 ≤ a0
 ·rw [if_pos h0] at h
  by_cases h1 : a0 ≤ 9223372036854775807
  ·rw [if_pos h1] at h
   obtain rfl := Option.some.inj h
   refine (Tryz.strconv_Itoa a0 h0 h1 w hG.pow).mono ?_
   rintro e w' ⟨rfl, k, os, rfl⟩
   exact ⟨rfl, strconv_Itoa.below w k os⟩
  ·rw [if_neg h1] at h
   cases h
 ·rw [if_neg h0] at h
  cases h
/-! ### store_figure: function 43 -/
def store_figure.l0 : Nat → ByteArray → Int → Int → Int → Option (Int)
  | 0, _, _, _, _ => none
  | k + 1, x0, x3, x6, x7 => if x7 < x6 then (if 0 ≤ x7 then (if x7 < (x0.size : Int) then (if (bt x0 x7) < 48 then (some 0) else (if (bt x0 x7) > 57 then (some 0) else (if x7 = 13 then (some 0) else (store_figure.l0 k x0 (wrap64 ((wrap64 (10 * x3)) + (((bt x0 x7) - 48) % 256))) x6 (wrap64 (x7 + 1)))))) else (none)) else (none)) else ((strconv_Itoa.f x3).bind fun t195 => (if t195.toList = x0.toList then (some x3) else (some 0)))
def store_figure.f (k : Nat) (a0 : ByteArray) : Option (Int) := store_figure.l0 k a0 0 (a0.size : Int) 0
theorem store_figure.mono_l : ∀ k, (∀ y0 y1 y2 y3, LeO (store_figure.l0 k y0 y1 y2 y3) (store_figure.l0 (k + 1) y0 y1 y2 y3))
  | 0 => fun _ _ _ _ r h => by simp [store_figure.l0] at h
  | k + 1 => by
    have ih0 := store_figure.mono_l k
    · intro y0 y1 y2 y3
      unfold store_figure.l0
      repeat' first | (with_reducible first | exact ih0 _ _ _ _ | exact LeO.refl _ | exact LeO.none _ | refine LeO.ite ?_ ?_ | refine LeO.bind ?_ (fun _ => ?_)) | exact ih0 _ _ _ _ | exact LeO.none _ | refine LeO.ite ?_ ?_ | refine LeO.bind ?_ (fun _ => ?_)
theorem store_figure.mono : ∀ a0 k, LeO (store_figure.f k a0) (store_figure.f (k + 1) a0) := by
  intro a0 k
  have ih0 := store_figure.mono_l k
  unfold store_figure.f
  repeat' first | (with_reducible first | exact ih0 _ _ _ _ | exact LeO.refl _ | exact LeO.none _ | refine LeO.ite ?_ ?_ | refine LeO.bind ?_ (fun _ => ?_)) | exact ih0 _ _ _ _ | exact LeO.none _ | refine LeO.ite ?_ ?_ | refine LeO.bind ?_ (fun _ => ?_)
set_option maxHeartbeats 8000000 in
set_option maxRecDepth 100000 in
theorem store_figure.calls (k : Nat) (a0 : ByteArray) (r : Int) (w : World) (hG : Amb w) (h : store_figure.f k a0 = some r) :
    Calls Tryz.prog 43 #[.string a0] w fun e w' => e = .returned (.int .i64 r) ∧ Below w.heap.size w w' := by
 have HB := Aside0.mk (Below.refl w.heap.size w)
 unfold store_figure.f at h
 have H := h
 clear h
 have HG := Aside0.mk hG
 clear hG
 have H' := Aside0.mk H
 clear H
 go_enter Tryz.func43, Tryz.ntmps43
 go_wp2
 go_loopg [3, 7] k (fun kq v3 v7 w' => ∃ (x3_1 : Int) (x7_1 : Int), v3 = .int .i64 x3_1 ∧ v7 = .int .i64 x7_1 ∧ Aside0 (store_figure.l0 kq a0 x3_1 (a0.size : Int) x7_1 = some r) ∧ Aside0 (kq ≤ k) ∧ Aside0 (Below w.heap.size w w'))
 case atStart => exact ⟨(0), (0), eqs, eqs, H', ⟨Nat.le_refl _⟩, ⟨blw⟩⟩
 case round =>
  clear H'
  obtain ⟨x3_1, x7_1, rfl, rfl, HA, HK1, HB⟩ := hrel
  cases gk with
  | zero => exact absurd HA.out (by simp [store_figure.l0])
  | succ k1 =>
   have H := HA.out
   clear HA
   simp only [store_figure.l0] at H
   by_cases c2 : x7_1 < (a0.size : Int)
   ·rw [if_pos c2] at H
    have c2b0 := decide_eq_true c2
    clear c2
    obtain ⟨c3, H⟩ := iteS H
    have c3b0 := decide_eq_true c3
    clear c3
    obtain ⟨c4, H⟩ := iteS H
    have c4b0 := decide_eq_true c4
    clear c4
    by_cases c6 : (bt a0 x7_1) < 48
    ·rw [if_pos c6] at H
     have c6b0 := decide_eq_true c6
     clear c6
     obtain rfl := Option.some.inj H
     have p5 : 0 ≤ (x7_1 : Int) := od_
     have q5 : x7_1 < (a0.size : Int) := od_
     have hx5 := bt_at a0 x7_1
     replace p5 := eq_true p5
     replace q5 := eq_true q5
     go_wp2
     go_ret
     exact ⟨by first | rfl | (simp [errW_none, errW_some] <;> rfl) | (simp [*, errW_none, errW_some] <;> rfl), blw⟩
    ·rw [if_neg c6] at H
     have c6b0 := decide_eq_false c6
     clear c6
     by_cases c8 : (bt a0 x7_1) > 57
     ·rw [if_pos c8] at H
      have c8b0 : decide (57 < (bt a0 x7_1)) = true := decide_eq_true c8
      clear c8
      obtain rfl := Option.some.inj H
      have p5 : 0 ≤ (x7_1 : Int) := od_
      have q5 : x7_1 < (a0.size : Int) := od_
      have hx5 := bt_at a0 x7_1
      replace p5 := eq_true p5
      replace q5 := eq_true q5
      have p7 : 0 ≤ (x7_1 : Int) := od_
      have q7 : x7_1 < (a0.size : Int) := od_
      have hx7 := bt_at a0 x7_1
      replace p7 := eq_true p7
      replace q7 := eq_true q7
      go_wp2
      go_ret
      exact ⟨by first | rfl | (simp [errW_none, errW_some] <;> rfl) | (simp [*, errW_none, errW_some] <;> rfl), blw⟩
     ·rw [if_neg c8] at H
      have c8b0 : decide (57 < (bt a0 x7_1)) = false := decide_eq_false c8
      clear c8
      by_cases c9 : x7_1 = 13
      ·rw [if_pos c9] at H
       have c9b0 := beq_iff_eq.mpr c9
       have c9b1 := bne_eq_false_iff_eq.mpr c9
       clear c9
       obtain rfl := Option.some.inj H
       have p5 : 0 ≤ (x7_1 : Int) := od_
       have q5 : x7_1 < (a0.size : Int) := od_
       have hx5 := bt_at a0 x7_1
       replace p5 := eq_true p5
       replace q5 := eq_true q5
       have p7 : 0 ≤ (x7_1 : Int) := od_
       have q7 : x7_1 < (a0.size : Int) := od_
       have hx7 := bt_at a0 x7_1
       replace p7 := eq_true p7
       replace q7 := eq_true q7
       go_wp2
       go_ret
       exact ⟨by first | rfl | (simp [errW_none, errW_some] <;> rfl) | (simp [*, errW_none, errW_some] <;> rfl), blw⟩
      ·rw [if_neg c9] at H
       have c9b0 := beq_eq_false_iff_ne.mpr c9
       have c9b1 := bne_iff_ne.mpr c9
       have H' := Aside0.mk H
       clear H
       have p5 : 0 ≤ (x7_1 : Int) := od_
       have q5 : x7_1 < (a0.size : Int) := od_
       have hx5 := bt_at a0 x7_1
       replace p5 := eq_true p5
       replace q5 := eq_true q5
       have p7 : 0 ≤ (x7_1 : Int) := od_
       have q7 : x7_1 < (a0.size : Int) := od_
       have hx7 := bt_at a0 x7_1
       replace p7 := eq_true p7
       replace q7 := eq_true q7
       have p10 : 0 ≤ (x7_1 : Int) := od_
       have q10 : x7_1 < (a0.size : Int) := od_
       have hx10 := bt_at a0 x7_1
       replace p10 := eq_true p10
       replace q10 := eq_true q10
       go_wp2
       go_roundg k1
       case measure => have := HK1.out; omega
       case rel => exact ⟨(wrap64 ((wrap64 (10 * x3_1)) + (((bt a0 x7_1) - 48) % 256))), (wrap64 (x7_1 + 1)), eqs, eqs, H', ⟨by have := HK1.out; omega⟩, ⟨blw⟩⟩
   ·rw [if_neg c2] at H
    have c2b0 := decide_eq_false c2
    clear c2
    replace H := Option.bind_eq_some_iff.mp H
    obtain ⟨t195, A110, H⟩ := H
    try dsimp only at H
    have A11 := Aside0.mk A110
    clear A110
    by_cases c12 : t195.toList = a0.toList
    ·rw [if_pos c12] at H
     have c12b0 := beq_iff_eq.mpr c12
     have c12b1 := bne_eq_false_iff_eq.mpr c12
     clear c12
     obtain rfl := Option.some.inj H
     go_wp2_with (first | ((with_reducible refine gc 45 rfl ?_); refine cl_ (some 34) Tryz.func45 (strconv_Itoa.calls x3_1 t195 _ (Amb.at HG.out blw) A11.out) ?_; rintro w13 hb; replace HB := Aside0.mk (below_step blw hb); (try clear hb)))
     go_ret
     exact ⟨by first | rfl | (simp [errW_none, errW_some] <;> rfl) | (simp [*, errW_none, errW_some] <;> rfl), blw⟩
    ·rw [if_neg c12] at H
     have c12b0 := beq_eq_false_iff_ne.mpr c12
     have c12b1 := bne_iff_ne.mpr c12
     obtain rfl := Option.some.inj H
     go_wp2_with (first | ((with_reducible refine gc 45 rfl ?_); refine cl_ (some 34) Tryz.func45 (strconv_Itoa.calls x3_1 t195 _ (Amb.at HG.out blw) A11.out) ?_; rintro w14 hb; replace HB := Aside0.mk (below_step blw hb); (try clear hb)))
     go_ret
     exact ⟨by first | rfl | (simp [errW_none, errW_some] <;> rfl) | (simp [*, errW_none, errW_some] <;> rfl), blw⟩
-- NOT PRINTED: function 81 (store_Tx_keep)
-- NOT PRINTED: function 44 (store_Tx_Put)
-- NOT PRINTED: function 12 (store_Tx_Next)
-- NOT PRINTED: function 47 (batch_Batch_Clear)
-- NOT PRINTED: function 13 (store_Tx_Commit)
/-! ### store_members: function 53 -/
def store_members.f (a0 : ByteArray) : Option (ByteArray) := if 2 + a0.size ≤ 9223372036854775807 then (if 2 + a0.size + 1 ≤ 9223372036854775807 then (some (((⟨#[109, 47]⟩ : ByteArray) ++ a0) ++ (⟨#[47]⟩ : ByteArray))) else (none)) else (none)
set_option maxHeartbeats 8000000 in
set_option maxRecDepth 100000 in
theorem store_members.calls (a0 : ByteArray) (r : ByteArray) (w : World) (h : store_members.f a0 = some r) :
    Calls Tryz.prog 53 #[.string a0] w fun e w' => e = .returned (.string r) ∧ Drawn0 w w' := by
 unfold store_members.f at h
 have H := h
 clear h
 obtain ⟨c2, H⟩ := iteS H
 have c2b0 := eq_true c2
 have c2b1 := decide_eq_true c2
 try have c2b2 := eq_false (Nat.not_lt.2 c2)
 obtain ⟨c3, H⟩ := iteS H
 have c3b0 := eq_true c3
 have c3b1 := decide_eq_true c3
 try have c3b2 := eq_false (Nat.not_lt.2 c3)
 obtain rfl := Option.some.inj H
 go_enter Tryz.func53, Tryz.ntmps53
 go_wp2
 go_ret
 exact ⟨eqs, drw⟩
/-! ### glyph_Fold: function 96 -/
/-- A small letter for a capital one. -/
def glyph_Fold.low (c : UInt8) : UInt8 := if 65 ≤ c.toNat ∧ c.toNat ≤ 90 then c + 32 else c
/-- A text in small letters. -/
def glyph_Fold.g (s : ByteArray) : ByteArray := ⟨(s.data.toList.map glyph_Fold.low).toArray⟩
def glyph_Fold.f (a0 : ByteArray) : Option (ByteArray) := if a0.size ≤ 140737488355327 then (some (glyph_Fold.g a0)) else none
theorem glyph_Fold.take_snoc (s : ByteArray) (k : Nat) (h : k < s.size) : (s.data.toList.map glyph_Fold.low).take (k + 1) = (s.data.toList.map glyph_Fold.low).take k ++ [glyph_Fold.low (s[k]'h)] := by
  rw [List.take_succ_eq_append_getElem (by simpa using h), List.getElem_map]
  rfl
theorem glyph_Fold.cell (l : List UInt8) (c : UInt8) (n : Int) (h : (c.toNat : Int) = n) : Lib.byteCells (l ++ [c]) = Lib.byteCells l ++ [.int .u8 n] := by
  rw [Lib.byteCells_append, ← h]
  rfl
theorem glyph_Fold.low_yes (c : UInt8) (h1 : 65 ≤ (c.toNat : Int)) (h2 : (c.toNat : Int) ≤ 90) : ((glyph_Fold.low c).toNat : Int) = (c.toNat : Int) + 32 := by
  unfold glyph_Fold.low
  rw [if_pos ⟨by omega, by omega⟩, UInt8.toNat_add]
  have : (32 : UInt8).toNat = 32 := rfl
  rw [this]
  omega
theorem glyph_Fold.low_no (c : UInt8) (h : ¬ (65 ≤ c.toNat ∧ c.toNat ≤ 90)) : ((glyph_Fold.low c).toNat : Int) = (c.toNat : Int) := by
  unfold glyph_Fold.low
  rw [if_neg h]
set_option maxHeartbeats 4000000 in
set_option maxRecDepth 1000000 in
theorem glyph_Fold.walk (s : ByteArray) (w : World) (hs : s.size ≤ 140737488355327) :
    Calls Tryz.prog 96 #[.string s] w fun e w' => e = .returned (.string (glyph_Fold.g s)) ∧ Below w.heap.size w w' := by
  go_enter Tryz.func96, Tryz.ntmps96
  go_wp2
  go_loopw [8] (fun i wr => ∃ k : Nat, k ≤ s.size ∧ i = .int .i64 k ∧ Lib.IsBuilderF 193 5 w.heap.size w.heap.size (Lib.byteCells ((s.data.toList.map glyph_Fold.low).take k)) wr ∧ Below w.heap.size w wr) (fun i _ => s.size - (intOf i).toNat)
  case atStart =>
    exact ⟨0, Nat.zero_le _, rfl, Lib.IsBuilderF.of (Lib.fresh_isBuilder 193 5 w), (Below.refl _ w).alloc (Nat.le_refl _) _⟩
  case round =>
    obtain ⟨k, hk, rfl, hI, hbw⟩ := hrel
    have hsz := hbw.size
    have hl : ((s.data.toList.map glyph_Fold.low).take k).length ≤ s.size := by rw [List.length_take, List.length_map, data_length]; omega
    by_cases hlt : k < s.size
    · have HS := Lib.hid (glyph_Fold.take_snoc s k hlt)
      have hc0 : ((s[k]'hlt).toNat : Int) < 256 := by have := (s[k]'hlt).toNat_lt; omega
      by_cases h1 : 65 ≤ ((s[k]'hlt).toNat : Int)
      · by_cases h2 : ((s[k]'hlt).toNat : Int) ≤ 90
        · have HL := Lib.hid (glyph_Fold.low_yes _ h1 h2)
          go_wp2_with fail
          refine (Bld.WriteByte w.heap.size w.heap.size _ _ _ hI (by rw [Lib.byteCells_length]; omega) hsz).mono ?_
          rintro e W1 ⟨rfl, h3, b1, _⟩
          go_wp2
          go_roundw
          case rel => exact ⟨k + 1, by omega, by go_num, by rw [HS.out, glyph_Fold.cell _ _ _ HL.out]; exact Or.inr h3, hbw.trans b1⟩
          case measure => simp [intOf]; omega
        · have HL := Lib.hid (glyph_Fold.low_no (s[k]'hlt) (by omega))
          go_wp2_with fail
          refine (Bld.WriteByte w.heap.size w.heap.size _ _ _ hI (by rw [Lib.byteCells_length]; omega) hsz).mono ?_
          rintro e W1 ⟨rfl, h3, b1, _⟩
          go_wp2
          go_roundw
          case rel => exact ⟨k + 1, by omega, by go_num, by rw [HS.out, glyph_Fold.cell _ _ _ HL.out]; exact Or.inr h3, hbw.trans b1⟩
          case measure => simp [intOf]; omega
      · have HL := Lib.hid (glyph_Fold.low_no (s[k]'hlt) (by omega))
        go_wp2_with fail
        refine (Bld.WriteByte w.heap.size w.heap.size _ _ _ hI (by rw [Lib.byteCells_length]; omega) hsz).mono ?_
        rintro e W1 ⟨rfl, h3, b1, _⟩
        go_wp2
        go_roundw
        case rel => exact ⟨k + 1, by omega, by go_num, by rw [HS.out, glyph_Fold.cell _ _ _ HL.out]; exact Or.inr h3, hbw.trans b1⟩
        case measure => simp [intOf]; omega
    · obtain rfl : s.size = k := by omega
      have HT := Lib.hid (show (s.data.toList.map glyph_Fold.low).take s.size = s.data.toList.map glyph_Fold.low from List.take_of_length_le (by rw [List.length_map, data_length]; exact Nat.le_refl _))
      go_wp2_with fail
      refine (Tryz.Builder_String_any_k w.heap.size w.heap.size _ _ hI (by omega)).mono ?_
      rintro e W1 ⟨rfl, _, b1, _⟩
      go_wp2
      go_ret
      exact ⟨congrArg (fun l : List UInt8 => Ending.returned (.string ⟨l.toArray⟩)) HT.out, hbw.trans b1⟩
theorem glyph_Fold.calls (a0 : ByteArray) (r : ByteArray) (w : World) (h : glyph_Fold.f a0 = some r) :
    Calls Tryz.prog 96 #[.string a0] w fun e w' => e = .returned (.string r) ∧ Below w.heap.size w w' := by
 unfold glyph_Fold.f at h
 by_cases h0 : a0.size ≤ 140737488355327
 ·rw [if_pos h0] at h
  obtain rfl := Option.some.inj h
  exact glyph_Fold.walk a0 w h0
 ·rw [if_neg h0] at h
  cases h
/-! ### strings_IndexByte: function 159 -/
def strings_IndexByte.f (a0 : ByteArray) (a1 : Int) : Option (Int) := some (Lib.indexByte a0.data.toList a1.toNat.toUInt8)
theorem strings_IndexByte.calls (a0 : ByteArray) (a1 : Int) (r : Int) (w : World) (h : strings_IndexByte.f a0 a1 = some r) :
    Calls Tryz.prog 159 #[.string a0, .int .u8 a1] w fun e w' => e = .returned (.int .i64 r) ∧ Drawn0 w w' := by
 unfold strings_IndexByte.f at h
 obtain rfl := Option.some.inj h
 refine (Tryz.strings_IndexByte a0 a1 w).mono ?_
 rintro e w' ⟨rfl, rfl⟩
 exact ⟨rfl, Drawn0.refl _⟩
end Go.Proofs.YtpniccllpfonfaaGreatDoor.Q
