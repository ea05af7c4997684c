-- Written by a program of this session (wip/myprint) out of the translation, for YtcgfaagadejpmaaGreatDoor.
import Derived.Test.YtcgfaagadejpmaaGreatDoorQ0
import Derived.Test.YtcgfaagadejpmaaGreatDoorQ2
import Derived.Test.YtcgfaagadejpmaaGreatDoorQ8
namespace Go.Proofs.YtcgfaagadejpmaaGreatDoor.Q
open Go.RowKit Go.Proofs.YtcgfaagadejpmaaGreatDoorW.PrintWords Go.Proofs.YtcgfaagadejpmaaGreatDoorW.PrintLast Go.Proofs.YtcgfaagadejpmaaGreatDoorW.PrintMore Go.Proofs.YtcgfaagadejpmaaGreatDoorW.PrintSq
attribute [local go_sem] max2_int min2_int max_two min_two max_three min_three max_four min_four   -- for this text's walks alone
set_option linter.unusedVariables false
set_option linter.unusedSimpArgs false

attribute [local go_sem high] eqA119
/-! ### glyph_Fold: function 69 -/
/-- A small letter for a capital one. -/
def glyph_Fold.low (c : UInt8) : UInt8 := if 65 ≤ c.toNat ∧ c.toNat ≤ 90 then c + 32 else c
/-- A text in small letters. -/
def glyph_Fold.g (s : ByteArray) : ByteArray := ⟨(s.data.toList.map glyph_Fold.low).toArray⟩
def glyph_Fold.f (a0 : ByteArray) : Option (ByteArray) := if a0.size ≤ 140737488355327 then (some (glyph_Fold.g a0)) else none
theorem glyph_Fold.take_snoc (s : ByteArray) (k : Nat) (h : k < s.size) : (s.data.toList.map glyph_Fold.low).take (k + 1) = (s.data.toList.map glyph_Fold.low).take k ++ [glyph_Fold.low (s[k]'h)] := by
  rw [List.take_succ_eq_append_getElem (by simpa using h), List.getElem_map]
  rfl
theorem glyph_Fold.cell (l : List UInt8) (c : UInt8) (n : Int) (h : (c.toNat : Int) = n) : Lib.byteCells (l ++ [c]) = Lib.byteCells l ++ [.int .u8 n] := by
  rw [Lib.byteCells_append, ← h]
  rfl
theorem glyph_Fold.low_yes (c : UInt8) (h1 : 65 ≤ (c.toNat : Int)) (h2 : (c.toNat : Int) ≤ 90) : ((glyph_Fold.low c).toNat : Int) = (c.toNat : Int) + 32 := by
  unfold glyph_Fold.low
  rw [if_pos ⟨by omega, by omega⟩, UInt8.toNat_add]
  have : (32 : UInt8).toNat = 32 := rfl
  rw [this]
  omega
theorem glyph_Fold.low_no (c : UInt8) (h : ¬ (65 ≤ c.toNat ∧ c.toNat ≤ 90)) : ((glyph_Fold.low c).toNat : Int) = (c.toNat : Int) := by
  unfold glyph_Fold.low
  rw [if_neg h]
set_option maxHeartbeats 4000000 in
set_option maxRecDepth 1000000 in
theorem glyph_Fold.walk (s : ByteArray) (w : World) (hs : s.size ≤ 140737488355327) :
    Calls Tryz.prog 69 #[.string s] w fun e w' => e = .returned (.string (glyph_Fold.g s)) ∧ Below w.heap.size w w' := by
  go_enter Tryz.func69, Tryz.ntmps69
  go_wp2
  go_loopw [8] (fun i wr => ∃ k : Nat, k ≤ s.size ∧ i = .int .i64 k ∧ Lib.IsBuilderF 45 5 w.heap.size w.heap.size (Lib.byteCells ((s.data.toList.map glyph_Fold.low).take k)) wr ∧ Below w.heap.size w wr) (fun i _ => s.size - (intOf i).toNat)
  case atStart =>
    exact ⟨0, Nat.zero_le _, rfl, Lib.IsBuilderF.of (Lib.fresh_isBuilder 45 5 w), (Below.refl _ w).alloc (Nat.le_refl _) _⟩
  case round =>
    obtain ⟨k, hk, rfl, hI, hbw⟩ := hrel
    have hsz := hbw.size
    have hl : ((s.data.toList.map glyph_Fold.low).take k).length ≤ s.size := by rw [List.length_take, List.length_map, data_length]; omega
    by_cases hlt : k < s.size
    · have HS := Lib.hid (glyph_Fold.take_snoc s k hlt)
      have hc0 : ((s[k]'hlt).toNat : Int) < 256 := by have := (s[k]'hlt).toNat_lt; omega
      by_cases h1 : 65 ≤ ((s[k]'hlt).toNat : Int)
      · by_cases h2 : ((s[k]'hlt).toNat : Int) ≤ 90
        · have HL := Lib.hid (glyph_Fold.low_yes _ h1 h2)
          go_wp2_with fail
          refine (Bld.WriteByte w.heap.size w.heap.size _ _ _ hI (by rw [Lib.byteCells_length]; omega) hsz).mono ?_
          rintro e W1 ⟨rfl, h3, b1, _⟩
          go_wp2
          go_roundw
          case rel => exact ⟨k + 1, by omega, by go_num, by rw [HS.out, glyph_Fold.cell _ _ _ HL.out]; exact Or.inr h3, hbw.trans b1⟩
          case measure => simp [intOf]; omega
        · have HL := Lib.hid (glyph_Fold.low_no (s[k]'hlt) (by omega))
          go_wp2_with fail
          refine (Bld.WriteByte w.heap.size w.heap.size _ _ _ hI (by rw [Lib.byteCells_length]; omega) hsz).mono ?_
          rintro e W1 ⟨rfl, h3, b1, _⟩
          go_wp2
          go_roundw
          case rel => exact ⟨k + 1, by omega, by go_num, by rw [HS.out, glyph_Fold.cell _ _ _ HL.out]; exact Or.inr h3, hbw.trans b1⟩
          case measure => simp [intOf]; omega
      · have HL := Lib.hid (glyph_Fold.low_no (s[k]'hlt) (by omega))
        go_wp2_with fail
        refine (Bld.WriteByte w.heap.size w.heap.size _ _ _ hI (by rw [Lib.byteCells_length]; omega) hsz).mono ?_
        rintro e W1 ⟨rfl, h3, b1, _⟩
        go_wp2
        go_roundw
        case rel => exact ⟨k + 1, by omega, by go_num, by rw [HS.out, glyph_Fold.cell _ _ _ HL.out]; exact Or.inr h3, hbw.trans b1⟩
        case measure => simp [intOf]; omega
    · obtain rfl : s.size = k := by omega
      have HT := Lib.hid (show (s.data.toList.map glyph_Fold.low).take s.size = s.data.toList.map glyph_Fold.low from List.take_of_length_le (by rw [List.length_map, data_length]; exact Nat.le_refl _))
      go_wp2_with fail
      refine (Tryz.Builder_String_any_k w.heap.size w.heap.size _ _ hI (by omega)).mono ?_
      rintro e W1 ⟨rfl, _, b1, _⟩
      go_wp2
      go_ret
      exact ⟨congrArg (fun l : List UInt8 => Ending.returned (.string ⟨l.toArray⟩)) HT.out, hbw.trans b1⟩
theorem glyph_Fold.calls (a0 : ByteArray) (r : ByteArray) (w : World) (h : glyph_Fold.f a0 = some r) :
    Calls Tryz.prog 69 #[.string a0] w fun e w' => e = .returned (.string r) ∧ Below w.heap.size w w' := by
 unfold glyph_Fold.f at h
 by_cases h0 : a0.size ≤ 140737488355327
 ·rw [if_pos h0] at h
  obtain rfl := Option.some.inj h
  exact glyph_Fold.walk a0 w h0
 ·rw [if_neg h0] at h
  cases h

/-! ### addr_is: function 89 -/
def addr_is.f (l0 : List (S119)) (a1 : ByteArray) : Option (Bool) := if (l0.length : Int) > 0 then (if 0 < (l0.length : Int) then (some (((rd_T119 l0 0).f0) == 3 && ((((rd_T119 l0 0).f1).toList) == a1.toList))) else (none)) else (some false)
set_option maxHeartbeats 8000000 in
set_option maxRecDepth 100000 in
theorem addr_is.calls (A0 : Option Addr) (c0 : Nat) (l0 : List (S119)) (a1 : ByteArray) (r : Bool) (w : World) (hr0 : Kd.C k119 w A0 l0.length l0) (hc0 : l0.length ≤ c0) (h : addr_is.f l0 a1 = some r) :
    Calls Tryz.prog 89 #[.slice A0 l0.length c0, .string a1] w fun e w' => e = .returned (.bool r) ∧ Drawn0 w w' := by
 have hu119 := Tryz.underlying119
 have HR0 := Aside0.mk hr0
 have HC0 := Aside0.mk hc0
 clear hr0 hc0
 unfold addr_is.f at h
 have H := h
 clear h
 by_cases c3 : (l0.length : Int) > 0
 ·rw [if_pos c3] at H
  have c3b0 : decide (0 < (l0.length : Int)) = true := decide_eq_true c3
  have c3b1 : decide (0 < l0.length) = true := decide_eq_true (by omega)
  clear c3
  obtain ⟨c4, H⟩ := iteS H
  have c4b0 := decide_eq_true c4
  have c4b1 : decide (0 < l0.length) = true := decide_eq_true (by omega)
  clear c4
  obtain rfl := Option.some.inj H
  have p158 : 0 ≤ (0 : Int) := (by omega)
  have q158 : 0 < (l0.length : Int) := od_
  obtain ⟨ad158, e158, hx158_0, hx158_1⟩ := at_T119 HR0.out 0 p158 q158
  cases e158
  have qi158 : (0 < l0.length) = True := eq_true (by omega)
  (try rw [show ((0 : Int)).toNat = 0 from rfl] at hx158_0)
  (try rw [show 0 * 2 = 0 from rfl] at hx158_0)
  (try rw [Addr.add_zero'] at hx158_0)
  (try rw [show ((0 : Int)).toNat = 0 from rfl] at hx158_1)
  (try rw [show 0 * 2 = 0 from rfl] at hx158_1)
  (try rw [Addr.add_zero'] at hx158_1)
  replace p158 := eq_true p158
  replace q158 := eq_true q158
  go_enter Tryz.func89, Tryz.ntmps89
  go_wp2
  go_ret
  exact ⟨eqs, drw⟩
 ·rw [if_neg c3] at H
  have c3b0 : decide (0 < (l0.length : Int)) = false := decide_eq_false c3
  have c3b1 : decide (0 < l0.length) = false := decide_eq_false (by omega)
  clear c3
  obtain rfl := Option.some.inj H
  go_enter Tryz.func89, Tryz.ntmps89
  go_wp2
  go_ret
  exact ⟨eqs, drw⟩

/-! ### addr_joined: function 88 -/
mutual
def addr_joined.l0 : Nat → List (S119) → Bool → ByteArray → Option (ByteArray × (List (S119)) × Bool)
  | 0, _, _, _ => none
  | k + 1, x0, x1, x7 => if (x0.length : Int) = 0 then (addr_joined.j1 k x0 x1 x7 true) else (if 0 < (x0.length : Int) then (if ((rd_T119 x0 0).f0) = 3 then (addr_joined.j1 k x0 x1 x7 true) else (if x1 = true then (addr_joined.j1 k x0 x1 x7 (((rd_T119 x0 0).f0) != 1)) else (addr_joined.j1 k x0 x1 x7 false))) else (none))
def addr_joined.j1 : Nat → List (S119) → Bool → ByteArray → Bool → Option (ByteArray × (List (S119)) × Bool)
  | 0, _, _, _, _ => none
  | k + 1, x0, x1, x7, x27 => if x27 = true then (some ((⟨#[]⟩ : ByteArray), ([] : List (S119)), false)) else (if 0 < (x0.length : Int) then (if x7.size + ((rd_T119 x0 0).f1).size ≤ 9223372036854775807 then (if 1 ≤ (x0.length : Int) then ((some (x0.drop 1 : List (S119))).bind fun y162 => ((addr_is.f y162 (⟨#[46]⟩ : ByteArray)).bind fun t167 => (if t167 = true then (if x7.size + ((rd_T119 x0 0).f1).size + 1 ≤ 9223372036854775807 then (if 1 ≤ (y162.length : Int) then (addr_joined.l0 k (y162.drop 1) x1 ((x7 ++ ((rd_T119 x0 0).f1)) ++ (⟨#[46]⟩ : ByteArray))) else (none)) else (none)) else (some (x7 ++ ((rd_T119 x0 0).f1), y162, true))))) else (none)) else (none)) else (none))
end
def addr_joined.f (k : Nat) (l0 : List (S119)) (a1 : Bool) : Option (ByteArray × (List (S119)) × Bool) := addr_joined.l0 k l0 a1 (⟨#[]⟩ : ByteArray)
theorem addr_joined.mono_l : ∀ k, (∀ y0 y1 y2, LeO (addr_joined.l0 k y0 y1 y2) (addr_joined.l0 (k + 1) y0 y1 y2)) ∧ (∀ y0 y1 y2 y3, LeO (addr_joined.j1 k y0 y1 y2 y3) (addr_joined.j1 (k + 1) y0 y1 y2 y3))
  | 0 => ⟨fun _ _ _ r h => by simp [addr_joined.l0] at h, fun _ _ _ _ r h => by simp [addr_joined.j1] at h⟩
  | k + 1 => by
    obtain ⟨ih0, ih1⟩ := addr_joined.mono_l k
    refine ⟨?_, ?_⟩
    · intro y0 y1 y2
      unfold addr_joined.l0
      repeat' first | (with_reducible first | exact ih0 _ _ _ | exact ih1 _ _ _ _ | exact LeO.refl _ | exact LeO.none _ | refine LeO.ite ?_ ?_ | refine LeO.bind ?_ (fun _ => ?_)) | exact ih0 _ _ _ | exact ih1 _ _ _ _ | exact LeO.none _ | refine LeO.ite ?_ ?_ | refine LeO.bind ?_ (fun _ => ?_)
    · intro y0 y1 y2 y3
      unfold addr_joined.j1
      repeat' first | (with_reducible first | exact ih0 _ _ _ | exact ih1 _ _ _ _ | exact LeO.refl _ | exact LeO.none _ | refine LeO.ite ?_ ?_ | refine LeO.bind ?_ (fun _ => ?_)) | exact ih0 _ _ _ | exact ih1 _ _ _ _ | exact LeO.none _ | refine LeO.ite ?_ ?_ | refine LeO.bind ?_ (fun _ => ?_)
theorem addr_joined.mono : ∀ a0 a1 k, LeO (addr_joined.f k a0 a1) (addr_joined.f (k + 1) a0 a1) := by
  intro a0 a1 k
  obtain ⟨ih0, ih1⟩ := addr_joined.mono_l k
  unfold addr_joined.f
  repeat' first | (with_reducible first | exact ih0 _ _ _ | exact ih1 _ _ _ _ | exact LeO.refl _ | exact LeO.none _ | refine LeO.ite ?_ ?_ | refine LeO.bind ?_ (fun _ => ?_)) | exact ih0 _ _ _ | exact ih1 _ _ _ _ | exact LeO.none _ | refine LeO.ite ?_ ?_ | refine LeO.bind ?_ (fun _ => ?_)
set_option maxHeartbeats 8000000 in
set_option maxRecDepth 100000 in
theorem addr_joined.calls (k : Nat) (P0_ : Nat → Prop) (A0 : Option Addr) (c0 : Nat) (l0 : List (S119)) (a1 : Bool) (r1 : ByteArray) (r2 : List (S119)) (r3 : Bool) (w : World) (hs0 : Kd.V k119 119 w w.heap.size (fun k_ => P0_ k_) (.slice A0 l0.length c0) l0) (h : addr_joined.f k l0 a1 = some (r1, r2, r3)) :
    Calls Tryz.prog 88 #[.slice A0 l0.length c0, .bool a1] w fun e w' => ∃ v1_ : Value, e = .returned (.tuple #[.string r1, v1_, .bool r3]) ∧ Kd.V k119 119 w' w.heap.size (fun k_ => (P0_ k_ ∨ w.heap.size ≤ k_)) v1_ r2 ∧ Below w.heap.size w w' := by
 have HO0 := Aside0.mk (show Kd.V k119 119 w w.heap.size (fun k_ => (P0_ k_ ∨ w.heap.size ≤ k_)) (.slice A0 l0.length c0) l0 from Kd.V_mono hs0 (fun k_ hk => .inl hk))
 have HB := Aside0.mk (Below.refl w.heap.size w)
 unfold addr_joined.f at h
 have H := h
 clear h
 have H' := Aside0.mk H
 clear H
 go_enter Tryz.func88, Tryz.ntmps88
 go_wp2
 go_loopg [0, 7] k (fun kq v0 v7 w' => ∃ (x0_1 : List (S119)) (x7_1 : ByteArray), v7 = .string x7_1 ∧ Aside0 (addr_joined.l0 kq x0_1 a1 x7_1 = some (r1, r2, r3)) ∧ Aside0 (kq ≤ k) ∧ Aside0 (Kd.V k119 119 w' w.heap.size (fun k_ => (P0_ k_ ∨ w.heap.size ≤ k_)) v0 x0_1) ∧ Aside0 (Below w.heap.size w w'))
 case atStart => exact ⟨(l0), ((⟨#[]⟩ : ByteArray)), eqs, H', ⟨Nat.le_refl _⟩, ⟨by (with_reducible repeat (first | apply Kd.V_alloc | apply Kd.V_drewN | apply Kd.V_drew)); exact HO0.out⟩, ⟨blw⟩⟩
 case round =>
  clear H'
  try clear p2
  obtain ⟨x0_1, x7_1, rfl, HA, HK1, HO_0, HB⟩ := hrel
  cases gk with
  | zero => exact absurd HA.out (by simp [addr_joined.l0])
  | succ k1 =>
   have H := HA.out
   clear HA
   simp only [addr_joined.l0] at H
   have HC3 := Aside0.mk H
   clear H
   go_upto_region 2 with (fail)
   go_cut [27] (fun v27 wc => ∃ (kq : Nat) (x27_2 : Bool), v27 = .bool x27_2 ∧ Aside0 (addr_joined.j1 kq x0_1 a1 x7_1 x27_2 = some (r1, r2, r3)) ∧ Aside0 (kq ≤ k1) ∧ Aside0 (Kd.V k119 119 wc w.heap.size (fun k_ => (P0_ k_ ∨ w.heap.size ≤ k_)) u0 x0_1) ∧ Aside0 (Below w.heap.size w wc))
   case first =>
    have H := HC3.out
    clear HC3
    by_cases c4 : (x0_1.length : Int) = 0
    ·rw [if_pos c4] at H
     have c4b0 := beq_iff_eq.mpr c4
     have c4b1 := bne_eq_false_iff_eq.mpr c4
     clear c4
     (first | rw [c4b0] | (simp only [i64_w, i32_w]; rw [c4b0]) | skip)
     have H' := Aside0.mk H
     clear H
     obtain ⟨Ao5, co5, eo5⟩ := Kd.V_slice HO_0.out
     subst eo5
     go_wp2
     go_meet
     case rel => exact ⟨_, (true), eqs, H', ⟨by have := HK1.out; first | omega | exact Nat.le_refl _⟩, ⟨by (with_reducible repeat (first | apply Kd.V_alloc | apply Kd.V_drewN | apply Kd.V_drew)); exact HO_0.out⟩, ⟨blw⟩⟩
    ·rw [if_neg c4] at H
     have c4b0 := beq_eq_false_iff_ne.mpr c4
     have c4b1 := bne_iff_ne.mpr c4
     have c4b2 : ¬ (x0_1 = []) := fun h_ => c4 (by rw [h_]; rfl)
     (first | rw [c4b0] | (simp only [i64_w, i32_w]; rw [c4b0]) | skip)
     obtain ⟨c6, H⟩ := iteS H
     have c6b0 := decide_eq_true c6
     have c6b1 : decide (0 < x0_1.length) = true := decide_eq_true (by omega)
     clear c6
     by_cases c7 : ((rd_T119 x0_1 0).f0) = 3
     ·rw [if_pos c7] at H
      have c7b0 := beq_iff_eq.mpr c7
      have c7b1 := bne_eq_false_iff_eq.mpr c7
      clear c7
      have H' := Aside0.mk H
      clear H
      obtain ⟨Ao8, co8, eo8⟩ := Kd.V_slice HO_0.out
      subst eo8
      have p159 : 0 ≤ (0 : Int) := (by omega)
      have q159 : 0 < (x0_1.length : Int) := od_
      obtain ⟨ad159, e159, hx159_0, hx159_1⟩ := at_T119 (Kd.V_reads' HO_0.out).2.2 0 p159 q159
      cases e159
      have qi159 : (0 < x0_1.length) = True := eq_true (by omega)
      (try rw [show ((0 : Int)).toNat = 0 from rfl] at hx159_0)
      (try rw [show 0 * 2 = 0 from rfl] at hx159_0)
      (try rw [Addr.add_zero'] at hx159_0)
      (try rw [show ((0 : Int)).toNat = 0 from rfl] at hx159_1)
      (try rw [show 0 * 2 = 0 from rfl] at hx159_1)
      (try rw [Addr.add_zero'] at hx159_1)
      replace p159 := eq_true p159
      replace q159 := eq_true q159
      go_wp2
      go_meet
      case rel => exact ⟨_, (true), eqs, H', ⟨by have := HK1.out; first | omega | exact Nat.le_refl _⟩, ⟨by (with_reducible repeat (first | apply Kd.V_alloc | apply Kd.V_drewN | apply Kd.V_drew)); exact HO_0.out⟩, ⟨blw⟩⟩
     ·rw [if_neg c7] at H
      have c7b0 := beq_eq_false_iff_ne.mpr c7
      have c7b1 := bne_iff_ne.mpr c7
      by_cases c9 : a1 = true
      ·subst c9
       rw [if_pos rfl] at H
       have H' := Aside0.mk H
       clear H
       obtain ⟨Ao10, co10, eo10⟩ := Kd.V_slice HO_0.out
       subst eo10
       have p159 : 0 ≤ (0 : Int) := (by omega)
       have q159 : 0 < (x0_1.length : Int) := od_
       obtain ⟨ad159, e159, hx159_0, hx159_1⟩ := at_T119 (Kd.V_reads' HO_0.out).2.2 0 p159 q159
       cases e159
       have qi159 : (0 < x0_1.length) = True := eq_true (by omega)
       (try rw [show ((0 : Int)).toNat = 0 from rfl] at hx159_0)
       (try rw [show 0 * 2 = 0 from rfl] at hx159_0)
       (try rw [Addr.add_zero'] at hx159_0)
       (try rw [show ((0 : Int)).toNat = 0 from rfl] at hx159_1)
       (try rw [show 0 * 2 = 0 from rfl] at hx159_1)
       (try rw [Addr.add_zero'] at hx159_1)
       replace p159 := eq_true p159
       replace q159 := eq_true q159
       have p160 : 0 ≤ (0 : Int) := (by omega)
       have q160 : 0 < (x0_1.length : Int) := od_
       obtain ⟨ad160, e160, hx160_0, hx160_1⟩ := at_T119 (Kd.V_reads' HO_0.out).2.2 0 p160 q160
       obtain rfl : ad159 = ad160 := (by injection e160)
       have qi160 : (0 < x0_1.length) = True := eq_true (by omega)
       (try rw [show ((0 : Int)).toNat = 0 from rfl] at hx160_0)
       (try rw [show 0 * 2 = 0 from rfl] at hx160_0)
       (try rw [Addr.add_zero'] at hx160_0)
       (try rw [show ((0 : Int)).toNat = 0 from rfl] at hx160_1)
       (try rw [show 0 * 2 = 0 from rfl] at hx160_1)
       (try rw [Addr.add_zero'] at hx160_1)
       replace p160 := eq_true p160
       replace q160 := eq_true q160
       go_wp2
       go_meet
       case rel => exact ⟨_, ((((rd_T119 x0_1 0).f0) != 1)), eqs, H', ⟨by have := HK1.out; first | omega | exact Nat.le_refl _⟩, ⟨by (with_reducible repeat (first | apply Kd.V_alloc | apply Kd.V_drewN | apply Kd.V_drew)); exact HO_0.out⟩, ⟨blw⟩⟩
      ·replace c9 := Bool.eq_false_iff.mpr c9
       subst c9
       rw [if_neg nft] at H
       have H' := Aside0.mk H
       clear H
       obtain ⟨Ao11, co11, eo11⟩ := Kd.V_slice HO_0.out
       subst eo11
       have p159 : 0 ≤ (0 : Int) := (by omega)
       have q159 : 0 < (x0_1.length : Int) := od_
       obtain ⟨ad159, e159, hx159_0, hx159_1⟩ := at_T119 (Kd.V_reads' HO_0.out).2.2 0 p159 q159
       cases e159
       have qi159 : (0 < x0_1.length) = True := eq_true (by omega)
       (try rw [show ((0 : Int)).toNat = 0 from rfl] at hx159_0)
       (try rw [show 0 * 2 = 0 from rfl] at hx159_0)
       (try rw [Addr.add_zero'] at hx159_0)
       (try rw [show ((0 : Int)).toNat = 0 from rfl] at hx159_1)
       (try rw [show 0 * 2 = 0 from rfl] at hx159_1)
       (try rw [Addr.add_zero'] at hx159_1)
       replace p159 := eq_true p159
       replace q159 := eq_true q159
       go_wp2
       go_meet
       case rel => exact ⟨_, (false), eqs, H', ⟨by have := HK1.out; first | omega | exact Nat.le_refl _⟩, ⟨by (with_reducible repeat (first | apply Kd.V_alloc | apply Kd.V_drewN | apply Kd.V_drew)); exact HO_0.out⟩, ⟨blw⟩⟩
   case rest =>
    clear HC3
    try clear p1
    try clear q1
    try clear hx1
    try clear qi1
    try clear p2
    try clear c4
    try clear c4b0
    try clear c4b1
    try clear c4b2
    try clear c6
    try clear c6b0
    try clear c6b1
    try clear c7
    try clear c7b0
    try clear c7b1
    try clear c8
    try clear c9
    try clear hx159_0
    try clear hx159_1
    try clear hx160_0
    try clear hx160_1
    try clear p159
    try clear p160
    try clear p2
    try clear q159
    try clear q160
    obtain ⟨kq, x27_2, rfl, HA, HJ2, HO_0, HB⟩ := hcut
    cases kq with
    | zero => exact absurd HA.out (by simp [addr_joined.j1])
    | succ kj2 =>
     have H := HA.out
     clear HA
     simp only [addr_joined.j1] at H
     by_cases c12 : x27_2 = true
     ·subst c12
      rw [if_pos rfl] at H
      simp only [Option.some.injEq, Prod.mk.injEq] at H
      obtain ⟨rfl, rfl, rfl⟩ := H
      go_wp2
      go_ret3
      exact ⟨_, by first | rfl | (simp [errW_none, errW_some] <;> rfl) | (simp [*, errW_none, errW_some] <;> rfl), Kd.V_mono (Kd.R_V (by first | exact Kd.R_nil _ _ _ w.heap.size (fun k_ => w.heap.size ≤ k_) | exact Kd.R_nil _ _ _ _ _ | exact Kd.N_nil _ _ _ _ _ | exact Kd.V_nil _ _ _ _ _ | exact Kd.Q_nil _ _ _ _ _ | exact Kd.S_nil _ _ _ _ _)) (fun k_ hk => by first | exact ⟨(.inr (hk.1)), hk.2⟩ | exact (.inr (hk))), blw⟩
     ·replace c12 := Bool.eq_false_iff.mpr c12
      subst c12
      rw [if_neg nft] at H
      obtain ⟨c13, H⟩ := iteS H
      have c13b0 := decide_eq_true c13
      have c13b1 : decide (0 < x0_1.length) = true := decide_eq_true (by omega)
      clear c13
      obtain ⟨c14, H⟩ := iteS H
      have c14b0 := eq_true c14
      have c14b1 := decide_eq_true c14
      try have c14b2 := eq_false (Nat.not_lt.2 c14)
      obtain ⟨c15, H⟩ := iteS H
      have c15b0 := eq_true c15
      have c15b1 := decide_eq_true c15
      clear c15
      obtain ⟨y162, hy162⟩ : ∃ y_ : List (S119), y_ = (x0_1.drop 1) := ⟨_, rfl⟩
      replace H : ((addr_is.f y162 (⟨#[46]⟩ : ByteArray)).bind fun t167 => (if t167 = true then (if x7_1.size + ((rd_T119 x0_1 0).f1).size + 1 ≤ 9223372036854775807 then (if 1 ≤ (y162.length : Int) then (addr_joined.l0 kj2 (y162.drop 1) a1 ((x7_1 ++ ((rd_T119 x0_1 0).f1)) ++ (⟨#[46]⟩ : ByteArray))) else (none)) else (none)) else (some (x7_1 ++ ((rd_T119 x0_1 0).f1), y162, true)))) = some (r1, r2, r3) := by first | (rw [hy162]; with_reducible exact H) | (have H2_ := (Option.bind_some _ _).symm.trans H; rw [hy162]; with_reducible exact H2_) | (have H2_ := (Option.bind_some _ _).symm.trans H; with_reducible exact H2_) | with_reducible exact H | (rw [hy162]; exact H) | exact H
      have Ny162 := Aside0.mk hy162
      clear hy162
      replace H := Option.bind_eq_some_iff.mp H
      obtain ⟨t167, A160, H⟩ := H
      try dsimp only at H
      have A16 := Aside0.mk A160
      clear A160
      by_cases c17 : t167 = true
      ·subst c17
       rw [if_pos rfl] at H
       obtain ⟨c18, H⟩ := iteS H
       have c18b0 := eq_true c18
       have c18b1 := decide_eq_true c18
       try have c18b2 := eq_false (Nat.not_lt.2 c18)
       obtain ⟨c19, H⟩ := iteS H
       have c19b0 := eq_true c19
       have c19b1 := decide_eq_true c19
       clear c19
       obtain ⟨y168, hy168⟩ : ∃ y_ : List (S119), y_ = (y162.drop 1) := ⟨_, rfl⟩
       replace H : (addr_joined.l0 kj2 y168 a1 ((x7_1 ++ ((rd_T119 x0_1 0).f1)) ++ (⟨#[46]⟩ : ByteArray))) = some (r1, r2, r3) := by first | (rw [hy168]; with_reducible exact H) | (have H2_ := (Option.bind_some _ _).symm.trans H; rw [hy168]; with_reducible exact H2_) | (have H2_ := (Option.bind_some _ _).symm.trans H; with_reducible exact H2_) | with_reducible exact H | (rw [hy168]; exact H) | exact H
       have Ny168 := Aside0.mk hy168
       clear hy168
       have H' := Aside0.mk H
       clear H
       obtain ⟨Ao20, co20, eo20⟩ := Kd.V_slice HO_0.out
       subst eo20
       have p161 : 0 ≤ (0 : Int) := (by omega)
       have q161 : 0 < (x0_1.length : Int) := od_
       obtain ⟨ad161, e161, hx161_0, hx161_1⟩ := at_T119 (Kd.V_reads' HO_0.out).2.2 0 p161 q161
       cases e161
       have qi161 : (0 < x0_1.length) = True := eq_true (by omega)
       (try rw [show ((0 : Int)).toNat = 0 from rfl] at hx161_0)
       (try rw [show 0 * 2 = 0 from rfl] at hx161_0)
       (try rw [Addr.add_zero'] at hx161_0)
       (try rw [show ((0 : Int)).toNat = 0 from rfl] at hx161_1)
       (try rw [show 0 * 2 = 0 from rfl] at hx161_1)
       (try rw [Addr.add_zero'] at hx161_1)
       replace p161 := eq_true p161
       replace q161 := eq_true q161
       have q21 : (1 : Int) ≤ ((x0_1.length : Int) : Int) := od_
       obtain ⟨i021, hi021, _, hsz21, _⟩ := info_parts info119
       have hroom21 : x0_1.length ≤ co20 := (Kd.V_reads' HO_0.out).2.1
       have hC21 : Kd.F k119 _ _ (some ad161) x0_1.length x0_1 := (Kd.V_at (base := w.heap.size) HO_0.out).2.2
       have hcut21 := cut_from (P := Tryz.prog) 110 119 .i64 Tryz.underlying110 hi021 2 hsz21 (some ad161) x0_1.length co20 1 (by omega) q21
       have hr21 := Kd.F_cut (m := (1 : Int).toNat) (c := co20) hC21 (by omega) hroom21
       obtain ⟨A21, hA21⟩ : ∃ A1, A1 = (if co20 = (1 : Int).toNat then (some ad161) else ((some ad161) : Option Addr).map (·.add ((1 : Int).toNat * 2))) := ⟨_, rfl⟩
       obtain ⟨c21, hc21⟩ : ∃ c1, c1 = co20 - (1 : Int).toNat := ⟨_, rfl⟩
       have hy21 : y162.length = x0_1.length - (1 : Int).toNat := (by rw [Ny162.out, List.length_drop] <;> omega)
       rw [show (x0_1).drop (1 : Int).toNat = y162 from Ny162.out.symm] at hr21
       replace hr21 : Kd.F k119 _ _ A21 y162.length y162 := (by rw [hA21]; exact hr21)
       rw [← hy21, ← hA21, ← hc21] at hcut21
       have HO166 := Aside0.mk (show Kd.V k119 119 _ w.heap.size _ (.slice A21 y162.length c21) y162 from Kd.V_mk (by rw [hy21, hc21]; exact Nat.sub_le_sub_right hroom21 _) hr21)
       have HC166 := Aside0.mk (show y162.length ≤ c21 from by rw [hy21, hc21]; exact Nat.sub_le_sub_right hroom21 _)
       clear hr21 hC21 hroom21 hi021 hsz21 hc21
       have KY21 := Aside0.mk hy21
       have KA21 := Aside0.mk hA21
       clear hy21 hA21
       replace q21 := eq_true q21
       go_wp2_with (first | ((with_reducible refine gc 89 rfl ?_); refine gl_ (some 37) Tryz.func89 #[.slice A21 y162.length c21, .string (⟨#[46]⟩ : ByteArray)] ?_; (with_reducible refine (addr_is.calls _ _ y162 (⟨#[46]⟩ : ByteArray) true _ ?side1 ?side2 A16.out).mono ?_); (case side1 => repeat (first | exact (Kd.V_reads' HO166.out).2.2 | (with_reducible refine Kd.C_alloc ?_ _) | (with_reducible refine Kd.C_drewN ?_ _) | (with_reducible refine Kd.C_drew ?_))); (case side2 => exact (Kd.V_reads' HO166.out).2.1); rintro e w' ⟨rfl, ⟨nd, rfl⟩⟩; refine ⟨_, rfl, ?_⟩; have q22 : (1 : Int) ≤ ((y162.length : Int) : Int) := od_; obtain ⟨i022, hi022, _, hsz22, _⟩ := info_parts info119; have hroom22 : y162.length ≤ c21 := (Kd.V_reads' HO166.out).2.1; have hC22 : Kd.F k119 _ _ A21 y162.length y162 := (Kd.V_at (base := w.heap.size) HO166.out).2.2; have hcut22 := cut_from (P := Tryz.prog) 110 119 .i64 Tryz.underlying110 hi022 2 hsz22 A21 y162.length c21 1 (by omega) q22; have hr22 := Kd.F_cut (m := (1 : Int).toNat) (c := c21) hC22 (by omega) hroom22; obtain ⟨A22, hA22⟩ : ∃ A1, A1 = (if c21 = (1 : Int).toNat then A21 else (A21 : Option Addr).map (·.add ((1 : Int).toNat * 2))) := ⟨_, rfl⟩; obtain ⟨c22, hc22⟩ : ∃ c1, c1 = c21 - (1 : Int).toNat := ⟨_, rfl⟩; have hy22 : y168.length = y162.length - (1 : Int).toNat := (by rw [Ny168.out, List.length_drop] <;> omega); rw [show (y162).drop (1 : Int).toNat = y168 from Ny168.out.symm] at hr22; replace hr22 : Kd.F k119 _ _ A22 y168.length y168 := (by rw [hA22]; exact hr22); rw [← hy22, ← hA22, ← hc22] at hcut22; have HO172 := Aside0.mk (show Kd.V k119 119 _ w.heap.size _ (.slice A22 y168.length c22) y168 from Kd.V_mk (by rw [hy22, hc22]; exact Nat.sub_le_sub_right hroom22 _) hr22); have HC172 := Aside0.mk (show y168.length ≤ c22 from by rw [hy22, hc22]; exact Nat.sub_le_sub_right hroom22 _); clear hr22 hC22 hroom22 hi022 hsz22 hc22; have KY22 := Aside0.mk hy22; have KA22 := Aside0.mk hA22; clear hy22 hA22; replace q22 := eq_true q22))
       go_roundg kj2
       case measure => have := HK1.out; have := HJ2.out; omega
       case rel => exact ⟨(y168), ((x7_1 ++ ((rd_T119 x0_1 0).f1)) ++ (⟨#[46]⟩ : ByteArray)), eqs, H', ⟨by have := HK1.out; have := HJ2.out; omega⟩, ⟨by (with_reducible repeat (first | apply Kd.V_alloc | apply Kd.V_drewN | apply Kd.V_drew)); exact HO172.out⟩, ⟨blw⟩⟩
      ·replace c17 := Bool.eq_false_iff.mpr c17
       subst c17
       rw [if_neg nft] at H
       simp only [Option.some.injEq, Prod.mk.injEq] at H
       obtain ⟨rfl, rfl, rfl⟩ := H
       obtain ⟨Ao23, co23, eo23⟩ := Kd.V_slice HO_0.out
       subst eo23
       have p161 : 0 ≤ (0 : Int) := (by omega)
       have q161 : 0 < (x0_1.length : Int) := od_
       obtain ⟨ad161, e161, hx161_0, hx161_1⟩ := at_T119 (Kd.V_reads' HO_0.out).2.2 0 p161 q161
       cases e161
       have qi161 : (0 < x0_1.length) = True := eq_true (by omega)
       (try rw [show ((0 : Int)).toNat = 0 from rfl] at hx161_0)
       (try rw [show 0 * 2 = 0 from rfl] at hx161_0)
       (try rw [Addr.add_zero'] at hx161_0)
       (try rw [show ((0 : Int)).toNat = 0 from rfl] at hx161_1)
       (try rw [show 0 * 2 = 0 from rfl] at hx161_1)
       (try rw [Addr.add_zero'] at hx161_1)
       replace p161 := eq_true p161
       replace q161 := eq_true q161
       have q24 : (1 : Int) ≤ ((x0_1.length : Int) : Int) := od_
       obtain ⟨i024, hi024, _, hsz24, _⟩ := info_parts info119
       have hroom24 : x0_1.length ≤ co23 := (Kd.V_reads' HO_0.out).2.1
       have hC24 : Kd.F k119 _ _ (some ad161) x0_1.length x0_1 := (Kd.V_at (base := w.heap.size) HO_0.out).2.2
       have hcut24 := cut_from (P := Tryz.prog) 110 119 .i64 Tryz.underlying110 hi024 2 hsz24 (some ad161) x0_1.length co23 1 (by omega) q24
       have hr24 := Kd.F_cut (m := (1 : Int).toNat) (c := co23) hC24 (by omega) hroom24
       obtain ⟨A24, hA24⟩ : ∃ A1, A1 = (if co23 = (1 : Int).toNat then (some ad161) else ((some ad161) : Option Addr).map (·.add ((1 : Int).toNat * 2))) := ⟨_, rfl⟩
       obtain ⟨c24, hc24⟩ : ∃ c1, c1 = co23 - (1 : Int).toNat := ⟨_, rfl⟩
       have hy24 : y162.length = x0_1.length - (1 : Int).toNat := (by rw [Ny162.out, List.length_drop] <;> omega)
       rw [show (x0_1).drop (1 : Int).toNat = y162 from Ny162.out.symm] at hr24
       replace hr24 : Kd.F k119 _ _ A24 y162.length y162 := (by rw [hA24]; exact hr24)
       rw [← hy24, ← hA24, ← hc24] at hcut24
       have HO166 := Aside0.mk (show Kd.V k119 119 _ w.heap.size _ (.slice A24 y162.length c24) y162 from Kd.V_mk (by rw [hy24, hc24]; exact Nat.sub_le_sub_right hroom24 _) hr24)
       have HC166 := Aside0.mk (show y162.length ≤ c24 from by rw [hy24, hc24]; exact Nat.sub_le_sub_right hroom24 _)
       clear hr24 hC24 hroom24 hi024 hsz24 hc24
       have KY24 := Aside0.mk hy24
       have KA24 := Aside0.mk hA24
       clear hy24 hA24
       replace q24 := eq_true q24
       go_wp2_with (first | ((with_reducible refine gc 89 rfl ?_); refine gl_ (some 37) Tryz.func89 #[.slice A24 y162.length c24, .string (⟨#[46]⟩ : ByteArray)] ?_; (with_reducible refine (addr_is.calls _ _ y162 (⟨#[46]⟩ : ByteArray) false _ ?side1 ?side2 A16.out).mono ?_); (case side1 => repeat (first | exact (Kd.V_reads' HO166.out).2.2 | (with_reducible refine Kd.C_alloc ?_ _) | (with_reducible refine Kd.C_drewN ?_ _) | (with_reducible refine Kd.C_drew ?_))); (case side2 => exact (Kd.V_reads' HO166.out).2.1); rintro e w' ⟨rfl, ⟨nd, rfl⟩⟩; refine ⟨_, rfl, ?_⟩))
       go_ret3
       exact ⟨_, by first | rfl | (simp [errW_none, errW_some] <;> rfl) | (simp [*, errW_none, errW_some] <;> rfl), by (with_reducible repeat (first | apply Kd.V_alloc | apply Kd.V_drewN | apply Kd.V_drew)); exact HO166.out, blw⟩

/-! ### lex_IsAtom: function 103 -/
def lex_IsAtom.l0 : Nat → ByteArray → Int → Int → Option (Bool)
  | 0, _, _, _ => none
  | k + 1, x0, x5, x6 => if x6 < x5 then (if 0 ≤ x6 then (if x6 < (x0.size : Int) then ((lex_atomic.f (bt x0 x6)).bind fun t173 => (if t173 = true then (lex_IsAtom.l0 k x0 x5 (wrap64 (x6 + 1))) else (some false))) else (none)) else (none)) else (some (x0.toList != ([] : List UInt8)))
def lex_IsAtom.f (k : Nat) (a0 : ByteArray) : Option (Bool) := lex_IsAtom.l0 k a0 (a0.size : Int) 0
theorem lex_IsAtom.mono_l : ∀ k, (∀ y0 y1 y2, LeO (lex_IsAtom.l0 k y0 y1 y2) (lex_IsAtom.l0 (k + 1) y0 y1 y2))
  | 0 => fun _ _ _ r h => by simp [lex_IsAtom.l0] at h
  | k + 1 => by
    have ih0 := lex_IsAtom.mono_l k
    · intro y0 y1 y2
      unfold lex_IsAtom.l0
      repeat' first | (with_reducible first | exact ih0 _ _ _ | exact LeO.refl _ | exact LeO.none _ | refine LeO.ite ?_ ?_ | refine LeO.bind ?_ (fun _ => ?_)) | exact ih0 _ _ _ | exact LeO.none _ | refine LeO.ite ?_ ?_ | refine LeO.bind ?_ (fun _ => ?_)
theorem lex_IsAtom.mono : ∀ a0 k, LeO (lex_IsAtom.f k a0) (lex_IsAtom.f (k + 1) a0) := by
  intro a0 k
  have ih0 := lex_IsAtom.mono_l k
  unfold lex_IsAtom.f
  repeat' first | (with_reducible first | exact ih0 _ _ _ | exact LeO.refl _ | exact LeO.none _ | refine LeO.ite ?_ ?_ | refine LeO.bind ?_ (fun _ => ?_)) | exact ih0 _ _ _ | exact LeO.none _ | refine LeO.ite ?_ ?_ | refine LeO.bind ?_ (fun _ => ?_)
set_option maxHeartbeats 8000000 in
set_option maxRecDepth 100000 in
theorem lex_IsAtom.calls (k : Nat) (a0 : ByteArray) (r : Bool) (w : World) (h : lex_IsAtom.f k a0 = some r) :
    Calls Tryz.prog 103 #[.string a0] w fun e w' => e = .returned (.bool r) ∧ Drawn0 w w' := by
 unfold lex_IsAtom.f at h
 have H := h
 clear h
 have H' := Aside0.mk H
 clear H
 go_enter Tryz.func103, Tryz.ntmps103
 go_wp2
 go_loopg [6] k (fun kq v6 w' => ∃ (x6_1 : Int), v6 = .int .i64 x6_1 ∧ Aside0 (lex_IsAtom.l0 kq a0 (a0.size : Int) x6_1 = some r) ∧ Aside0 (kq ≤ k) ∧ Drawn0 w w')
 case atStart => exact ⟨(0), (by first | rfl | (simp; done) | (simp [*]; done) | (simp; exact (by intro l_; cases l_ <;> rfl : ∀ l_ : List UInt8, l_.isEmpty = !(l_ != [])) _)), H', ⟨Nat.le_refl _⟩, drw⟩
 case round =>
  clear H'
  try clear c1
  obtain ⟨x6_1, rfl, HA, HK1, ⟨m1, rfl⟩⟩ := hrel
  cases gk with
  | zero => exact absurd HA.out (by simp [lex_IsAtom.l0])
  | succ k1 =>
   have H := HA.out
   clear HA
   simp only [lex_IsAtom.l0] at H
   by_cases c2 : x6_1 < (a0.size : Int)
   ·rw [if_pos c2] at H
    have c2b0 := decide_eq_true c2
    clear c2
    obtain ⟨c3, H⟩ := iteS H
    have c3b0 := decide_eq_true c3
    clear c3
    obtain ⟨c4, H⟩ := iteS H
    have c4b0 := decide_eq_true c4
    clear c4
    replace H := Option.bind_eq_some_iff.mp H
    obtain ⟨t173, A60, H⟩ := H
    try dsimp only at H
    have A6 := Aside0.mk A60
    clear A60
    by_cases c7 : t173 = true
    ·subst c7
     rw [if_pos rfl] at H
     have H' := Aside0.mk H
     clear H
     have p5 : 0 ≤ (x6_1 : Int) := od_
     have q5 : x6_1 < (a0.size : Int) := od_
     have hx5 := bt_at a0 x6_1
     replace p5 := eq_true p5
     replace q5 := eq_true q5
     go_wp2_with (first | ((with_reducible refine gc 100 rfl ?_); refine cl_ (some 12) Tryz.func100 (lex_atomic.calls (bt a0 x6_1) true _ A6.out) ?_; rintro w' ⟨nd, rfl⟩))
     go_roundg k1
     case measure => have := HK1.out; omega
     case rel => exact ⟨(wrap64 (x6_1 + 1)), (by first | rfl | (simp; done) | (simp [*]; done) | (simp; exact (by intro l_; cases l_ <;> rfl : ∀ l_ : List UInt8, l_.isEmpty = !(l_ != [])) _)), H', ⟨by have := HK1.out; omega⟩, drw⟩
    ·replace c7 := Bool.eq_false_iff.mpr c7
     subst c7
     rw [if_neg nft] at H
     obtain rfl := Option.some.inj H
     have p5 : 0 ≤ (x6_1 : Int) := od_
     have q5 : x6_1 < (a0.size : Int) := od_
     have hx5 := bt_at a0 x6_1
     replace p5 := eq_true p5
     replace q5 := eq_true q5
     go_wp2_with (first | ((with_reducible refine gc 100 rfl ?_); refine cl_ (some 12) Tryz.func100 (lex_atomic.calls (bt a0 x6_1) false _ A6.out) ?_; rintro w' ⟨nd, rfl⟩))
     go_ret
     exact ⟨by first | rfl | (simp; done) | (simp [*]; done) | (simp; exact (by intro l_; cases l_ <;> rfl : ∀ l_ : List UInt8, l_.isEmpty = !(l_ != [])) _), drw⟩
   ·rw [if_neg c2] at H
    have c2b0 := decide_eq_false c2
    clear c2
    obtain rfl := Option.some.inj H
    go_wp2
    go_ret
    exact ⟨by first | rfl | (simp; done) | (simp [*]; done) | (simp; exact (by intro l_; cases l_ <;> rfl : ∀ l_ : List UInt8, l_.isEmpty = !(l_ != [])) _), drw⟩

/-! ### addr_Dotted: function 91 -/
def addr_Dotted.f (k : Nat) (a0 : ByteArray) : Option (Bool) := if a0.size ≤ 140737488355327 then (Sp.allP (lex_IsAtom.f k) (Sp.parts 46 a0)) else none
theorem addr_Dotted.mono : ∀ a0 k, LeO (addr_Dotted.f k a0) (addr_Dotted.f (k + 1) a0) := by
  intro a0 k
  unfold addr_Dotted.f
  exact LeO.ite (Sp.allP_mono _ _ (fun x => lex_IsAtom.mono x k) _) (LeO.none _)
section
open Go Go.Shelf Go.Proofs.YtcgfaagadejpmaaGreatDoorW.SeqC Sp
attribute [local go_sem] Oper.semAt_some
set_option maxHeartbeats 2000000 in
theorem addr_Dotted.calls (k : Nat) (a0 : ByteArray) (r : Bool) (w : World) (h : addr_Dotted.f k a0 = some r) :
    Calls Tryz.prog 91 #[.string a0] w fun e w' => e = .returned (.bool r) ∧ Below w.heap.size w w' := by
 unfold addr_Dotted.f at h
 obtain ⟨hsz, h⟩ : a0.size ≤ 140737488355327 ∧ Sp.allP (lex_IsAtom.f k) (Sp.parts 46 a0) = some r := by
  by_cases h0 : a0.size ≤ 140737488355327
  ·rw [if_pos h0] at h; exact ⟨h0, h⟩
  ·rw [if_neg h0] at h; cases h
 have hA := fun x r w hx => lex_IsAtom.calls k x r w hx
 refine (callsIn_wide (n := 3)).1 ?_
 refine callsIn_of_wp_marks Tryz.func91 rfl trivial ?_ rfl
 simp only [Tryz.ntmps91, List.size_toArray, List.length_cons, List.length_nil, Nat.reduceAdd, Nat.reduceSub, Array.replicate_succ, Array.replicate_zero, List.push_toArray, List.append_toArray, List.nil_append, List.cons_append]
 gi_wp2_with (refine ⟨trivial, (callsIn_wide.2 (splitSeq_in 3 a0 ⟨#[46]⟩ _)).mono ?_⟩; rintro e w' ⟨rfl, rfl⟩)
 have c0 := World.alloc_heap_new w (.cells #[.bool false] 4)
 obtain ⟨t0, t1, t2⟩ := three (w.alloc (.cells #[.bool false] 4)) (.cells #[.string a0] 9) (.cells #[.string ⟨#[46]⟩] 9) (.cells #[.int .i64 0] 3)
 simp only [World.size_alloc] at t0 t1 t2
 have hB0 : Below w.heap.size w ((((w.alloc (.cells #[.bool false] 4)).alloc (.cells #[.string a0] 9)).alloc (.cells #[.string ⟨#[46]⟩] 9)).alloc (.cells #[.int .i64 0] 3)) :=
  ((((Below.refl _ w).alloc (Nat.le_refl _) _).alloc (by simp) _).alloc (by simp; omega) _).alloc (by simp; omega) _
 refine wpIn_range_cell rfl (by decide) (gf := 37) (lb := #[.pointer (some ⟨w.heap.size + 1 + 1, 0, none⟩), .pointer (some ⟨w.heap.size + 1, 0, none⟩), .pointer (some ⟨w.heap.size + 1 + 2, 0, none⟩)]) rfl trivial (enters_of Tryz.func37 (by kernel_rfl) rfl)
  (splitIt 2 a0 hsz 46 (w.heap.size + 1) _ (by simp) t0 t1 t2) (by simp) ((blk_cell t0 0).trans rfl) kp3_t (kp3_b (by simp)) (fun _ => rfl)
  (fun pre W => (∀ y ∈ pre, lex_IsAtom.f k y = some true) ∧ W.heap[w.heap.size]? = some (.cells #[.bool false] 4 (0, 0)) ∧ Below w.heap.size w W)
  (fun c pre W => c = .ret ∧ r = false ∧ W.heap[w.heap.size]? = some (.cells #[.bool false] 4 (0, 0)) ∧ Below w.heap.size w W)
  (fun s A B row hs hg hr => ⟨hs.1, blk_own hs.2.1 hg hr, ownFrom_below (Nat.le_refl _) (by simp; omega) s A B row hs.2.2 hg hr⟩)
  (fun c s A B row hs hg hr => ⟨hs.1, hs.2.1, blk_own hs.2.2.1 hg hr, ownFrom_below (Nat.le_refl _) (by simp; omega) s A B row hs.2.2.2 hg hr⟩)
  (fun s W v hs => ⟨hs.1, (Below.heap_setCell W _ v _ (by simp)).trans hs.2.1, hs.2.2.setCell (by simp) _⟩)
  ⟨by simp, (Below.heap_alloc _ _ _ (by simp; omega)).trans ((Below.heap_alloc _ _ _ (by simp; omega)).trans ((Below.heap_alloc _ _ _ (by simp)).trans c0)), hB0⟩
  (fun x => { tmps := #[.string a0, undef, .pointer (some ⟨w.heap.size, 0, none⟩), .string x, .string a0, .func (.func 37) #[] #[.pointer (some ⟨w.heap.size + 1 + 1, 0, none⟩), .pointer (some ⟨w.heap.size + 1, 0, none⟩), .pointer (some ⟨w.heap.size + 1 + 2, 0, none⟩)], .string x, undef, undef, undef], defers := [] }) ?assign ?body ?done ?stop
 case assign =>
  intro l x W K hK
  gi_wp2
  exact hK
 case body =>
  rintro l pre x W ⟨hp, hcr, hB⟩ ⟨ys, hys⟩
  rw [← hys, List.append_assoc] at h
  obtain ⟨bx, hbx, hrx⟩ := allP_pre pre x ys r hp h
  have hcc : W.cell? ⟨w.heap.size, 0, none⟩ = some (.bool false) := (blk_cell hcr 0).trans rfl
  have hff : W.frozen? ⟨w.heap.size, 0, none⟩ = false := blk_frozen hcr 0
  cases bx with
  | false =>
   obtain rfl : r = false := hrx rfl
   gi_wp2_with (refine ⟨trivial, (CallsIn.inRound l (callsIn_wide.2 (hA x false _ hbx))).mono ?_⟩; rintro e w' ⟨rfl, ⟨nd, rfl⟩⟩)
   exact ⟨(ko_drewN W nd).trans (KeepsOthers.setCell _ _ _), rfl, one_setCell (w := W.drewN nd) (u := .bool false) hcr, Below.setCell (pw_below_drewN hB nd) (p := ⟨w.heap.size, 0, none⟩) (by simp) _⟩
  | true =>
   gi_wp2_with (refine ⟨trivial, (CallsIn.inRound l (callsIn_wide.2 (hA x true _ hbx))).mono ?_⟩; rintro e w' ⟨rfl, ⟨nd, rfl⟩⟩)
   exact ⟨ko_drewN W nd, kp3_drewN _ _ _, fun y hy => (List.mem_append.1 hy).elim (hp y) (fun e => by simp at e; subst e; exact hbx), hcr, pw_below_drewN hB nd⟩
 case done =>
  rintro D ys W hD rfl ⟨hp, hcr, hB⟩ hK
  obtain rfl : true = r := Option.some.inj ((allP_all _ hp).symm.trans h)
  have hcc : W.cell? ⟨w.heap.size, 0, none⟩ = some (.bool false) := (blk_cell hcr 0).trans rfl
  have hff : W.frozen? ⟨w.heap.size, 0, none⟩ = false := blk_frozen hcr 0
  gi_wp2
  have hK' := (KeepsOthers.setCell W ⟨w.heap.size, 0, none⟩ (.bool true)).same D _ hK rfl
  refine ⟨by simp, .inl ⟨_, _, rfl, run_takeDeferred hK', ?_⟩⟩
  have hc5 := cell_kept ((blk_cell (one_setCell (u := .bool true) hcr) 0).trans rfl) (grownBy_putObj' _ D (.deferred none)) (fun r e => by cases e; exact ⟨_, hK', rfl⟩)
  refine ⟨.bool true, ?_, rfl, (hB.setCell (p := ⟨w.heap.size, 0, none⟩) (by simp) _).trans (belowK_b (w := w) (Nat.le_refl _) _ D _ _ (by simp at hD; omega) hK' rfl rfl)⟩
  simp [results, Tryz.f91, go_sem, hc5]
 case stop =>
  rintro D c pre W hD hpre ⟨rfl, rfl, hcr, hB⟩ hK
  gi_wp2
  refine ⟨by simp, .inl ⟨_, _, rfl, run_takeDeferred hK, ?_⟩⟩
  have hc5 := cell_kept ((blk_cell hcr 0).trans rfl) (grownBy_putObj' _ D (.deferred none)) (fun r e => by cases e; exact ⟨_, hK, rfl⟩)
  refine ⟨.bool false, ?_, rfl, hB.trans (belowK_b (w := w) (Nat.le_refl _) W D _ _ (by simp at hD; omega) hK rfl rfl)⟩
  simp [results, Tryz.f91, go_sem, hc5]
end

end Go.Proofs.YtcgfaagadejpmaaGreatDoor.Q
