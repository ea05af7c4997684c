-- Written by a program of this session (wip/myprint) out of the translation, for YtcpmoolpbeeedaaGreatDoor.
import Derived.Test.YtcpmoolpbeeedaaGreatDoorQ0
import Derived.Test.YtcpmoolpbeeedaaGreatDoorQ1
import Derived.Test.YtcpmoolpbeeedaaGreatDoorQ5
import Derived.Test.YtcpmoolpbeeedaaGreatDoorQ7
import Derived.Test.YtcpmoolpbeeedaaGreatDoorQ9
namespace Go.Proofs.YtcpmoolpbeeedaaGreatDoor.Q
open Go.RowKit Go.Proofs.YtcpmoolpbeeedaaGreatDoorW.PrintWords Go.Proofs.YtcpmoolpbeeedaaGreatDoorW.PrintLast Go.Proofs.YtcpmoolpbeeedaaGreatDoorW.PrintMore Go.Proofs.YtcpmoolpbeeedaaGreatDoorW.PrintSq
attribute [local go_sem] max2_int min2_int max_two min_two max_three min_three max_four min_four   -- for this text's walks alone
set_option linter.unusedVariables false
set_option linter.unusedSimpArgs false

attribute [local go_sem high] eqA32
/-! ### addr_why: function 61 -/
def addr_why.j0 : Nat → Int → Bool → ByteArray → ByteArray → Option (Int)
  | 0, _, _, _, _ => none
  | k + 1, x3, x19, x184000, x184001 => if x19 = true then (some 130) else (if x3 = 0 then (if (x184000.size : Int) > 64 then (some 2) else ((addr_Addr_Text.f k x184000 x184001).bind fun t186 => (if (t186.size : Int) > 254 then (some 2) else (some 0)))) else (some 2))
def addr_why.f (k : Nat) (a0_0 : ByteArray) (a0_1 : ByteArray) : Option (Int) := (addr_domain.f k a0_1).bind fun t184 => (if t184 = 130 then (addr_why.j0 k t184 true a0_0 a0_1) else (if a0_0.toList = ([] : List UInt8) then (addr_why.j0 k t184 true a0_0 a0_1) else ((glyph_Plain.f a0_0).bind fun t185 => (addr_why.j0 k t184 (!t185) a0_0 a0_1))))
theorem addr_why.mono_l : ∀ k, (∀ y0 y1 y2 y3, LeO (addr_why.j0 k y0 y1 y2 y3) (addr_why.j0 (k + 1) y0 y1 y2 y3))
  | 0 => fun _ _ _ _ r h => by simp [addr_why.j0] at h
  | k + 1 => by
    have ih0 := addr_why.mono_l k
    · intro y0 y1 y2 y3
      unfold addr_why.j0
      repeat' first | (with_reducible first | exact ih0 _ _ _ _ | exact addr_Addr_Text.mono _ _ _ | exact addr_domain.mono _ _ | exact LeO.refl _ | exact LeO.none _ | refine LeO.ite ?_ ?_ | refine LeO.bind ?_ (fun _ => ?_)) | exact ih0 _ _ _ _ | exact addr_Addr_Text.mono _ _ _ | exact addr_domain.mono _ _ | exact LeO.none _ | refine LeO.ite ?_ ?_ | refine LeO.bind ?_ (fun _ => ?_)
theorem addr_why.mono : ∀ a0 a1 k, LeO (addr_why.f k a0 a1) (addr_why.f (k + 1) a0 a1) := by
  intro a0 a1 k
  have ih0 := addr_why.mono_l k
  unfold addr_why.f
  repeat' first | (with_reducible first | exact ih0 _ _ _ _ | exact addr_Addr_Text.mono _ _ _ | exact addr_domain.mono _ _ | exact LeO.refl _ | exact LeO.none _ | refine LeO.ite ?_ ?_ | refine LeO.bind ?_ (fun _ => ?_)) | exact ih0 _ _ _ _ | exact addr_Addr_Text.mono _ _ _ | exact addr_domain.mono _ _ | exact LeO.none _ | refine LeO.ite ?_ ?_ | refine LeO.bind ?_ (fun _ => ?_)
set_option maxHeartbeats 8000000 in
set_option maxRecDepth 100000 in
theorem addr_why.calls (k : Nat) (a0_0 : ByteArray) (a0_1 : ByteArray) (r : Int) (w : World) (h : addr_why.f k a0_0 a0_1 = some r) :
    Calls Tryz.prog 61 #[.agg #[.string a0_0, .string a0_1]] w fun e w' => e = .returned (.int .i64 r) ∧ Below w.heap.size w w' := by
 have hu32 := Tryz.underlying32
 have HB := Aside0.mk (Below.refl w.heap.size w)
 unfold addr_why.f at h
 have H := h
 clear h
 replace H := Option.bind_eq_some_iff.mp H
 obtain ⟨t184, A20, H⟩ := H
 try dsimp only at H
 have A2 := Aside0.mk A20
 clear A20
 have HC3 := Aside0.mk H
 clear H
 go_enter Tryz.func61, Tryz.ntmps61
 go_upto_region 2 with (first | ((with_reducible refine gate_dst (N := 1) rfl ?_); (try (refine gate_guard (by rfl) ?_; dsimp only)); refine box_event ?hg (N := 1) ?hd (cs := #[.string a0_0, .string a0_1]) (t := 32) ?hr ?_; (case hd => rfl); (case hg => rfl); (case hr => first | (go_simp; done) | (go_simp; rfl)); intro gb183 hg w4 hbox hb; have BK183 := Aside0.mk (hbox); have GW183 : Aside0 (w.heap.size ≤ gb183) := gw_ hg; have GE183 : Aside0 (w.heap.size ≤ gb183) := gw_ hg; replace HB := Aside0.mk (below_step blw hb); clear hb hbox hg; have hcz5_0 : w4.cell? ⟨gb183, 0, none⟩ = some (.string a0_0) := bk_ BK183; have hcz5_1 : w4.cell? ⟨gb183, 1, none⟩ = some (.string a0_1) := bk_ BK183; have hfz5_0 := blk_frozen BK183.out 0; have hfz5_1 := blk_frozen BK183.out 1) | ((with_reducible refine gc 93 rfl ?_); refine cl_ (some 6) Tryz.func93 (addr_domain.calls k a0_1 t184 _ A2.out) ?_; rintro w6 hb; replace BK183 := Aside0.mk (blk_below (g := gb183) (o := .cells #[.string a0_0, .string a0_1] 32 (0, 0)) (bkw BK183) hb); replace HB := Aside0.mk (below_step blw hb); (try clear hb)))
 (try simp only [Act.put, List.setIfInBounds_toArray, List.set_cons_zero, List.set_cons_succ])
 go_cut [19] (fun v19 wc => ∃ (kq : Nat) (x19_2 : Bool), v19 = .bool x19_2 ∧ Aside0 (addr_why.j0 kq t184 x19_2 a0_0 a0_1 = some r) ∧ Aside0 (kq ≤ k) ∧ Aside0 (wc.heap[gb183]? = some (.cells #[.string a0_0, .string a0_1] 32 (0, 0))) ∧ Aside0 (Below w.heap.size w wc))
 case first =>
  have H := HC3.out
  clear HC3
  by_cases c7 : t184 = 130
  ·rw [if_pos c7] at H
   have c7b0 := beq_iff_eq.mpr c7
   have c7b1 := bne_eq_false_iff_eq.mpr c7
   clear c7
   (first | rw [c7b0] | (simp only [i64_w, i32_w]; rw [c7b0]) | skip)
   have H' := Aside0.mk H
   clear H
   go_wp2
   go_meet
   case rel => exact ⟨_, (true), (by first | rfl | (simp; done) | (simp [*]; done) | (simp; exact (by intro l_; cases l_ <;> rfl : ∀ l_ : List UInt8, l_.isEmpty = !(l_ != [])) _)), H', omk, ⟨bkw BK183⟩, ⟨blw⟩⟩
  ·rw [if_neg c7] at H
   have c7b0 := beq_eq_false_iff_ne.mpr c7
   have c7b1 := bne_iff_ne.mpr c7
   (first | rw [c7b0] | (simp only [i64_w, i32_w]; rw [c7b0]) | skip)
   by_cases c8 : a0_0.toList = ([] : List UInt8)
   ·rw [if_pos c8] at H
    have c8b0 := beq_iff_eq.mpr c8
    have c8b1 := bne_eq_false_iff_eq.mpr c8
    clear c8
    have H' := Aside0.mk H
    clear H
    have hcz9_0 : w6.cell? ⟨gb183, 0, none⟩ = some (.string a0_0) := bk_ BK183
    have hcz9_1 : w6.cell? ⟨gb183, 1, none⟩ = some (.string a0_1) := bk_ BK183
    have hfz9_0 := blk_frozen BK183.out 0
    have hfz9_1 := blk_frozen BK183.out 1
    go_wp2
    go_meet
    case rel => exact ⟨_, (true), (by first | rfl | (simp; done) | (simp [*]; done) | (simp; exact (by intro l_; cases l_ <;> rfl : ∀ l_ : List UInt8, l_.isEmpty = !(l_ != [])) _)), H', omk, ⟨bkw BK183⟩, ⟨blw⟩⟩
   ·rw [if_neg c8] at H
    have c8b0 := beq_eq_false_iff_ne.mpr c8
    have c8b1 := bne_iff_ne.mpr c8
    replace H := Option.bind_eq_some_iff.mp H
    obtain ⟨t185, A100, H⟩ := H
    try dsimp only at H
    have A10 := Aside0.mk A100
    clear A100
    have H' := Aside0.mk H
    clear H
    have hcz11_0 : w6.cell? ⟨gb183, 0, none⟩ = some (.string a0_0) := bk_ BK183
    have hcz11_1 : w6.cell? ⟨gb183, 1, none⟩ = some (.string a0_1) := bk_ BK183
    have hfz11_0 := blk_frozen BK183.out 0
    have hfz11_1 := blk_frozen BK183.out 1
    go_wp2_with (first | (go_at_call 94; (with_reducible refine (glyph_Plain.calls a0_0 t185 _ A10.out).mono ?_); rintro e w12 ⟨rfl, hb⟩; replace BK183 := Aside0.mk (blk_below (g := gb183) (o := .cells #[.string a0_0, .string a0_1] 32 (0, 0)) (bkw BK183) hb); replace HB := Aside0.mk (below_step blw hb); (try clear hb)))
    go_meet
    case rel => exact ⟨_, (!t185), (by first | rfl | (simp; done) | (simp [*]; done) | (simp; exact (by intro l_; cases l_ <;> rfl : ∀ l_ : List UInt8, l_.isEmpty = !(l_ != [])) _)), H', omk, ⟨bkw BK183⟩, ⟨blw⟩⟩
 case rest =>
  clear HC3
  try clear p2
  try clear c6
  try clear c7
  try clear c7b0
  try clear c7b1
  try clear c8
  try clear c8b0
  try clear c8b1
  try clear c9
  try clear hcz11_0 hcz11_1
  try clear hcz5_0 hcz5_1
  try clear hcz9_0 hcz9_1
  try clear hfz11_0 hfz11_1
  try clear hfz5_0 hfz5_1
  try clear hfz9_0 hfz9_1
  obtain ⟨kq, x19_2, rfl, HA, HJ2, BK183, HB⟩ := hcut
  cases kq with
  | zero => exact absurd HA.out (by simp [addr_why.j0])
  | succ kj2 =>
   have H := HA.out
   clear HA
   simp only [addr_why.j0] at H
   by_cases c13 : x19_2 = true
   ·subst c13
    rw [if_pos rfl] at H
    obtain rfl := Option.some.inj H
    go_wp2
    go_ret
    exact ⟨by first | rfl | (simp [errW_none, errW_some] <;> rfl) | (simp [*, errW_none, errW_some] <;> rfl), blw⟩
   ·replace c13 := Bool.eq_false_iff.mpr c13
    subst c13
    rw [if_neg nft] at H
    by_cases c14 : t184 = 0
    ·rw [if_pos c14] at H
     have c14b0 := beq_iff_eq.mpr c14
     have c14b1 := bne_eq_false_iff_eq.mpr c14
     clear c14
     by_cases c15 : (a0_0.size : Int) > 64
     ·rw [if_pos c15] at H
      have c15b0 : decide (64 < (a0_0.size : Int)) = true := decide_eq_true c15
      have c15b1 : decide (64 < a0_0.size) = true := decide_eq_true (by omega)
      clear c15
      obtain rfl := Option.some.inj H
      have hcz16_0 : wc.cell? ⟨gb183, 0, none⟩ = some (.string a0_0) := bk_ BK183
      have hcz16_1 : wc.cell? ⟨gb183, 1, none⟩ = some (.string a0_1) := bk_ BK183
      have hfz16_0 := blk_frozen BK183.out 0
      have hfz16_1 := blk_frozen BK183.out 1
      go_wp2
      go_ret
      exact ⟨by first | rfl | (simp [errW_none, errW_some] <;> rfl) | (simp [*, errW_none, errW_some] <;> rfl), blw⟩
     ·rw [if_neg c15] at H
      have c15b0 : decide (64 < (a0_0.size : Int)) = false := decide_eq_false c15
      have c15b1 : decide (64 < a0_0.size) = false := decide_eq_false (by omega)
      clear c15
      replace H := Option.bind_eq_some_iff.mp H
      obtain ⟨t186, A170, H⟩ := H
      try dsimp only at H
      have A17 := Aside0.mk A170
      clear A170
      by_cases c18 : (t186.size : Int) > 254
      ·rw [if_pos c18] at H
       have c18b0 : decide (254 < (t186.size : Int)) = true := decide_eq_true c18
       have c18b1 : decide (254 < t186.size) = true := decide_eq_true (by omega)
       clear c18
       obtain rfl := Option.some.inj H
       have hcz19_0 : wc.cell? ⟨gb183, 0, none⟩ = some (.string a0_0) := bk_ BK183
       have hcz19_1 : wc.cell? ⟨gb183, 1, none⟩ = some (.string a0_1) := bk_ BK183
       have hfz19_0 := blk_frozen BK183.out 0
       have hfz19_1 := blk_frozen BK183.out 1
       go_wp2_with (first | (go_at_call 30; (with_reducible refine (addr_Addr_Text.calls kj2 a0_0 a0_1 t186 _ A17.out).mono ?_); rintro e w20 ⟨rfl, hb⟩; replace BK183 := Aside0.mk (blk_below (g := gb183) (o := .cells #[.string a0_0, .string a0_1] 32 (0, 0)) (bkw BK183) hb); replace HB := Aside0.mk (below_step blw hb); (try clear hb)))
       go_ret
       exact ⟨by first | rfl | (simp [errW_none, errW_some] <;> rfl) | (simp [*, errW_none, errW_some] <;> rfl), blw⟩
      ·rw [if_neg c18] at H
       have c18b0 : decide (254 < (t186.size : Int)) = false := decide_eq_false c18
       have c18b1 : decide (254 < t186.size) = false := decide_eq_false (by omega)
       clear c18
       obtain rfl := Option.some.inj H
       have hcz21_0 : wc.cell? ⟨gb183, 0, none⟩ = some (.string a0_0) := bk_ BK183
       have hcz21_1 : wc.cell? ⟨gb183, 1, none⟩ = some (.string a0_1) := bk_ BK183
       have hfz21_0 := blk_frozen BK183.out 0
       have hfz21_1 := blk_frozen BK183.out 1
       go_wp2_with (first | (go_at_call 30; (with_reducible refine (addr_Addr_Text.calls kj2 a0_0 a0_1 t186 _ A17.out).mono ?_); rintro e w22 ⟨rfl, hb⟩; replace BK183 := Aside0.mk (blk_below (g := gb183) (o := .cells #[.string a0_0, .string a0_1] 32 (0, 0)) (bkw BK183) hb); replace HB := Aside0.mk (below_step blw hb); (try clear hb)))
       go_ret
       exact ⟨by first | rfl | (simp [errW_none, errW_some] <;> rfl) | (simp [*, errW_none, errW_some] <;> rfl), blw⟩
    ·rw [if_neg c14] at H
     have c14b0 := beq_eq_false_iff_ne.mpr c14
     have c14b1 := bne_iff_ne.mpr c14
     obtain rfl := Option.some.inj H
     go_wp2
     go_ret
     exact ⟨by first | rfl | (simp [errW_none, errW_some] <;> rfl) | (simp [*, errW_none, errW_some] <;> rfl), blw⟩

/-! ### glyph_Fold: function 62 -/
/-- A small letter for a capital one. -/
def glyph_Fold.low (c : UInt8) : UInt8 := if 65 ≤ c.toNat ∧ c.toNat ≤ 90 then c + 32 else c
/-- A text in small letters. -/
def glyph_Fold.g (s : ByteArray) : ByteArray := ⟨(s.data.toList.map glyph_Fold.low).toArray⟩
def glyph_Fold.f (a0 : ByteArray) : Option (ByteArray) := if a0.size ≤ 140737488355327 then (some (glyph_Fold.g a0)) else none
theorem glyph_Fold.take_snoc (s : ByteArray) (k : Nat) (h : k < s.size) : (s.data.toList.map glyph_Fold.low).take (k + 1) = (s.data.toList.map glyph_Fold.low).take k ++ [glyph_Fold.low (s[k]'h)] := by
  rw [List.take_succ_eq_append_getElem (by simpa using h), List.getElem_map]
  rfl
theorem glyph_Fold.cell (l : List UInt8) (c : UInt8) (n : Int) (h : (c.toNat : Int) = n) : Lib.byteCells (l ++ [c]) = Lib.byteCells l ++ [.int .u8 n] := by
  rw [Lib.byteCells_append, ← h]
  rfl
theorem glyph_Fold.low_yes (c : UInt8) (h1 : 65 ≤ (c.toNat : Int)) (h2 : (c.toNat : Int) ≤ 90) : ((glyph_Fold.low c).toNat : Int) = (c.toNat : Int) + 32 := by
  unfold glyph_Fold.low
  rw [if_pos ⟨by omega, by omega⟩, UInt8.toNat_add]
  have : (32 : UInt8).toNat = 32 := rfl
  rw [this]
  omega
theorem glyph_Fold.low_no (c : UInt8) (h : ¬ (65 ≤ c.toNat ∧ c.toNat ≤ 90)) : ((glyph_Fold.low c).toNat : Int) = (c.toNat : Int) := by
  unfold glyph_Fold.low
  rw [if_neg h]
set_option maxHeartbeats 4000000 in
set_option maxRecDepth 1000000 in
theorem glyph_Fold.walk (s : ByteArray) (w : World) (hs : s.size ≤ 140737488355327) :
    Calls Tryz.prog 62 #[.string s] w fun e w' => e = .returned (.string (glyph_Fold.g s)) ∧ Below w.heap.size w w' := by
  go_enter Tryz.func62, Tryz.ntmps62
  go_wp2
  go_loopw [8] (fun i wr => ∃ k : Nat, k ≤ s.size ∧ i = .int .i64 k ∧ Lib.IsBuilderF 90 5 w.heap.size w.heap.size (Lib.byteCells ((s.data.toList.map glyph_Fold.low).take k)) wr ∧ Below w.heap.size w wr) (fun i _ => s.size - (intOf i).toNat)
  case atStart =>
    exact ⟨0, Nat.zero_le _, rfl, Lib.IsBuilderF.of (Lib.fresh_isBuilder 90 5 w), (Below.refl _ w).alloc (Nat.le_refl _) _⟩
  case round =>
    obtain ⟨k, hk, rfl, hI, hbw⟩ := hrel
    have hsz := hbw.size
    have hl : ((s.data.toList.map glyph_Fold.low).take k).length ≤ s.size := by rw [List.length_take, List.length_map, data_length]; omega
    by_cases hlt : k < s.size
    · have HS := Lib.hid (glyph_Fold.take_snoc s k hlt)
      have hc0 : ((s[k]'hlt).toNat : Int) < 256 := by have := (s[k]'hlt).toNat_lt; omega
      by_cases h1 : 65 ≤ ((s[k]'hlt).toNat : Int)
      · by_cases h2 : ((s[k]'hlt).toNat : Int) ≤ 90
        · have HL := Lib.hid (glyph_Fold.low_yes _ h1 h2)
          go_wp2_with fail
          refine (Bld.WriteByte w.heap.size w.heap.size _ _ _ hI (by rw [Lib.byteCells_length]; omega) hsz).mono ?_
          rintro e W1 ⟨rfl, h3, b1, _⟩
          go_wp2
          go_roundw
          case rel => exact ⟨k + 1, by omega, by go_num, by rw [HS.out, glyph_Fold.cell _ _ _ HL.out]; exact Or.inr h3, hbw.trans b1⟩
          case measure => simp [intOf]; omega
        · have HL := Lib.hid (glyph_Fold.low_no (s[k]'hlt) (by omega))
          go_wp2_with fail
          refine (Bld.WriteByte w.heap.size w.heap.size _ _ _ hI (by rw [Lib.byteCells_length]; omega) hsz).mono ?_
          rintro e W1 ⟨rfl, h3, b1, _⟩
          go_wp2
          go_roundw
          case rel => exact ⟨k + 1, by omega, by go_num, by rw [HS.out, glyph_Fold.cell _ _ _ HL.out]; exact Or.inr h3, hbw.trans b1⟩
          case measure => simp [intOf]; omega
      · have HL := Lib.hid (glyph_Fold.low_no (s[k]'hlt) (by omega))
        go_wp2_with fail
        refine (Bld.WriteByte w.heap.size w.heap.size _ _ _ hI (by rw [Lib.byteCells_length]; omega) hsz).mono ?_
        rintro e W1 ⟨rfl, h3, b1, _⟩
        go_wp2
        go_roundw
        case rel => exact ⟨k + 1, by omega, by go_num, by rw [HS.out, glyph_Fold.cell _ _ _ HL.out]; exact Or.inr h3, hbw.trans b1⟩
        case measure => simp [intOf]; omega
    · obtain rfl : s.size = k := by omega
      have HT := Lib.hid (show (s.data.toList.map glyph_Fold.low).take s.size = s.data.toList.map glyph_Fold.low from List.take_of_length_le (by rw [List.length_map, data_length]; exact Nat.le_refl _))
      go_wp2_with fail
      refine (Tryz.Builder_String_any_k w.heap.size w.heap.size _ _ hI (by omega)).mono ?_
      rintro e W1 ⟨rfl, _, b1, _⟩
      go_wp2
      go_ret
      exact ⟨congrArg (fun l : List UInt8 => Ending.returned (.string ⟨l.toArray⟩)) HT.out, hbw.trans b1⟩
theorem glyph_Fold.calls (a0 : ByteArray) (r : ByteArray) (w : World) (h : glyph_Fold.f a0 = some r) :
    Calls Tryz.prog 62 #[.string a0] w fun e w' => e = .returned (.string r) ∧ Below w.heap.size w w' := by
 unfold glyph_Fold.f at h
 by_cases h0 : a0.size ≤ 140737488355327
 ·rw [if_pos h0] at h
  obtain rfl := Option.some.inj h
  exact glyph_Fold.walk a0 w h0
 ·rw [if_neg h0] at h
  cases h

/-! ### addr_Addr_Right: function 36 -/
def addr_Addr_Right.f (k : Nat) (a0_0 : ByteArray) (a0_1 : ByteArray) : Option (Bool) := (addr_why.f k a0_0 a0_1).bind fun t188 => (if t188 = 0 then ((glyph_Fold.f a0_1).bind fun t189 => (some (a0_1.toList == t189.toList))) else (some false))
theorem addr_Addr_Right.mono : ∀ a0 a1 k, LeO (addr_Addr_Right.f k a0 a1) (addr_Addr_Right.f (k + 1) a0 a1) := by
  intro a0 a1 k
  unfold addr_Addr_Right.f
  repeat' first | (with_reducible first | exact addr_why.mono _ _ _ | exact LeO.refl _ | exact LeO.none _ | refine LeO.ite ?_ ?_ | refine LeO.bind ?_ (fun _ => ?_)) | exact addr_why.mono _ _ _ | exact LeO.none _ | refine LeO.ite ?_ ?_ | refine LeO.bind ?_ (fun _ => ?_)
def addr_Addr_Right.T1 : Bool × List (List Nat × List Nat) := (true, [([], []), ([0], [0]), ([1], [1]), ([2, 1], [2]), ([3], [3]), ([3], [3]), ([5, 3], [3, 5]), ([3], [3]), ([7, 3], [3, 7]), ([8, 3, 3], [3, 8]), ([6, 9, 3], [3, 6, 9]), ([4, 10, 3], [3, 4, 10]), ([3, 11], [3, 11]), ([12, 9, 0, 1, 2, 3, 4, 5, 6, 7, 8, 9, 10, 11, 12], [12])])
def addr_Addr_Right.B1 : List Nat := [0, 1, 3, 7, 15, 15, 47, 15, 143, 399, 1007, 2047, 4095, 8191]
theorem addr_Addr_Right.tab1 : rtab .any (opsOf Tryz.f36 1) = addr_Addr_Right.T1 := by kernel_rfl
theorem addr_Addr_Right.bits1 : waitsOk addr_Addr_Right.T1.2 addr_Addr_Right.B1 = true := by kernel_rfl
set_option maxHeartbeats 8000000 in
set_option maxRecDepth 100000 in
theorem addr_Addr_Right.calls (k : Nat) (a0_0 : ByteArray) (a0_1 : ByteArray) (r : Bool) (w : World) (h : addr_Addr_Right.f k a0_0 a0_1 = some r) :
    Calls Tryz.prog 36 #[.agg #[.string a0_0, .string a0_1]] w fun e w' => e = .returned (.bool r) ∧ Below w.heap.size w w' := by
 have hu32 := Tryz.underlying32
 have HB := Aside0.mk (Below.refl w.heap.size w)
 unfold addr_Addr_Right.f at h
 have H := h
 clear h
 replace H := Option.bind_eq_some_iff.mp H
 obtain ⟨t188, A20, H⟩ := H
 try dsimp only at H
 have A2 := Aside0.mk A20
 clear A20
 by_cases c3 : t188 = 0
 ·rw [if_pos c3] at H
  have c3b0 := beq_iff_eq.mpr c3
  have c3b1 := bne_eq_false_iff_eq.mpr c3
  clear c3
  replace H := Option.bind_eq_some_iff.mp H
  obtain ⟨t189, A40, H⟩ := H
  try dsimp only at H
  have A4 := Aside0.mk A40
  clear A40
  obtain rfl := Option.some.inj H
  go_enter Tryz.func36, Tryz.ntmps36
  try go_wp2_with (first | ((with_reducible refine gate_dst (N := 1) rfl ?_); refine box_event ?hg (N := 1) ?hd (cs := #[.string a0_0, .string a0_1]) (t := 32) ?hr ?_; (case hd => rfl); (case hg => rfl); (case hr => first | (go_simp; done) | (go_simp; rfl)); intro gb187 hg w5 hbox hb; have BK187 := Aside0.mk (hbox); have GW187 : Aside0 (w.heap.size ≤ gb187) := gw_ hg; have GE187 : Aside0 (w.heap.size ≤ gb187) := gw_ hg; replace HB := Aside0.mk (below_step blw hb); clear hb hbox hg))
  replace BK187 := Aside0.mk (blk_drew BK187.out)
  replace HB := Aside0.mk (below_drew1 HB.out)
  refine start_ (n := 14) (S := fun w' => w'.cell? ⟨gb187, 0, none⟩ = some (.string a0_0) ∧ w'.cell? ⟨gb187, 1, none⟩ = some (.string a0_1)) (ds := []) (ba 14 0) (by kernel_rfl) rfl rfl ⟨bk_ BK187, bk_ BK187⟩ (fun hHeld => ?_); refine with_tabW addr_Addr_Right.tab1 addr_Addr_Right.bits1 (fun HT_ HW_ => ?_)
  generalize w5.drew = w6 at BK187 HB hHeld ⊢
  refine tk_ 0 3 1 hHeld ?_
  refine one1 1 (some 4) 3 (fun K hK => ?_)
  refine go1 Tryz.func61 #[.agg #[.string a0_0, .string a0_1]] ?_
  with_reducible refine (addr_why.calls k a0_0 a0_1 t188 _ A2.out).mono ?_
  rintro e w7 ⟨rfl, hb⟩
  refine ⟨_, rfl, ?_⟩
  replace BK187 := Aside0.mk (blk_below (g := gb187) (o := .cells #[.string a0_0, .string a0_1] 32 (0, 0)) (bkw BK187) hb)
  replace HB := Aside0.mk (below_step blw hb)
  (try clear hb)
  refine hK.out _ _ ⟨bk_ BK187, bk_ BK187⟩ (fun hHeld => ?_)
  clear hK K
  refine nm_ (some 4) ?_
  refine pu_ 2 5 7 ?_
  refine pu_ 3 6 15 ?_
  refine pu_ 5 8 47 ?_
  refine pu_ 7 10 175 ?_
  refine tk_ 4 7 191 hHeld ?_
  refine tk_ 6 9 255 hHeld ?_
  refine tk_ 8 11 511 hHeld ?_
  refine one1 9 (some 12) 1023 (fun K hK => ?_)
  refine go1 Tryz.func62 #[.string a0_1] ?_
  with_reducible refine (glyph_Fold.calls a0_1 t189 _ A4.out).mono ?_
  rintro e w8 ⟨rfl, hb⟩
  refine ⟨_, rfl, ?_⟩
  replace BK187 := Aside0.mk (blk_below (g := gb187) (o := .cells #[.string a0_0, .string a0_1] 32 (0, 0)) (bkw BK187) hb)
  replace HB := Aside0.mk (below_step blw hb)
  (try clear hb)
  refine hK.out _ _ ⟨bk_ BK187, bk_ BK187⟩ (fun hHeld => ?_)
  clear hK K
  refine nm_ (some 12) ?_
  refine pu_ 10 13 2047 ?_
  refine pu_ 11 14 4095 ?_
  refine pu_ 12 15 8191 ?_
  refine pu_ 13 2 16383 ?_
  refine done_ (done_of HT_.out (by kernel_rfl)) ?_
  try go_wp2
  go_ret
  exact ⟨by first | rfl | (simp [errW_none, errW_some] <;> rfl) | (simp [*, errW_none, errW_some] <;> rfl), blw⟩
 ·rw [if_neg c3] at H
  have c3b0 := beq_eq_false_iff_ne.mpr c3
  have c3b1 := bne_iff_ne.mpr c3
  obtain rfl := Option.some.inj H
  go_enter Tryz.func36, Tryz.ntmps36
  try go_wp2_with (first | ((with_reducible refine gate_dst (N := 1) rfl ?_); refine box_event ?hg (N := 1) ?hd (cs := #[.string a0_0, .string a0_1]) (t := 32) ?hr ?_; (case hd => rfl); (case hg => rfl); (case hr => first | (go_simp; done) | (go_simp; rfl)); intro gb187 hg w9 hbox hb; have BK187 := Aside0.mk (hbox); have GW187 : Aside0 (w.heap.size ≤ gb187) := gw_ hg; have GE187 : Aside0 (w.heap.size ≤ gb187) := gw_ hg; replace HB := Aside0.mk (below_step blw hb); clear hb hbox hg))
  replace BK187 := Aside0.mk (blk_drew BK187.out)
  replace HB := Aside0.mk (below_drew1 HB.out)
  refine start_ (n := 14) (S := fun w' => w'.cell? ⟨gb187, 0, none⟩ = some (.string a0_0) ∧ w'.cell? ⟨gb187, 1, none⟩ = some (.string a0_1)) (ds := []) (ba 14 0) (by kernel_rfl) rfl rfl ⟨bk_ BK187, bk_ BK187⟩ (fun hHeld => ?_); refine with_tabW addr_Addr_Right.tab1 addr_Addr_Right.bits1 (fun HT_ HW_ => ?_)
  generalize w9.drew = w10 at BK187 HB hHeld ⊢
  refine tk_ 0 3 1 hHeld ?_
  refine one1 1 (some 4) 3 (fun K hK => ?_)
  refine go1 Tryz.func61 #[.agg #[.string a0_0, .string a0_1]] ?_
  with_reducible refine (addr_why.calls k a0_0 a0_1 t188 _ A2.out).mono ?_
  rintro e w11 ⟨rfl, hb⟩
  refine ⟨_, rfl, ?_⟩
  replace BK187 := Aside0.mk (blk_below (g := gb187) (o := .cells #[.string a0_0, .string a0_1] 32 (0, 0)) (bkw BK187) hb)
  replace HB := Aside0.mk (below_step blw hb)
  (try clear hb)
  refine hK.out _ _ ⟨bk_ BK187, bk_ BK187⟩ (fun hHeld => ?_)
  clear hK K
  refine nm_ (some 4) ?_
  refine pu_ 2 5 7 ?_
  refine pu_ 3 6 15 ?_
  refine pu0 4 7 31 ?_
  refine pu0 5 8 63 ?_
  refine pu0 6 9 127 ?_
  refine pu0 7 10 255 ?_
  refine pu0 8 11 511 ?_
  refine pu0 9 12 1023 ?_
  refine pu0 10 13 2047 ?_
  refine pu0 11 14 4095 ?_
  refine pu_ 12 15 8191 ?_
  refine pu_ 13 2 16383 ?_
  refine done_ (done_of HT_.out (by kernel_rfl)) ?_
  try go_wp2
  go_ret
  exact ⟨by first | rfl | (simp [errW_none, errW_some] <;> rfl) | (simp [*, errW_none, errW_some] <;> rfl), blw⟩

/-! ### date_Day: function 37 -/
def date_Day.f (a0 : Int) : Option (Int) := (date_moment.f a0).bind fun t190 => (if t190 = true then (some (wrap64 (Int.tdiv a0 86400))) else (some (-1)))
set_option maxHeartbeats 8000000 in
set_option maxRecDepth 100000 in
theorem date_Day.calls (a0 : Int) (r : Int) (w : World) (h : date_Day.f a0 = some r) :
    Calls Tryz.prog 37 #[.int .i64 a0] w fun e w' => e = .returned (.int .i64 r) ∧ Drawn0 w w' := by
 unfold date_Day.f at h
 have H := h
 clear h
 replace H := Option.bind_eq_some_iff.mp H
 obtain ⟨t190, A20, H⟩ := H
 try dsimp only at H
 have A2 := Aside0.mk A20
 clear A20
 by_cases c3 : t190 = true
 ·subst c3
  rw [if_pos rfl] at H
  obtain rfl := Option.some.inj H
  go_enter Tryz.func37, Tryz.ntmps37
  go_wp2_with (first | ((with_reducible refine gc 63 rfl ?_); refine cl_ (some 4) Tryz.func63 (date_moment.calls a0 true _ A2.out) ?_; rintro w' ⟨nd, rfl⟩))
  go_ret
  exact ⟨eqs, drw⟩
 ·replace c3 := Bool.eq_false_iff.mpr c3
  subst c3
  rw [if_neg nft] at H
  obtain rfl := Option.some.inj H
  go_enter Tryz.func37, Tryz.ntmps37
  go_wp2_with (first | ((with_reducible refine gc 63 rfl ?_); refine cl_ (some 4) Tryz.func63 (date_moment.calls a0 false _ A2.out) ?_; rintro w' ⟨nd, rfl⟩))
  go_ret
  exact ⟨eqs, drw⟩

/-! ### mbox_Right: function 18 -/
def mbox_Right.f (k : Nat) (a0_0 : ByteArray) (a0_1 : ByteArray) (a0_2 : Int) (a0_3 : ByteArray) : Option (Bool) := (addr_Addr_Right.f k a0_0 a0_1).bind fun t192 => (if t192 = true then ((date_Day.f a0_2).bind fun t193 => (if t193 ≥ 0 then (if a0_3.toList = ([] : List UInt8) then (some true) else ((strings_HasSuffix.f a0_3 (⟨#[13, 10]⟩ : ByteArray)).bind fun t194 => (some t194))) else (some false))) else (some false))
theorem mbox_Right.mono : ∀ a0 a1 a2 a3 k, LeO (mbox_Right.f k a0 a1 a2 a3) (mbox_Right.f (k + 1) a0 a1 a2 a3) := by
  intro a0 a1 a2 a3 k
  unfold mbox_Right.f
  repeat' first | (with_reducible first | exact addr_Addr_Right.mono _ _ _ | exact LeO.refl _ | exact LeO.none _ | refine LeO.ite ?_ ?_ | refine LeO.bind ?_ (fun _ => ?_)) | exact addr_Addr_Right.mono _ _ _ | exact LeO.none _ | refine LeO.ite ?_ ?_ | refine LeO.bind ?_ (fun _ => ?_)
set_option maxHeartbeats 8000000 in
set_option maxRecDepth 100000 in
theorem mbox_Right.calls (k : Nat) (a0_0 : ByteArray) (a0_1 : ByteArray) (a0_2 : Int) (a0_3 : ByteArray) (r : Bool) (w : World) (h : mbox_Right.f k a0_0 a0_1 a0_2 a0_3 = some r) :
    Calls Tryz.prog 18 #[.agg #[.string a0_0, .string a0_1, .int .i64 a0_2, .string a0_3]] w fun e w' => e = .returned (.bool r) ∧ Below w.heap.size w w' := by
 have hu34 := Tryz.underlying34
 have hu32 := Tryz.underlying32
 have HB := Aside0.mk (Below.refl w.heap.size w)
 unfold mbox_Right.f at h
 have H := h
 clear h
 replace H := Option.bind_eq_some_iff.mp H
 obtain ⟨t192, A20, H⟩ := H
 try dsimp only at H
 have A2 := Aside0.mk A20
 clear A20
 by_cases c3 : t192 = true
 ·subst c3
  rw [if_pos rfl] at H
  replace H := Option.bind_eq_some_iff.mp H
  obtain ⟨t193, A40, H⟩ := H
  try dsimp only at H
  have A4 := Aside0.mk A40
  clear A40
  by_cases c5 : t193 ≥ 0
  ·rw [if_pos c5] at H
   have c5b0 : decide (0 ≤ t193) = true := decide_eq_true c5
   clear c5
   by_cases c6 : a0_3.toList = ([] : List UInt8)
   ·rw [if_pos c6] at H
    have c6b0 := beq_iff_eq.mpr c6
    have c6b1 := bne_eq_false_iff_eq.mpr c6
    clear c6
    obtain rfl := Option.some.inj H
    go_enter Tryz.func18, Tryz.ntmps18
    go_wp2_with (first | ((with_reducible refine gate_dst (N := 1) rfl ?_); refine box_event ?hg (N := 1) ?hd (cs := #[.string a0_0, .string a0_1, .int .i64 a0_2, .string a0_3]) (t := 34) ?hr ?_; (case hd => rfl); (case hg => rfl); (case hr => first | (go_simp; done) | (go_simp; rfl)); intro gb191 hg w7 hbox hb; have BK191 := Aside0.mk (hbox); have GW191 : Aside0 (w.heap.size ≤ gb191) := gw_ hg; have GE191 : Aside0 (w.heap.size ≤ gb191) := gw_ hg; replace HB := Aside0.mk (below_step blw hb); clear hb hbox hg; have hcz8_0 : w7.cell? ⟨gb191, 0, none⟩ = some (.string a0_0) := bk_ BK191; have hcz8_1 : w7.cell? ⟨gb191, 1, none⟩ = some (.string a0_1) := bk_ BK191; have hcz8_2 : w7.cell? ⟨gb191, 2, none⟩ = some (.int .i64 a0_2) := bk_ BK191; have hcz8_3 : w7.cell? ⟨gb191, 3, none⟩ = some (.string a0_3) := bk_ BK191; have hfz8_0 := blk_frozen BK191.out 0; have hfz8_1 := blk_frozen BK191.out 1; have hfz8_2 := blk_frozen BK191.out 2; have hfz8_3 := blk_frozen BK191.out 3) | ((with_reducible refine gc 36 rfl ?_); refine cl_ (some 5) Tryz.func36 (addr_Addr_Right.calls k a0_0 a0_1 true _ A2.out) ?_; rintro w9 hb; replace BK191 := Aside0.mk (blk_below (g := gb191) (o := .cells #[.string a0_0, .string a0_1, .int .i64 a0_2, .string a0_3] 34 (0, 0)) (bkw BK191) hb); replace HB := Aside0.mk (below_step blw hb); (try clear hb); have hcz10_0 : w9.cell? ⟨gb191, 0, none⟩ = some (.string a0_0) := bk_ BK191; have hcz10_1 : w9.cell? ⟨gb191, 1, none⟩ = some (.string a0_1) := bk_ BK191; have hcz10_2 : w9.cell? ⟨gb191, 2, none⟩ = some (.int .i64 a0_2) := bk_ BK191; have hcz10_3 : w9.cell? ⟨gb191, 3, none⟩ = some (.string a0_3) := bk_ BK191; have hfz10_0 := blk_frozen BK191.out 0; have hfz10_1 := blk_frozen BK191.out 1; have hfz10_2 := blk_frozen BK191.out 2; have hfz10_3 := blk_frozen BK191.out 3) | (go_at_call 37; (with_reducible refine (date_Day.calls a0_2 t193 _ A4.out).mono ?_); rintro e w' ⟨rfl, ⟨nd, rfl⟩⟩))
    go_ret
    exact ⟨by first | rfl | (simp [errW_none, errW_some] <;> rfl) | (simp [*, errW_none, errW_some] <;> rfl), blw⟩
   ·rw [if_neg c6] at H
    have c6b0 := beq_eq_false_iff_ne.mpr c6
    have c6b1 := bne_iff_ne.mpr c6
    replace H := Option.bind_eq_some_iff.mp H
    obtain ⟨t194, A110, H⟩ := H
    try dsimp only at H
    have A11 := Aside0.mk A110
    clear A110
    obtain rfl := Option.some.inj H
    go_enter Tryz.func18, Tryz.ntmps18
    go_wp2_with (first | ((with_reducible refine gate_dst (N := 1) rfl ?_); refine box_event ?hg (N := 1) ?hd (cs := #[.string a0_0, .string a0_1, .int .i64 a0_2, .string a0_3]) (t := 34) ?hr ?_; (case hd => rfl); (case hg => rfl); (case hr => first | (go_simp; done) | (go_simp; rfl)); intro gb191 hg w12 hbox hb; have BK191 := Aside0.mk (hbox); have GW191 : Aside0 (w.heap.size ≤ gb191) := gw_ hg; have GE191 : Aside0 (w.heap.size ≤ gb191) := gw_ hg; replace HB := Aside0.mk (below_step blw hb); clear hb hbox hg; have hcz13_0 : w12.cell? ⟨gb191, 0, none⟩ = some (.string a0_0) := bk_ BK191; have hcz13_1 : w12.cell? ⟨gb191, 1, none⟩ = some (.string a0_1) := bk_ BK191; have hcz13_2 : w12.cell? ⟨gb191, 2, none⟩ = some (.int .i64 a0_2) := bk_ BK191; have hcz13_3 : w12.cell? ⟨gb191, 3, none⟩ = some (.string a0_3) := bk_ BK191; have hfz13_0 := blk_frozen BK191.out 0; have hfz13_1 := blk_frozen BK191.out 1; have hfz13_2 := blk_frozen BK191.out 2; have hfz13_3 := blk_frozen BK191.out 3) | ((with_reducible refine gc 36 rfl ?_); refine cl_ (some 5) Tryz.func36 (addr_Addr_Right.calls k a0_0 a0_1 true _ A2.out) ?_; rintro w14 hb; replace BK191 := Aside0.mk (blk_below (g := gb191) (o := .cells #[.string a0_0, .string a0_1, .int .i64 a0_2, .string a0_3] 34 (0, 0)) (bkw BK191) hb); replace HB := Aside0.mk (below_step blw hb); (try clear hb); have hcz15_0 : w14.cell? ⟨gb191, 0, none⟩ = some (.string a0_0) := bk_ BK191; have hcz15_1 : w14.cell? ⟨gb191, 1, none⟩ = some (.string a0_1) := bk_ BK191; have hcz15_2 : w14.cell? ⟨gb191, 2, none⟩ = some (.int .i64 a0_2) := bk_ BK191; have hcz15_3 : w14.cell? ⟨gb191, 3, none⟩ = some (.string a0_3) := bk_ BK191; have hfz15_0 := blk_frozen BK191.out 0; have hfz15_1 := blk_frozen BK191.out 1; have hfz15_2 := blk_frozen BK191.out 2; have hfz15_3 := blk_frozen BK191.out 3) | (go_at_call 37; (with_reducible refine (date_Day.calls a0_2 t193 _ A4.out).mono ?_); rintro e w' ⟨rfl, ⟨nd, rfl⟩⟩) | (go_at_call 32; (with_reducible refine (strings_HasSuffix.calls a0_3 (⟨#[13, 10]⟩ : ByteArray) t194 _ A11.out).mono ?_); rintro e w' ⟨rfl, ⟨nd, rfl⟩⟩))
    go_ret
    exact ⟨by first | rfl | (simp [errW_none, errW_some] <;> rfl) | (simp [*, errW_none, errW_some] <;> rfl), blw⟩
  ·rw [if_neg c5] at H
   have c5b0 : decide (0 ≤ t193) = false := decide_eq_false c5
   clear c5
   obtain rfl := Option.some.inj H
   go_enter Tryz.func18, Tryz.ntmps18
   go_wp2_with (first | ((with_reducible refine gate_dst (N := 1) rfl ?_); refine box_event ?hg (N := 1) ?hd (cs := #[.string a0_0, .string a0_1, .int .i64 a0_2, .string a0_3]) (t := 34) ?hr ?_; (case hd => rfl); (case hg => rfl); (case hr => first | (go_simp; done) | (go_simp; rfl)); intro gb191 hg w16 hbox hb; have BK191 := Aside0.mk (hbox); have GW191 : Aside0 (w.heap.size ≤ gb191) := gw_ hg; have GE191 : Aside0 (w.heap.size ≤ gb191) := gw_ hg; replace HB := Aside0.mk (below_step blw hb); clear hb hbox hg; have hcz17_0 : w16.cell? ⟨gb191, 0, none⟩ = some (.string a0_0) := bk_ BK191; have hcz17_1 : w16.cell? ⟨gb191, 1, none⟩ = some (.string a0_1) := bk_ BK191; have hcz17_2 : w16.cell? ⟨gb191, 2, none⟩ = some (.int .i64 a0_2) := bk_ BK191; have hcz17_3 : w16.cell? ⟨gb191, 3, none⟩ = some (.string a0_3) := bk_ BK191; have hfz17_0 := blk_frozen BK191.out 0; have hfz17_1 := blk_frozen BK191.out 1; have hfz17_2 := blk_frozen BK191.out 2; have hfz17_3 := blk_frozen BK191.out 3) | ((with_reducible refine gc 36 rfl ?_); refine cl_ (some 5) Tryz.func36 (addr_Addr_Right.calls k a0_0 a0_1 true _ A2.out) ?_; rintro w18 hb; replace BK191 := Aside0.mk (blk_below (g := gb191) (o := .cells #[.string a0_0, .string a0_1, .int .i64 a0_2, .string a0_3] 34 (0, 0)) (bkw BK191) hb); replace HB := Aside0.mk (below_step blw hb); (try clear hb); have hcz19_0 : w18.cell? ⟨gb191, 0, none⟩ = some (.string a0_0) := bk_ BK191; have hcz19_1 : w18.cell? ⟨gb191, 1, none⟩ = some (.string a0_1) := bk_ BK191; have hcz19_2 : w18.cell? ⟨gb191, 2, none⟩ = some (.int .i64 a0_2) := bk_ BK191; have hcz19_3 : w18.cell? ⟨gb191, 3, none⟩ = some (.string a0_3) := bk_ BK191; have hfz19_0 := blk_frozen BK191.out 0; have hfz19_1 := blk_frozen BK191.out 1; have hfz19_2 := blk_frozen BK191.out 2; have hfz19_3 := blk_frozen BK191.out 3) | (go_at_call 37; (with_reducible refine (date_Day.calls a0_2 t193 _ A4.out).mono ?_); rintro e w' ⟨rfl, ⟨nd, rfl⟩⟩))
   go_ret
   exact ⟨by first | rfl | (simp [errW_none, errW_some] <;> rfl) | (simp [*, errW_none, errW_some] <;> rfl), blw⟩
 ·replace c3 := Bool.eq_false_iff.mpr c3
  subst c3
  rw [if_neg nft] at H
  obtain rfl := Option.some.inj H
  go_enter Tryz.func18, Tryz.ntmps18
  go_wp2_with (first | ((with_reducible refine gate_dst (N := 1) rfl ?_); refine box_event ?hg (N := 1) ?hd (cs := #[.string a0_0, .string a0_1, .int .i64 a0_2, .string a0_3]) (t := 34) ?hr ?_; (case hd => rfl); (case hg => rfl); (case hr => first | (go_simp; done) | (go_simp; rfl)); intro gb191 hg w20 hbox hb; have BK191 := Aside0.mk (hbox); have GW191 : Aside0 (w.heap.size ≤ gb191) := gw_ hg; have GE191 : Aside0 (w.heap.size ≤ gb191) := gw_ hg; replace HB := Aside0.mk (below_step blw hb); clear hb hbox hg; have hcz21_0 : w20.cell? ⟨gb191, 0, none⟩ = some (.string a0_0) := bk_ BK191; have hcz21_1 : w20.cell? ⟨gb191, 1, none⟩ = some (.string a0_1) := bk_ BK191; have hcz21_2 : w20.cell? ⟨gb191, 2, none⟩ = some (.int .i64 a0_2) := bk_ BK191; have hcz21_3 : w20.cell? ⟨gb191, 3, none⟩ = some (.string a0_3) := bk_ BK191; have hfz21_0 := blk_frozen BK191.out 0; have hfz21_1 := blk_frozen BK191.out 1; have hfz21_2 := blk_frozen BK191.out 2; have hfz21_3 := blk_frozen BK191.out 3) | ((with_reducible refine gc 36 rfl ?_); refine cl_ (some 5) Tryz.func36 (addr_Addr_Right.calls k a0_0 a0_1 false _ A2.out) ?_; rintro w22 hb; replace BK191 := Aside0.mk (blk_below (g := gb191) (o := .cells #[.string a0_0, .string a0_1, .int .i64 a0_2, .string a0_3] 34 (0, 0)) (bkw BK191) hb); replace HB := Aside0.mk (below_step blw hb); (try clear hb)))
  go_ret
  exact ⟨by first | rfl | (simp [errW_none, errW_some] <;> rfl) | (simp [*, errW_none, errW_some] <;> rfl), blw⟩

/-! ### strings_Cut: function 67 -/
def strings_Cut.f (a0 : ByteArray) (a1 : ByteArray) : Option (ByteArray × ByteArray × Bool) := if a0.size < 4294967281 then (some (⟨(Lib.cut a0.data.toList a1.data.toList).1.toArray⟩, ⟨(Lib.cut a0.data.toList a1.data.toList).2.1.toArray⟩, (Lib.cut a0.data.toList a1.data.toList).2.2)) else none
theorem strings_Cut.calls (a0 : ByteArray) (a1 : ByteArray) (r1 : ByteArray) (r2 : ByteArray) (r3 : Bool) (w : World) (hG : Amb w) (h : strings_Cut.f a0 a1 = some (r1, r2, r3)) :
    Calls Tryz.prog 67 #[.string a0, .string a1] w fun e w' => e = .returned (.tuple #[.string r1, .string r2, .bool r3]) ∧ Drawn0 w w' := by
 unfold strings_Cut.f at h
 by_cases h0 : a0.size < 4294967281
 ·rw [if_pos h0] at h
  have h := Option.some.inj h
  simp only [Prod.mk.injEq] at h
  obtain ⟨rfl, rfl, rfl⟩ := h
  obtain ⟨m, hm⟩ := hG.mx
  refine (Tryz.strings_Cut a0 a1 m w h0 hm).mono ?_
  rintro e w' ⟨rfl, n, rfl⟩
  exact ⟨rfl, ⟨n, rfl⟩⟩
 ·rw [if_neg h0] at h
  cases h

/-! ### lex_white: function 166 -/
def lex_white.f (a0 : Int) : Option (Bool) := if a0 = 32 then (none) else (some (a0 == 9))
set_option maxHeartbeats 8000000 in
set_option maxRecDepth 100000 in
theorem lex_white.calls (a0 : Int) (r : Bool) (w : World) (h : lex_white.f a0 = some r) :
    Calls Tryz.prog 166 #[.int .u8 a0] w fun e w' => e = .returned (.bool r) ∧ Drawn0 w w' := by
 unfold lex_white.f at h
 have H := h
 clear h
 obtain ⟨c2, H⟩ := iteN H
 have c2b0 := beq_eq_false_iff_ne.mpr c2
 have c2b1 := bne_iff_ne.mpr c2
 obtain rfl := Option.some.inj H
 go_enter Tryz.func166, Tryz.ntmps166
 go_wp2
 go_ret
 exact ⟨eqs, drw⟩

/-! ### lex_fold: function 167 -/
def lex_fold.f (a0 : ByteArray) : Option (Bool) := if (a0.size : Int) > 2 then (if 0 < (a0.size : Int) then (if (bt a0 0) = 13 then (none) else (some false)) else (none)) else (some false)
set_option maxHeartbeats 8000000 in
set_option maxRecDepth 100000 in
theorem lex_fold.calls (a0 : ByteArray) (r : Bool) (w : World) (h : lex_fold.f a0 = some r) :
    Calls Tryz.prog 167 #[.string a0] w fun e w' => e = .returned (.bool r) ∧ Drawn0 w w' := by
 unfold lex_fold.f at h
 have H := h
 clear h
 by_cases c2 : (a0.size : Int) > 2
 ·rw [if_pos c2] at H
  have c2b0 : decide (2 < (a0.size : Int)) = true := decide_eq_true c2
  have c2b1 : decide (2 < a0.size) = true := decide_eq_true (by omega)
  clear c2
  obtain ⟨c3, H⟩ := iteS H
  have c3b0 := decide_eq_true c3
  have c3b1 : decide (0 < a0.size) = true := decide_eq_true (by omega)
  clear c3
  obtain ⟨c5, H⟩ := iteN H
  have c5b0 := beq_eq_false_iff_ne.mpr c5
  have c5b1 := bne_iff_ne.mpr c5
  obtain rfl := Option.some.inj H
  have p4 : 0 ≤ (0 : Int) := (by omega)
  have q4 : 0 < a0.size := (by have : (0 : Int) < (a0.size : Int) := od_; omega)
  have hx4 : ∀ h : 0 < a0.size, ((a0[0]'h).toNat : Int) = bt a0 0 := bt_at a0 0
  clear p4
  have qi4 : (0 < (a0.size : Int)) = True := eq_true (od_)
  replace q4 := eq_true q4
  go_enter Tryz.func167, Tryz.ntmps167
  go_wp2
  go_ret
  exact ⟨eqs, drw⟩
 ·rw [if_neg c2] at H
  have c2b0 : decide (2 < (a0.size : Int)) = false := decide_eq_false c2
  have c2b1 : decide (2 < a0.size) = false := decide_eq_false (by omega)
  clear c2
  obtain rfl := Option.some.inj H
  go_enter Tryz.func167, Tryz.ntmps167
  go_wp2
  go_ret
  exact ⟨eqs, drw⟩

/-! ### lex_escaped: function 177 -/
def lex_escaped.f (a0 : ByteArray) : Option (Int) := if a0.toList = ([] : List UInt8) then (none) else (none)
set_option maxHeartbeats 8000000 in
set_option maxRecDepth 100000 in
theorem lex_escaped.calls (a0 : ByteArray) (r : Int) (w : World) (h : lex_escaped.f a0 = some r) :
    Calls Tryz.prog 177 #[.string a0] w fun e w' => e = .returned (.int .i64 r) ∧ Drawn0 w w' := by
 unfold lex_escaped.f at h
 have H := h
 clear h
 obtain ⟨c2, H⟩ := iteS H
 exact absurd H (by simp)

/-! ### lex_comment: function 168 -/
def lex_comment.l0 : Nat → ByteArray → Int → Option (ByteArray × Int)
  | 0, _, _ => none
  | k + 1, x0, x5 => if x5 < (x0.size : Int) then (none) else (none)
def lex_comment.f (k : Nat) (a0 : ByteArray) : Option (ByteArray × Int) := lex_comment.l0 k a0 0
theorem lex_comment.mono_l : ∀ k, (∀ y0 y1, LeO (lex_comment.l0 k y0 y1) (lex_comment.l0 (k + 1) y0 y1))
  | 0 => fun _ _ r h => by simp [lex_comment.l0] at h
  | k + 1 => by
    have ih0 := lex_comment.mono_l k
    · intro y0 y1
      unfold lex_comment.l0
      repeat' first | (with_reducible first | exact ih0 _ _ | exact LeO.refl _ | exact LeO.none _ | refine LeO.ite ?_ ?_ | refine LeO.bind ?_ (fun _ => ?_)) | exact ih0 _ _ | exact LeO.none _ | refine LeO.ite ?_ ?_ | refine LeO.bind ?_ (fun _ => ?_)
theorem lex_comment.mono : ∀ a0 k, LeO (lex_comment.f k a0) (lex_comment.f (k + 1) a0) := by
  intro a0 k
  have ih0 := lex_comment.mono_l k
  unfold lex_comment.f
  repeat' first | (with_reducible first | exact ih0 _ _ | exact LeO.refl _ | exact LeO.none _ | refine LeO.ite ?_ ?_ | refine LeO.bind ?_ (fun _ => ?_)) | exact ih0 _ _ | exact LeO.none _ | refine LeO.ite ?_ ?_ | refine LeO.bind ?_ (fun _ => ?_)
set_option maxHeartbeats 8000000 in
set_option maxRecDepth 100000 in
theorem lex_comment.calls (k : Nat) (a0 : ByteArray) (r1 : ByteArray) (r2 : Int) (w : World) (h : lex_comment.f k a0 = some (r1, r2)) :
    Calls Tryz.prog 168 #[.string a0] w fun e w' => e = .returned (.tuple #[.string r1, .int .i64 r2]) ∧ Drawn0 w w' := by
 unfold lex_comment.f at h
 have H := h
 clear h
 have H' := Aside0.mk H
 clear H
 go_enter Tryz.func168, Tryz.ntmps168
 go_wp2
 go_step3
 go_wp2
 go_step3
 go_wp2
 go_loopg [0, 5] k (fun kq v0 v5 w' => ∃ (x0_1 : ByteArray) (x5_1 : Int), v0 = .string x0_1 ∧ v5 = .int .i64 x5_1 ∧ Aside0 (lex_comment.l0 kq x0_1 x5_1 = some (r1, r2)) ∧ Aside0 (kq ≤ k) ∧ Drawn0 w w')
 case atStart => exact ⟨(a0), (0), eqs, eqs, H', ⟨Nat.le_refl _⟩, drw⟩
 case round =>
  clear H'
  try clear c1
  obtain ⟨x0_1, x5_1, rfl, rfl, HA, HK1, ⟨m1, rfl⟩⟩ := hrel
  cases gk with
  | zero => exact absurd HA.out (by simp [lex_comment.l0])
  | succ k1 =>
   have H := HA.out
   clear HA
   simp only [lex_comment.l0] at H
   obtain ⟨c2, H⟩ := iteS H
   exact absurd H (by simp)

end Go.Proofs.YtcpmoolpbeeedaaGreatDoor.Q
