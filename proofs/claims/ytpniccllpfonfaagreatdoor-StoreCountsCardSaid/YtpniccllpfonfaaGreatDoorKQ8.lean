-- Texts of this session put together by a program of it (wip/pack.py).
import Derived.Test.YtpniccllpfonfaaGreatDoorKQ0
import Derived.Test.YtpniccllpfonfaaGreatDoorKQ6
import Derived.Test.YtpniccllpfonfaaGreatDoorKQ7
namespace Go.Proofs.YtpniccllpfonfaaGreatDoor.Q
open Go.RowKit Go.Proofs.YtpniccllpfonfaaGreatDoorW.PrintWords Go.Proofs.YtpniccllpfonfaaGreatDoorW.PrintLast Go.Proofs.YtpniccllpfonfaaGreatDoorW.PrintMore Go.Proofs.YtpniccllpfonfaaGreatDoorW.PrintSq
attribute [local go_sem] max2_int min2_int max_two min_two max_three min_three max_four min_four   -- for this text's walks alone
set_option linter.unusedVariables false
set_option linter.unusedSimpArgs false
/-! ### addr_Addr_Key: function 54 -/
def addr_Addr_Key.f (k : Nat) (a0_0 : ByteArray) (a0_1 : ByteArray) : Option (ByteArray) := (addr_Addr_Text.f k a0_0 a0_1).bind fun t228 => ((glyph_Fold.f t228).bind fun t229 => (some t229))
theorem addr_Addr_Key.mono : ∀ a0 a1 k, LeO (addr_Addr_Key.f k a0 a1) (addr_Addr_Key.f (k + 1) a0 a1) := by
  intro a0 a1 k
  unfold addr_Addr_Key.f
  repeat' first | (with_reducible first | exact addr_Addr_Text.mono _ _ _ | exact LeO.refl _ | exact LeO.none _ | refine LeO.ite ?_ ?_ | refine LeO.bind ?_ (fun _ => ?_)) | exact addr_Addr_Text.mono _ _ _ | exact LeO.none _ | refine LeO.ite ?_ ?_ | refine LeO.bind ?_ (fun _ => ?_)
set_option maxHeartbeats 8000000 in
set_option maxRecDepth 100000 in
theorem addr_Addr_Key.calls (k : Nat) (a0_0 : ByteArray) (a0_1 : ByteArray) (r : ByteArray) (w : World) (h : addr_Addr_Key.f k a0_0 a0_1 = some r) :
    Calls Tryz.prog 54 #[.agg #[.string a0_0, .string a0_1]] w fun e w' => e = .returned (.string r) ∧ Below w.heap.size w w' := by
 have hu45 := Tryz.underlying45
 have HB := Aside0.mk (Below.refl w.heap.size w)
 unfold addr_Addr_Key.f at h
 have H := h
 clear h
 replace H := Option.bind_eq_some_iff.mp H
 obtain ⟨t228, A20, H⟩ := H
 try dsimp only at H
 have A2 := Aside0.mk A20
 clear A20
 replace H := Option.bind_eq_some_iff.mp H
 obtain ⟨t229, A30, H⟩ := H
 try dsimp only at H
 have A3 := Aside0.mk A30
 clear A30
 obtain rfl := Option.some.inj H
 go_enter Tryz.func54, Tryz.ntmps54
 go_wp2_with (first | ((with_reducible refine gate_dst (N := 1) rfl ?_); refine box_event ?hg (N := 1) ?hd (cs := #[.string a0_0, .string a0_1]) (t := 45) ?hr ?_; (case hd => rfl); (case hg => rfl); (case hr => first | (go_simp; done) | (go_simp; rfl)); intro gb227 hg w4 hbox hb; have BK227 := Aside0.mk (hbox); have GW227 : Aside0 (w.heap.size ≤ gb227) := gw_ hg; have GE227 : Aside0 (w.heap.size ≤ gb227) := gw_ hg; replace HB := Aside0.mk (below_step blw hb); clear hb hbox hg; have hcz5_0 : w4.cell? ⟨gb227, 0, none⟩ = some (.string a0_0) := bk_ BK227; have hcz5_1 : w4.cell? ⟨gb227, 1, none⟩ = some (.string a0_1) := bk_ BK227; have hfz5_0 := blk_frozen BK227.out 0; have hfz5_1 := blk_frozen BK227.out 1) | ((with_reducible refine gc 97 rfl ?_); refine cl_ (some 4) Tryz.func97 (addr_Addr_Text.calls k a0_0 a0_1 t228 _ A2.out) ?_; rintro w6 hb; replace BK227 := Aside0.mk (blk_below (g := gb227) (o := .cells #[.string a0_0, .string a0_1] 45 (0, 0)) (bkw BK227) hb); replace HB := Aside0.mk (below_step blw hb); (try clear hb)) | ((with_reducible refine gc 96 rfl ?_); refine cl_ (some 5) Tryz.func96 (glyph_Fold.calls t228 t229 _ A3.out) ?_; rintro w7 hb; replace BK227 := Aside0.mk (blk_below (g := gb227) (o := .cells #[.string a0_0, .string a0_1] 45 (0, 0)) (bkw BK227) hb); replace HB := Aside0.mk (below_step blw hb); (try clear hb)))
 go_ret
 exact ⟨by first | rfl | (simp [errW_none, errW_some] <;> rfl) | (simp [*, errW_none, errW_some] <;> rfl), blw⟩
/-! ### roster_Word: function 118 -/
def roster_Word.f (a0 : Int) : Option (ByteArray) := if a0 = 1 then (some (⟨#[101, 97, 99, 104]⟩ : ByteArray)) else (if a0 = 2 then (some (⟨#[100, 105, 103, 101, 115, 116]⟩ : ByteArray)) else (if a0 = 3 then (some (⟨#[115, 105, 108, 101, 110, 116]⟩ : ByteArray)) else (some (⟨#[]⟩ : ByteArray))))
set_option maxHeartbeats 8000000 in
set_option maxRecDepth 100000 in
theorem roster_Word.calls (a0 : Int) (r : ByteArray) (w : World) (h : roster_Word.f a0 = some r) :
    Calls Tryz.prog 118 #[.int .i64 a0] w fun e w' => e = .returned (.string r) ∧ Drawn0 w w' := by
 unfold roster_Word.f at h
 have H := h
 clear h
 by_cases c2 : a0 = 1
 ·rw [if_pos c2] at H
  have c2b0 := beq_iff_eq.mpr c2
  have c2b1 := bne_eq_false_iff_eq.mpr c2
  clear c2
  obtain rfl := Option.some.inj H
  go_enter Tryz.func118, Tryz.ntmps118
  go_wp2
  go_ret
  exact ⟨eqs, drw⟩
 ·rw [if_neg c2] at H
  have c2b0 := beq_eq_false_iff_ne.mpr c2
  have c2b1 := bne_iff_ne.mpr c2
  by_cases c3 : a0 = 2
  ·rw [if_pos c3] at H
   have c3b0 := beq_iff_eq.mpr c3
   have c3b1 := bne_eq_false_iff_eq.mpr c3
   clear c3
   obtain rfl := Option.some.inj H
   go_enter Tryz.func118, Tryz.ntmps118
   go_wp2
   go_ret
   exact ⟨eqs, drw⟩
  ·rw [if_neg c3] at H
   have c3b0 := beq_eq_false_iff_ne.mpr c3
   have c3b1 := bne_iff_ne.mpr c3
   by_cases c4 : a0 = 3
   ·rw [if_pos c4] at H
    have c4b0 := beq_iff_eq.mpr c4
    have c4b1 := bne_eq_false_iff_eq.mpr c4
    clear c4
    obtain rfl := Option.some.inj H
    go_enter Tryz.func118, Tryz.ntmps118
    go_wp2
    go_ret
    exact ⟨eqs, drw⟩
   ·rw [if_neg c4] at H
    have c4b0 := beq_eq_false_iff_ne.mpr c4
    have c4b1 := bne_iff_ne.mpr c4
    obtain rfl := Option.some.inj H
    go_enter Tryz.func118, Tryz.ntmps118
    go_wp2
    go_ret
    exact ⟨eqs, drw⟩
/-! ### roster_yes: function 119 -/
def roster_yes.f (a0 : Bool) : Option (ByteArray) := if a0 = true then (some (⟨#[121, 101, 115]⟩ : ByteArray)) else (some (⟨#[110, 111]⟩ : ByteArray))
set_option maxHeartbeats 8000000 in
set_option maxRecDepth 100000 in
theorem roster_yes.calls (a0 : Bool) (r : ByteArray) (w : World) (h : roster_yes.f a0 = some r) :
    Calls Tryz.prog 119 #[.bool a0] w fun e w' => e = .returned (.string r) ∧ Drawn0 w w' := by
 unfold roster_yes.f at h
 have H := h
 clear h
 by_cases c2 : a0 = true
 ·subst c2
  rw [if_pos rfl] at H
  obtain rfl := Option.some.inj H
  go_enter Tryz.func119, Tryz.ntmps119
  go_wp2
  go_ret
  exact ⟨eqs, drw⟩
 ·replace c2 := Bool.eq_false_iff.mpr c2
  subst c2
  rw [if_neg nft] at H
  obtain rfl := Option.some.inj H
  go_enter Tryz.func119, Tryz.ntmps119
  go_wp2
  go_ret
  exact ⟨eqs, drw⟩
-- NOT PRINTED: function 76 (roster_Member_Row)
/-! ### nets_digit: function 232 -/
def nets_digit.f (a0 : Int) : Option (Bool) := if a0 ≥ 48 then (some (decide (a0 ≤ 57))) else (some false)
set_option maxHeartbeats 8000000 in
set_option maxRecDepth 100000 in
theorem nets_digit.calls (a0 : Int) (r : Bool) (w : World) (h : nets_digit.f a0 = some r) :
    Calls Tryz.prog 232 #[.int .u8 a0] w fun e w' => e = .returned (.bool r) ∧ Drawn0 w w' := by
 unfold nets_digit.f at h
 have H := h
 clear h
 by_cases c2 : a0 ≥ 48
 ·rw [if_pos c2] at H
  have c2b0 : decide (48 ≤ a0) = true := decide_eq_true c2
  clear c2
  obtain rfl := Option.some.inj H
  go_enter Tryz.func232, Tryz.ntmps232
  go_wp2
  go_ret
  exact ⟨eqs, drw⟩
 ·rw [if_neg c2] at H
  have c2b0 : decide (48 ≤ a0) = false := decide_eq_false c2
  clear c2
  obtain rfl := Option.some.inj H
  go_enter Tryz.func232, Tryz.ntmps232
  go_wp2
  go_ret
  exact ⟨eqs, drw⟩
/-! ### nets_size: function 213 -/
mutual
def nets_size.j1 : Nat → ByteArray → Int → Int → Option (Int × Int × Int)
  | 0, _, _, _ => none
  | k + 1, x0, x2, x3 => if x3 = 0 then (some (0, 0, 3)) else (if x3 > 9 then (some (0, 0, 2)) else (if x3 = (x0.size : Int) then (some (0, 0, 9)) else (if 0 ≤ x3 then (if x3 < (x0.size : Int) then (if (bt x0 x3) = 58 then (if x3 > 1 then (if 0 < (x0.size : Int) then (if (bt x0 0) = 48 then (some (0, 0, 3)) else (nets_size.j2 k x0 x2 x3)) else (none)) else (nets_size.j2 k x0 x2 x3)) else (some (0, 0, 3))) else (none)) else (none))))
def nets_size.j2 : Nat → ByteArray → Int → Int → Option (Int × Int × Int)
  | 0, _, _, _ => none
  | k + 1, x0, x2, x3 => nets_size.l1 k x0 x2 x3 x3 0
def nets_size.l1 : Nat → ByteArray → Int → Int → Int → Int → Option (Int × Int × Int)
  | 0, _, _, _, _, _ => none
  | k + 1, x0, x2, x3, x45, x46 => if x46 < x45 then (if 0 ≤ x46 then (if x46 < (x0.size : Int) then (nets_size.l1 k x0 (wrap64 ((wrap64 (x2 * 10)) + (((bt x0 x46) - 48) % 256))) x3 x45 (wrap64 (x46 + 1))) else (none)) else (none)) else (some (x2, wrap64 (x3 + 1), 0))
def nets_size.l0 : Nat → ByteArray → Int → Int → Option (Int × Int × Int)
  | 0, _, _, _ => none
  | k + 1, x0, x2, x3 => if x3 < (x0.size : Int) then (if 0 ≤ x3 then ((nets_digit.f (bt x0 x3)).bind fun t241 => (if t241 = true then (nets_size.l0 k x0 x2 (wrap64 (x3 + 1))) else (nets_size.j1 k x0 x2 x3))) else (none)) else (nets_size.j1 k x0 x2 x3)
end
def nets_size.f (k : Nat) (a0 : ByteArray) : Option (Int × Int × Int) := if a0.toList = ([] : List UInt8) then (some (0, 0, 9)) else (nets_size.l0 k a0 0 0)
theorem nets_size.mono_l : ∀ k, (∀ y0 y1 y2, LeO (nets_size.j1 k y0 y1 y2) (nets_size.j1 (k + 1) y0 y1 y2)) ∧ (∀ y0 y1 y2, LeO (nets_size.j2 k y0 y1 y2) (nets_size.j2 (k + 1) y0 y1 y2)) ∧ (∀ y0 y1 y2 y3 y4, LeO (nets_size.l1 k y0 y1 y2 y3 y4) (nets_size.l1 (k + 1) y0 y1 y2 y3 y4)) ∧ (∀ y0 y1 y2, LeO (nets_size.l0 k y0 y1 y2) (nets_size.l0 (k + 1) y0 y1 y2))
  | 0 => ⟨fun _ _ _ r h => by simp [nets_size.j1] at h, fun _ _ _ r h => by simp [nets_size.j2] at h, fun _ _ _ _ _ r h => by simp [nets_size.l1] at h, fun _ _ _ r h => by simp [nets_size.l0] at h⟩
  | k + 1 => by
    obtain ⟨ih0, ih1, ih2, ih3⟩ := nets_size.mono_l k
    refine ⟨?_, ?_, ?_, ?_⟩
    · intro y0 y1 y2
      unfold nets_size.j1
      repeat' first | (with_reducible first | exact ih0 _ _ _ | exact ih1 _ _ _ | exact ih2 _ _ _ _ _ | exact ih3 _ _ _ | exact LeO.refl _ | exact LeO.none _ | refine LeO.ite ?_ ?_ | refine LeO.bind ?_ (fun _ => ?_)) | exact ih0 _ _ _ | exact ih1 _ _ _ | exact ih2 _ _ _ _ _ | exact ih3 _ _ _ | exact LeO.none _ | refine LeO.ite ?_ ?_ | refine LeO.bind ?_ (fun _ => ?_)
    · intro y0 y1 y2
      unfold nets_size.j2
      repeat' first | (with_reducible first | exact ih0 _ _ _ | exact ih1 _ _ _ | exact ih2 _ _ _ _ _ | exact ih3 _ _ _ | exact LeO.refl _ | exact LeO.none _ | refine LeO.ite ?_ ?_ | refine LeO.bind ?_ (fun _ => ?_)) | exact ih0 _ _ _ | exact ih1 _ _ _ | exact ih2 _ _ _ _ _ | exact ih3 _ _ _ | exact LeO.none _ | refine LeO.ite ?_ ?_ | refine LeO.bind ?_ (fun _ => ?_)
    · intro y0 y1 y2 y3 y4
      unfold nets_size.l1
      repeat' first | (with_reducible first | exact ih0 _ _ _ | exact ih1 _ _ _ | exact ih2 _ _ _ _ _ | exact ih3 _ _ _ | exact LeO.refl _ | exact LeO.none _ | refine LeO.ite ?_ ?_ | refine LeO.bind ?_ (fun _ => ?_)) | exact ih0 _ _ _ | exact ih1 _ _ _ | exact ih2 _ _ _ _ _ | exact ih3 _ _ _ | exact LeO.none _ | refine LeO.ite ?_ ?_ | refine LeO.bind ?_ (fun _ => ?_)
    · intro y0 y1 y2
      unfold nets_size.l0
      repeat' first | (with_reducible first | exact ih0 _ _ _ | exact ih1 _ _ _ | exact ih2 _ _ _ _ _ | exact ih3 _ _ _ | exact LeO.refl _ | exact LeO.none _ | refine LeO.ite ?_ ?_ | refine LeO.bind ?_ (fun _ => ?_)) | exact ih0 _ _ _ | exact ih1 _ _ _ | exact ih2 _ _ _ _ _ | exact ih3 _ _ _ | exact LeO.none _ | refine LeO.ite ?_ ?_ | refine LeO.bind ?_ (fun _ => ?_)
theorem nets_size.mono : ∀ a0 k, LeO (nets_size.f k a0) (nets_size.f (k + 1) a0) := by
  intro a0 k
  obtain ⟨ih0, ih1, ih2, ih3⟩ := nets_size.mono_l k
  unfold nets_size.f
  repeat' first | (with_reducible first | exact ih0 _ _ _ | exact ih1 _ _ _ | exact ih2 _ _ _ _ _ | exact ih3 _ _ _ | exact LeO.refl _ | exact LeO.none _ | refine LeO.ite ?_ ?_ | refine LeO.bind ?_ (fun _ => ?_)) | exact ih0 _ _ _ | exact ih1 _ _ _ | exact ih2 _ _ _ _ _ | exact ih3 _ _ _ | exact LeO.none _ | refine LeO.ite ?_ ?_ | refine LeO.bind ?_ (fun _ => ?_)
set_option maxHeartbeats 8000000 in
set_option maxRecDepth 100000 in
theorem nets_size.calls (k : Nat) (a0 : ByteArray) (r1 : Int) (r2 : Int) (r3 : Int) (w : World) (h : nets_size.f k a0 = some (r1, r2, r3)) :
    Calls Tryz.prog 213 #[.string a0] w fun e w' => e = .returned (.tuple #[.int .i64 r1, .int .i64 r2, .int .i64 r3]) ∧ Drawn0 w w' := by
 unfold nets_size.f at h
 have H := h
 clear h
 by_cases c2 : a0.toList = ([] : List UInt8)
 ·rw [if_pos c2] at H
  have c2b0 := beq_iff_eq.mpr c2
  have c2b1 := bne_eq_false_iff_eq.mpr c2
  clear c2
  simp only [Option.some.injEq, Prod.mk.injEq] at H
  obtain ⟨rfl, rfl, rfl⟩ := H
  go_enter Tryz.func213, Tryz.ntmps213
  go_wp2
  go_ret3
  exact ⟨by first | rfl | (simp; done) | (simp [*]; done) | (simp; exact (by intro l_; cases l_ <;> rfl : ∀ l_ : List UInt8, l_.isEmpty = !(l_ != [])) _), drw⟩
 ·rw [if_neg c2] at H
  have c2b0 := beq_eq_false_iff_ne.mpr c2
  have c2b1 := bne_iff_ne.mpr c2
  have HC3 := Aside0.mk H
  clear H
  go_enter Tryz.func213, Tryz.ntmps213
  go_upto_block 0 with (fail)
  go_cut [3] (fun v3 wc => ∃ (kq : Nat) (x3_2 : Int), v3 = .int .i64 x3_2 ∧ Aside0 (nets_size.j1 kq a0 0 x3_2 = some (r1, r2, r3)) ∧ Aside0 (kq ≤ k) ∧ Drawn0 w wc)
  case first =>
   have H := HC3.out
   clear HC3
   have H' := Aside0.mk H
   clear H
   go_wp2
   go_loopg [3] k (fun kq v3 w' => ∃ (x3_1 : Int), v3 = .int .i64 x3_1 ∧ Aside0 (nets_size.l0 kq a0 0 x3_1 = some (r1, r2, r3)) ∧ Aside0 (kq ≤ k) ∧ Drawn0 w w')
   case atStart => exact ⟨(0), (by first | rfl | (simp; done) | (simp [*]; done) | (simp; exact (by intro l_; cases l_ <;> rfl : ∀ l_ : List UInt8, l_.isEmpty = !(l_ != [])) _)), H', ⟨Nat.le_refl _⟩, drw⟩
   case round =>
    clear H'
    try clear c2
    try clear c2b0
    try clear c2b1
    try clear p2
    obtain ⟨x3_1, rfl, HA, HK1, ⟨m1, rfl⟩⟩ := hrel
    cases gk with
    | zero => exact absurd HA.out (by simp [nets_size.l0])
    | succ k1 =>
     have H := HA.out
     clear HA
     simp only [nets_size.l0] at H
     by_cases c4 : x3_1 < (a0.size : Int)
     ·rw [if_pos c4] at H
      have c4b0 := decide_eq_true c4
      clear c4
      (first | rw [c4b0] | (simp only [i64_w, i32_w]; rw [c4b0]) | skip)
      obtain ⟨c5, H⟩ := iteS H
      have c5b0 := decide_eq_true c5
      clear c5
      replace H := Option.bind_eq_some_iff.mp H
      obtain ⟨t241, A70, H⟩ := H
      try dsimp only at H
      have A7 := Aside0.mk A70
      clear A70
      by_cases c8 : t241 = true
      ·subst c8
       rw [if_pos rfl] at H
       have H' := Aside0.mk H
       clear H
       have p6 : 0 ≤ (x3_1 : Int) := od_
       have q6 : x3_1 < (a0.size : Int) := od_
       have hx6 := bt_at a0 x3_1
       replace p6 := eq_true p6
       replace q6 := eq_true q6
       go_wp2_with (first | (go_at_call 232; (with_reducible refine (nets_digit.calls (bt a0 x3_1) true _ A7.out).mono ?_); rintro e w' ⟨rfl, ⟨nd, rfl⟩⟩))
       go_roundg k1
       case measure => have := HK1.out; omega
       case rel => exact ⟨(wrap64 (x3_1 + 1)), (by first | rfl | (simp; done) | (simp [*]; done) | (simp; exact (by intro l_; cases l_ <;> rfl : ∀ l_ : List UInt8, l_.isEmpty = !(l_ != [])) _)), H', ⟨by have := HK1.out; omega⟩, drw⟩
      ·replace c8 := Bool.eq_false_iff.mpr c8
       subst c8
       rw [if_neg nft] at H
       have H' := Aside0.mk H
       clear H
       have p6 : 0 ≤ (x3_1 : Int) := od_
       have q6 : x3_1 < (a0.size : Int) := od_
       have hx6 := bt_at a0 x3_1
       replace p6 := eq_true p6
       replace q6 := eq_true q6
       go_wp2_with (first | (go_at_call 232; (with_reducible refine (nets_digit.calls (bt a0 x3_1) false _ A7.out).mono ?_); rintro e w' ⟨rfl, ⟨nd, rfl⟩⟩))
       go_meet
       case rel => exact ⟨_, (x3_1), (by first | rfl | (simp; done) | (simp [*]; done) | (simp; exact (by intro l_; cases l_ <;> rfl : ∀ l_ : List UInt8, l_.isEmpty = !(l_ != [])) _)), H', ⟨by have := HK1.out; first | omega | exact Nat.le_refl _⟩, drw⟩
     ·rw [if_neg c4] at H
      have c4b0 := decide_eq_false c4
      clear c4
      (first | rw [c4b0] | (simp only [i64_w, i32_w]; rw [c4b0]) | skip)
      have H' := Aside0.mk H
      clear H
      go_wp2
      go_meet
      case rel => exact ⟨_, (x3_1), (by first | rfl | (simp; done) | (simp [*]; done) | (simp; exact (by intro l_; cases l_ <;> rfl : ∀ l_ : List UInt8, l_.isEmpty = !(l_ != [])) _)), H', ⟨by have := HK1.out; first | omega | exact Nat.le_refl _⟩, drw⟩
  case rest =>
   clear HC3
   try clear c2
   try clear c2b0
   try clear c2b1
   try clear p2
   try clear c4
   try clear c4b0
   try clear c5
   try clear c5b0
   try clear p6
   try clear q6
   try clear hx6
   try clear c8
   try clear p2
   try clear p6
   try clear q6
   obtain ⟨kq, x3_2, rfl, HA, HJ2, ⟨mc2, rfl⟩⟩ := hcut
   cases kq with
   | zero => exact absurd HA.out (by simp [nets_size.j1])
   | succ kj2 =>
    have H := HA.out
    clear HA
    simp only [nets_size.j1] at H
    have HC9 := Aside0.mk H
    clear H
    go_upto_block 2 with (fail)
    go_cut [2, 3] (fun v2 v3 wc => ∃ (kq : Nat) (x2_8 : Int) (x3_8 : Int), v2 = .int .i64 x2_8 ∧ v3 = .int .i64 x3_8 ∧ Aside0 (nets_size.j2 kq a0 x2_8 x3_8 = some (r1, r2, r3)) ∧ Aside0 (kq ≤ kj2) ∧ Drawn0 w wc)
    case first =>
     have H := HC9.out
     clear HC9
     by_cases c10 : x3_2 = 0
     ·rw [if_pos c10] at H
      have c10b0 := beq_iff_eq.mpr c10
      have c10b1 := bne_eq_false_iff_eq.mpr c10
      clear c10
      (first | rw [c10b0] | (simp only [i64_w, i32_w]; rw [c10b0]) | skip)
      simp only [Option.some.injEq, Prod.mk.injEq] at H
      obtain ⟨rfl, rfl, rfl⟩ := H
      go_wp2
      go_ret3
      exact ⟨by first | rfl | (simp; done) | (simp [*]; done) | (simp; exact (by intro l_; cases l_ <;> rfl : ∀ l_ : List UInt8, l_.isEmpty = !(l_ != [])) _), drw⟩
     ·rw [if_neg c10] at H
      have c10b0 := beq_eq_false_iff_ne.mpr c10
      have c10b1 := bne_iff_ne.mpr c10
      (first | rw [c10b0] | (simp only [i64_w, i32_w]; rw [c10b0]) | skip)
      by_cases c11 : x3_2 > 9
      ·rw [if_pos c11] at H
       have c11b0 : decide (9 < x3_2) = true := decide_eq_true c11
       clear c11
       simp only [Option.some.injEq, Prod.mk.injEq] at H
       obtain ⟨rfl, rfl, rfl⟩ := H
       go_wp2
       go_ret3
       exact ⟨by first | rfl | (simp; done) | (simp [*]; done) | (simp; exact (by intro l_; cases l_ <;> rfl : ∀ l_ : List UInt8, l_.isEmpty = !(l_ != [])) _), drw⟩
      ·rw [if_neg c11] at H
       have c11b0 : decide (9 < x3_2) = false := decide_eq_false c11
       clear c11
       by_cases c12 : x3_2 = (a0.size : Int)
       ·rw [if_pos c12] at H
        have c12b0 := beq_iff_eq.mpr c12
        have c12b1 := bne_eq_false_iff_eq.mpr c12
        clear c12
        simp only [Option.some.injEq, Prod.mk.injEq] at H
        obtain ⟨rfl, rfl, rfl⟩ := H
        go_wp2
        go_ret3
        exact ⟨by first | rfl | (simp; done) | (simp [*]; done) | (simp; exact (by intro l_; cases l_ <;> rfl : ∀ l_ : List UInt8, l_.isEmpty = !(l_ != [])) _), drw⟩
       ·rw [if_neg c12] at H
        have c12b0 := beq_eq_false_iff_ne.mpr c12
        have c12b1 := bne_iff_ne.mpr c12
        obtain ⟨c13, H⟩ := iteS H
        have c13b0 := decide_eq_true c13
        clear c13
        obtain ⟨c14, H⟩ := iteS H
        have c14b0 := decide_eq_true c14
        clear c14
        by_cases c16 : (bt a0 x3_2) = 58
        ·rw [if_pos c16] at H
         have c16b0 := beq_iff_eq.mpr c16
         have c16b1 := bne_eq_false_iff_eq.mpr c16
         clear c16
         by_cases c17 : x3_2 > 1
         ·rw [if_pos c17] at H
          have c17b0 : decide (1 < x3_2) = true := decide_eq_true c17
          clear c17
          obtain ⟨c18, H⟩ := iteS H
          have c18b0 := decide_eq_true c18
          have c18b1 : decide (0 < a0.size) = true := decide_eq_true (by omega)
          clear c18
          by_cases c20 : (bt a0 0) = 48
          ·rw [if_pos c20] at H
           have c20b0 := beq_iff_eq.mpr c20
           have c20b1 := bne_eq_false_iff_eq.mpr c20
           clear c20
           simp only [Option.some.injEq, Prod.mk.injEq] at H
           obtain ⟨rfl, rfl, rfl⟩ := H
           have p15 : 0 ≤ (x3_2 : Int) := od_
           have q15 : x3_2 < (a0.size : Int) := od_
           have hx15 := bt_at a0 x3_2
           replace p15 := eq_true p15
           replace q15 := eq_true q15
           have p19 : 0 ≤ (0 : Int) := (by omega)
           have q19 : 0 < a0.size := (by have : (0 : Int) < (a0.size : Int) := od_; omega)
           have hx19 : ∀ h : 0 < a0.size, ((a0[0]'h).toNat : Int) = bt a0 0 := bt_at a0 0
           clear p19
           have qi19 : (0 < (a0.size : Int)) = True := eq_true (od_)
           replace q19 := eq_true q19
           go_wp2
           go_ret3
           exact ⟨by first | rfl | (simp; done) | (simp [*]; done) | (simp; exact (by intro l_; cases l_ <;> rfl : ∀ l_ : List UInt8, l_.isEmpty = !(l_ != [])) _), drw⟩
          ·rw [if_neg c20] at H
           have c20b0 := beq_eq_false_iff_ne.mpr c20
           have c20b1 := bne_iff_ne.mpr c20
           have H' := Aside0.mk H
           clear H
           have p15 : 0 ≤ (x3_2 : Int) := od_
           have q15 : x3_2 < (a0.size : Int) := od_
           have hx15 := bt_at a0 x3_2
           replace p15 := eq_true p15
           replace q15 := eq_true q15
           have p19 : 0 ≤ (0 : Int) := (by omega)
           have q19 : 0 < a0.size := (by have : (0 : Int) < (a0.size : Int) := od_; omega)
           have hx19 : ∀ h : 0 < a0.size, ((a0[0]'h).toNat : Int) = bt a0 0 := bt_at a0 0
           clear p19
           have qi19 : (0 < (a0.size : Int)) = True := eq_true (od_)
           replace q19 := eq_true q19
           go_wp2
           go_meet
           case rel => exact ⟨_, (0), (x3_2), (by first | rfl | (simp; done) | (simp [*]; done) | (simp; exact (by intro l_; cases l_ <;> rfl : ∀ l_ : List UInt8, l_.isEmpty = !(l_ != [])) _)), (by first | rfl | (simp; done) | (simp [*]; done) | (simp; exact (by intro l_; cases l_ <;> rfl : ∀ l_ : List UInt8, l_.isEmpty = !(l_ != [])) _)), H', ⟨by have := HJ2.out; first | omega | exact Nat.le_refl _⟩, drw⟩
         ·rw [if_neg c17] at H
          have c17b0 : decide (1 < x3_2) = false := decide_eq_false c17
          clear c17
          have H' := Aside0.mk H
          clear H
          have p15 : 0 ≤ (x3_2 : Int) := od_
          have q15 : x3_2 < (a0.size : Int) := od_
          have hx15 := bt_at a0 x3_2
          replace p15 := eq_true p15
          replace q15 := eq_true q15
          go_wp2
          go_meet
          case rel => exact ⟨_, (0), (x3_2), (by first | rfl | (simp; done) | (simp [*]; done) | (simp; exact (by intro l_; cases l_ <;> rfl : ∀ l_ : List UInt8, l_.isEmpty = !(l_ != [])) _)), (by first | rfl | (simp; done) | (simp [*]; done) | (simp; exact (by intro l_; cases l_ <;> rfl : ∀ l_ : List UInt8, l_.isEmpty = !(l_ != [])) _)), H', ⟨by have := HJ2.out; first | omega | exact Nat.le_refl _⟩, drw⟩
        ·rw [if_neg c16] at H
         have c16b0 := beq_eq_false_iff_ne.mpr c16
         have c16b1 := bne_iff_ne.mpr c16
         simp only [Option.some.injEq, Prod.mk.injEq] at H
         obtain ⟨rfl, rfl, rfl⟩ := H
         have p15 : 0 ≤ (x3_2 : Int) := od_
         have q15 : x3_2 < (a0.size : Int) := od_
         have hx15 := bt_at a0 x3_2
         replace p15 := eq_true p15
         replace q15 := eq_true q15
         go_wp2
         go_ret3
         exact ⟨by first | rfl | (simp; done) | (simp [*]; done) | (simp; exact (by intro l_; cases l_ <;> rfl : ∀ l_ : List UInt8, l_.isEmpty = !(l_ != [])) _), drw⟩
    case rest =>
     clear HC9
     try clear c1
     try clear p1
     try clear q1
     try clear hx1
     try clear qi1
     try clear c2
     try clear c2b0
     try clear c2b1
     try clear p2
     try clear c4
     try clear c4b0
     try clear c5
     try clear c5b0
     try clear p6
     try clear q6
     try clear hx6
     try clear c8
     try clear c10
     try clear c10b0
     try clear c10b1
     try clear c11
     try clear c11b0
     try clear c12
     try clear c12b0
     try clear c12b1
     try clear c13
     try clear c13b0
     try clear c14
     try clear c14b0
     try clear p15
     try clear q15
     try clear hx15
     try clear c16
     try clear c16b0
     try clear c16b1
     try clear c17
     try clear c17b0
     try clear c18
     try clear c18b0
     try clear c18b1
     try clear p19
     try clear q19
     try clear hx19
     try clear qi19
     try clear c20
     try clear c20b0
     try clear c20b1
     try clear p15
     try clear p19
     try clear p2
     try clear p6
     try clear q15
     try clear q19
     try clear q6
     obtain ⟨kq, x2_8, x3_8, rfl, rfl, HA, HJ8, ⟨mc8, rfl⟩⟩ := hcut
     cases kq with
     | zero => exact absurd HA.out (by simp [nets_size.j2])
     | succ kj8 =>
      have H := HA.out
      clear HA
      simp only [nets_size.j2] at H
      have H' := Aside0.mk H
      clear H
      go_wp2
      go_loopg [2, 46] kj8 (fun kq v2 v46 w' => ∃ (x2_3 : Int) (x46_3 : Int), v2 = .int .i64 x2_3 ∧ v46 = .int .i64 x46_3 ∧ Aside0 (nets_size.l1 kq a0 x2_3 x3_8 x3_8 x46_3 = some (r1, r2, r3)) ∧ Aside0 (kq ≤ kj8) ∧ Drawn0 w w')
      case atStart => exact ⟨(x2_8), (0), (by first | rfl | (simp; done) | (simp [*]; done) | (simp; exact (by intro l_; cases l_ <;> rfl : ∀ l_ : List UInt8, l_.isEmpty = !(l_ != [])) _)), (by first | rfl | (simp; done) | (simp [*]; done) | (simp; exact (by intro l_; cases l_ <;> rfl : ∀ l_ : List UInt8, l_.isEmpty = !(l_ != [])) _)), H', ⟨Nat.le_refl _⟩, drw⟩
      case round =>
       clear H'
       try clear c1
       try clear p1
       try clear q1
       try clear hx1
       try clear qi1
       try clear c2
       try clear c2b0
       try clear c2b1
       try clear p2
       try clear c4
       try clear c4b0
       try clear c5
       try clear c5b0
       try clear p6
       try clear q6
       try clear hx6
       try clear c8
       try clear c10
       try clear c10b0
       try clear c10b1
       try clear c11
       try clear c11b0
       try clear c12
       try clear c12b0
       try clear c12b1
       try clear c13
       try clear c13b0
       try clear c14
       try clear c14b0
       try clear p15
       try clear q15
       try clear hx15
       try clear c16
       try clear c16b0
       try clear c16b1
       try clear c17
       try clear c17b0
       try clear c18
       try clear c18b0
       try clear c18b1
       try clear p19
       try clear q19
       try clear hx19
       try clear qi19
       try clear c20
       try clear c20b0
       try clear c20b1
       try clear p1
       try clear p15
       try clear p19
       try clear p2
       try clear p6
       try clear q1
       try clear q15
       try clear q19
       try clear q6
       obtain ⟨x2_3, x46_3, rfl, rfl, HA, HK3, ⟨m3, rfl⟩⟩ := hrel
       cases gk with
       | zero => exact absurd HA.out (by simp [nets_size.l1])
       | succ k3 =>
        have H := HA.out
        clear HA
        simp only [nets_size.l1] at H
        by_cases c21 : x46_3 < x3_8
        ·rw [if_pos c21] at H
         have c21b0 := decide_eq_true c21
         clear c21
         obtain ⟨c22, H⟩ := iteS H
         have c22b0 := decide_eq_true c22
         clear c22
         obtain ⟨c23, H⟩ := iteS H
         have c23b0 := decide_eq_true c23
         clear c23
         have H' := Aside0.mk H
         clear H
         have p24 : 0 ≤ (x46_3 : Int) := od_
         have q24 : x46_3 < (a0.size : Int) := od_
         have hx24 := bt_at a0 x46_3
         replace p24 := eq_true p24
         replace q24 := eq_true q24
         go_wp2
         go_roundg k3
         case measure => have := HJ2.out; have := HJ8.out; have := HK3.out; omega
         case rel => exact ⟨(wrap64 ((wrap64 (x2_3 * 10)) + (((bt a0 x46_3) - 48) % 256))), (wrap64 (x46_3 + 1)), (by first | rfl | (simp; done) | (simp [*]; done) | (simp; exact (by intro l_; cases l_ <;> rfl : ∀ l_ : List UInt8, l_.isEmpty = !(l_ != [])) _)), (by first | rfl | (simp; done) | (simp [*]; done) | (simp; exact (by intro l_; cases l_ <;> rfl : ∀ l_ : List UInt8, l_.isEmpty = !(l_ != [])) _)), H', ⟨by have := HJ2.out; have := HJ8.out; have := HK3.out; omega⟩, drw⟩
        ·rw [if_neg c21] at H
         have c21b0 := decide_eq_false c21
         clear c21
         simp only [Option.some.injEq, Prod.mk.injEq] at H
         obtain ⟨rfl, rfl, rfl⟩ := H
         go_wp2
         go_ret3
         exact ⟨by first | rfl | (simp; done) | (simp [*]; done) | (simp; exact (by intro l_; cases l_ <;> rfl : ∀ l_ : List UInt8, l_.isEmpty = !(l_ != [])) _), drw⟩
/-! ### nets_Take: function 182 -/
def nets_Take.f (k : Nat) (a0 : ByteArray) : Option (ByteArray × ByteArray × Int) := (nets_size.f k a0).bind fun bt242 => (if bt242.2.2 = 0 then (if 0 ≤ bt242.2.1 then (if bt242.2.1 ≤ (a0.size : Int) then (if bt242.1 ≥ ((a0.extract (bt242.2.1 : Int).toNat a0.size).size : Int) then (some ((⟨#[]⟩ : ByteArray), (⟨#[]⟩ : ByteArray), 9)) else (if 0 ≤ bt242.1 then (if bt242.1 < ((a0.extract (bt242.2.1 : Int).toNat a0.size).size : Int) then (if (bt (a0.extract (bt242.2.1 : Int).toNat a0.size) bt242.1) = 44 then (if bt242.1 ≤ ((a0.extract (bt242.2.1 : Int).toNat a0.size).size : Int) then (if 0 ≤ (wrap64 (bt242.1 + 1)) then (if (wrap64 (bt242.1 + 1)) ≤ ((a0.extract (bt242.2.1 : Int).toNat a0.size).size : Int) then (some ((a0.extract (bt242.2.1 : Int).toNat a0.size).extract 0 (bt242.1 : Int).toNat, (a0.extract (bt242.2.1 : Int).toNat a0.size).extract ((wrap64 (bt242.1 + 1)) : Int).toNat (a0.extract (bt242.2.1 : Int).toNat a0.size).size, 0)) else (none)) else (none)) else (none)) else (some ((⟨#[]⟩ : ByteArray), (⟨#[]⟩ : ByteArray), 3))) else (none)) else (none))) else (none)) else (none)) else (some ((⟨#[]⟩ : ByteArray), (⟨#[]⟩ : ByteArray), bt242.2.2)))
theorem nets_Take.mono : ∀ a0 k, LeO (nets_Take.f k a0) (nets_Take.f (k + 1) a0) := by
  intro a0 k
  unfold nets_Take.f
  repeat' first | (with_reducible first | exact nets_size.mono _ _ | exact LeO.refl _ | exact LeO.none _ | refine LeO.ite ?_ ?_ | refine LeO.bind ?_ (fun _ => ?_)) | exact nets_size.mono _ _ | exact LeO.none _ | refine LeO.ite ?_ ?_ | refine LeO.bind ?_ (fun _ => ?_)
set_option maxHeartbeats 8000000 in
set_option maxRecDepth 100000 in
theorem nets_Take.calls (k : Nat) (a0 : ByteArray) (r1 : ByteArray) (r2 : ByteArray) (r3 : Int) (w : World) (h : nets_Take.f k a0 = some (r1, r2, r3)) :
    Calls Tryz.prog 182 #[.string a0] w fun e w' => e = .returned (.tuple #[.string r1, .string r2, .int .i64 r3]) ∧ Drawn0 w w' := by
 unfold nets_Take.f at h
 have H := h
 clear h
 replace H := Option.bind_eq_some_iff.mp H
 obtain ⟨⟨t242, t243, t244⟩, A20, H⟩ := H
 try dsimp only at H
 have A2 := Aside0.mk A20
 clear A20
 by_cases c3 : t244 = 0
 ·rw [if_pos c3] at H
  have c3b0 := beq_iff_eq.mpr c3
  have c3b1 := bne_eq_false_iff_eq.mpr c3
  clear c3
  obtain ⟨c4, H⟩ := iteS H
  have c4b0 := eq_true c4
  have c4b1 := decide_eq_true c4
  clear c4
  obtain ⟨c5, H⟩ := iteS H
  have c5b0 := eq_true c5
  have c5b1 := decide_eq_true c5
  clear c5
  by_cases c6 : t242 ≥ ((a0.extract (t243 : Int).toNat a0.size).size : Int)
  ·rw [if_pos c6] at H
   have c6b0 : decide (((a0.extract (t243 : Int).toNat a0.size).size : Int) ≤ t242) = true := decide_eq_true c6
   (try (have c6x := c6; simp only [ByteArray.size_extract, Nat.min_self] at c6x; have c6xb0 := eq_true c6x; have c6xb1 := decide_eq_true c6x; (try have c6xb2 := eq_false (Nat.not_lt.2 c6x)); clear c6x))
   clear c6
   simp only [Option.some.injEq, Prod.mk.injEq] at H
   obtain ⟨rfl, rfl, rfl⟩ := H
   go_enter Tryz.func182, Tryz.ntmps182
   go_wp2_with (first | (go_at_call 213; (with_reducible refine (nets_size.calls k a0 t242 t243 t244 _ A2.out).mono ?_); rintro e w' ⟨rfl, ⟨nd, rfl⟩⟩; (try first | exact ⟨rfl, _, World.drewN_drewN _ _ _⟩ | exact ⟨rfl, _, Eq.trans (World.drewN_drewN _ _ _) (congrArg (World.drewN _) (Nat.add_assoc _ _ _))⟩)))
   repeat (go_quiet (first | (go_at_call 213; (with_reducible refine (nets_size.calls k a0 t242 t243 t244 _ A2.out).mono ?_); rintro e w' ⟨rfl, ⟨nd, rfl⟩⟩; (try first | exact ⟨rfl, _, World.drewN_drewN _ _ _⟩ | exact ⟨rfl, _, Eq.trans (World.drewN_drewN _ _ _) (congrArg (World.drewN _) (Nat.add_assoc _ _ _))⟩))); try go_wp2_with (first | (go_at_call 213; (with_reducible refine (nets_size.calls k a0 t242 t243 t244 _ A2.out).mono ?_); rintro e w' ⟨rfl, ⟨nd, rfl⟩⟩; (try first | exact ⟨rfl, _, World.drewN_drewN _ _ _⟩ | exact ⟨rfl, _, Eq.trans (World.drewN_drewN _ _ _) (congrArg (World.drewN _) (Nat.add_assoc _ _ _))⟩))))
   go_ret3
   exact ⟨eqs, drw⟩
  ·rw [if_neg c6] at H
   have c6b0 : decide (((a0.extract (t243 : Int).toNat a0.size).size : Int) ≤ t242) = false := decide_eq_false c6
   (try (have c6x := c6; simp only [ByteArray.size_extract, Nat.min_self] at c6x; have c6xb0 := eq_true c6x; have c6xb1 := decide_eq_true c6x; (try have c6xb2 := eq_false (Nat.not_lt.2 c6x)); clear c6x))
   clear c6
   obtain ⟨c7, H⟩ := iteS H
   have c7b0 := decide_eq_true c7
   clear c7
   obtain ⟨c8, H⟩ := iteS H
   have c8b0 := decide_eq_true c8
   (try (have c8x := c8; simp only [ByteArray.size_extract, Nat.min_self] at c8x; have c8xb0 := eq_true c8x; have c8xb1 := decide_eq_true c8x; (try have c8xb2 := eq_false (Nat.not_lt.2 c8x)); clear c8x))
   clear c8
   have c8y := eq_false (Int.not_le.2 (of_eq_true c8xb0))
   by_cases c10 : (bt (a0.extract (t243 : Int).toNat a0.size) t242) = 44
   ·rw [if_pos c10] at H
    have c10b0 := beq_iff_eq.mpr c10
    (try (have c10x := c10; simp only [ByteArray.size_extract, Nat.min_self] at c10x; have c10xb0 := eq_true c10x; have c10xb1 := decide_eq_true c10x; (try have c10xb2 := eq_false (Nat.not_lt.2 c10x)); clear c10x))
    have c10b1 := bne_eq_false_iff_eq.mpr c10
    (try (have c10x := c10; simp only [ByteArray.size_extract, Nat.min_self] at c10x; have c10xb0 := eq_true c10x; have c10xb1 := decide_eq_true c10x; (try have c10xb2 := eq_false (Nat.not_lt.2 c10x)); clear c10x))
    clear c10
    have c11b0 := eq_true (od_ : 0 ≤ t242)
    obtain ⟨c12, H⟩ := iteS H
    have c12b0 := eq_true c12
    have c12b1 := decide_eq_true c12
    (try (have c12x := c12; simp only [ByteArray.size_extract, Nat.min_self] at c12x; have c12xb0 := eq_true c12x; have c12xb1 := decide_eq_true c12x; (try have c12xb2 := eq_false (Nat.not_lt.2 c12x)); clear c12x))
    clear c12
    obtain ⟨ji13, hji13⟩ : ∃ j_ : Int, (wrap64 (t242 + 1)) = j_ := ⟨_, rfl⟩
    replace H : (if 0 ≤ (ji13) then (if (ji13) ≤ ((a0.extract (t243 : Int).toNat a0.size).size : Int) then (some ((a0.extract (t243 : Int).toNat a0.size).extract 0 (t242 : Int).toNat, (a0.extract (t243 : Int).toNat a0.size).extract ((ji13) : Int).toNat (a0.extract (t243 : Int).toNat a0.size).size, 0)) else (none)) else (none)) = some (r1, r2, r3) := by first | (rw [hji13] at H; exact H) | (simp only [hji13] at H ⊢; exact H)
    (try rw [hji13] at A2)
    have hji13w : (IntKind.i64.wrap (t242 + 1)) = ji13 := (i64_w _).trans hji13
    obtain ⟨c14, H⟩ := iteS H
    have c14b0 := eq_true c14
    have c14b1 := decide_eq_true c14
    clear c14
    obtain ⟨c15, H⟩ := iteS H
    have c15b0 := eq_true c15
    have c15b1 := decide_eq_true c15
    (try (have c15x := c15; simp only [ByteArray.size_extract, Nat.min_self] at c15x; have c15xb0 := eq_true c15x; have c15xb1 := decide_eq_true c15x; (try have c15xb2 := eq_false (Nat.not_lt.2 c15x)); clear c15x))
    clear c15
    simp only [Option.some.injEq, Prod.mk.injEq] at H
    obtain ⟨rfl, rfl, rfl⟩ := H
    go_enter Tryz.func182, Tryz.ntmps182
    go_wp2_with (first | (go_at_call 213; (with_reducible refine (nets_size.calls k a0 t242 t243 t244 _ A2.out).mono ?_); rintro e w' ⟨rfl, ⟨nd, rfl⟩⟩; (try first | exact ⟨rfl, _, World.drewN_drewN _ _ _⟩ | exact ⟨rfl, _, Eq.trans (World.drewN_drewN _ _ _) (congrArg (World.drewN _) (Nat.add_assoc _ _ _))⟩); have p9 : 0 ≤ (t242 : Int) := od_; have q9 : t242 < ((a0.extract (t243 : Int).toNat a0.size).size : Int) := od_; have hx9 := bt_at (a0.extract (t243 : Int).toNat a0.size) t242; replace p9 := eq_true p9; replace q9 := eq_true q9))
    repeat (go_quiet (first | (go_at_call 213; (with_reducible refine (nets_size.calls k a0 t242 t243 t244 _ A2.out).mono ?_); rintro e w' ⟨rfl, ⟨nd, rfl⟩⟩; (try first | exact ⟨rfl, _, World.drewN_drewN _ _ _⟩ | exact ⟨rfl, _, Eq.trans (World.drewN_drewN _ _ _) (congrArg (World.drewN _) (Nat.add_assoc _ _ _))⟩); have p9 : 0 ≤ (t242 : Int) := od_; have q9 : t242 < ((a0.extract (t243 : Int).toNat a0.size).size : Int) := od_; have hx9 := bt_at (a0.extract (t243 : Int).toNat a0.size) t242; replace p9 := eq_true p9; replace q9 := eq_true q9)); try go_wp2_with (first | (go_at_call 213; (with_reducible refine (nets_size.calls k a0 t242 t243 t244 _ A2.out).mono ?_); rintro e w' ⟨rfl, ⟨nd, rfl⟩⟩; (try first | exact ⟨rfl, _, World.drewN_drewN _ _ _⟩ | exact ⟨rfl, _, Eq.trans (World.drewN_drewN _ _ _) (congrArg (World.drewN _) (Nat.add_assoc _ _ _))⟩); have p9 : 0 ≤ (t242 : Int) := od_; have q9 : t242 < ((a0.extract (t243 : Int).toNat a0.size).size : Int) := od_; have hx9 := bt_at (a0.extract (t243 : Int).toNat a0.size) t242; replace p9 := eq_true p9; replace q9 := eq_true q9)))
    go_ret3
    exact ⟨by first | rfl | (simp; done) | (simp only [← hji13] <;> (first | rfl | simp)) | (simp [*]; done), drw⟩
   ·rw [if_neg c10] at H
    have c10b0 := beq_eq_false_iff_ne.mpr c10
    (try (have c10x := c10; simp only [ByteArray.size_extract, Nat.min_self] at c10x; have c10xb0 := eq_true c10x; have c10xb1 := decide_eq_true c10x; (try have c10xb2 := eq_false (Nat.not_lt.2 c10x)); clear c10x))
    have c10b1 := bne_iff_ne.mpr c10
    (try (have c10x := c10; simp only [ByteArray.size_extract, Nat.min_self] at c10x; have c10xb0 := eq_true c10x; have c10xb1 := decide_eq_true c10x; (try have c10xb2 := eq_false (Nat.not_lt.2 c10x)); clear c10x))
    simp only [Option.some.injEq, Prod.mk.injEq] at H
    obtain ⟨rfl, rfl, rfl⟩ := H
    go_enter Tryz.func182, Tryz.ntmps182
    go_wp2_with (first | (go_at_call 213; (with_reducible refine (nets_size.calls k a0 t242 t243 t244 _ A2.out).mono ?_); rintro e w' ⟨rfl, ⟨nd, rfl⟩⟩; (try first | exact ⟨rfl, _, World.drewN_drewN _ _ _⟩ | exact ⟨rfl, _, Eq.trans (World.drewN_drewN _ _ _) (congrArg (World.drewN _) (Nat.add_assoc _ _ _))⟩); have p9 : 0 ≤ (t242 : Int) := od_; have q9 : t242 < ((a0.extract (t243 : Int).toNat a0.size).size : Int) := od_; have hx9 := bt_at (a0.extract (t243 : Int).toNat a0.size) t242; replace p9 := eq_true p9; replace q9 := eq_true q9))
    repeat (go_quiet (first | (go_at_call 213; (with_reducible refine (nets_size.calls k a0 t242 t243 t244 _ A2.out).mono ?_); rintro e w' ⟨rfl, ⟨nd, rfl⟩⟩; (try first | exact ⟨rfl, _, World.drewN_drewN _ _ _⟩ | exact ⟨rfl, _, Eq.trans (World.drewN_drewN _ _ _) (congrArg (World.drewN _) (Nat.add_assoc _ _ _))⟩); have p9 : 0 ≤ (t242 : Int) := od_; have q9 : t242 < ((a0.extract (t243 : Int).toNat a0.size).size : Int) := od_; have hx9 := bt_at (a0.extract (t243 : Int).toNat a0.size) t242; replace p9 := eq_true p9; replace q9 := eq_true q9)); try go_wp2_with (first | (go_at_call 213; (with_reducible refine (nets_size.calls k a0 t242 t243 t244 _ A2.out).mono ?_); rintro e w' ⟨rfl, ⟨nd, rfl⟩⟩; (try first | exact ⟨rfl, _, World.drewN_drewN _ _ _⟩ | exact ⟨rfl, _, Eq.trans (World.drewN_drewN _ _ _) (congrArg (World.drewN _) (Nat.add_assoc _ _ _))⟩); have p9 : 0 ≤ (t242 : Int) := od_; have q9 : t242 < ((a0.extract (t243 : Int).toNat a0.size).size : Int) := od_; have hx9 := bt_at (a0.extract (t243 : Int).toNat a0.size) t242; replace p9 := eq_true p9; replace q9 := eq_true q9)))
    go_ret3
    exact ⟨eqs, drw⟩
 ·rw [if_neg c3] at H
  have c3b0 := beq_eq_false_iff_ne.mpr c3
  have c3b1 := bne_iff_ne.mpr c3
  simp only [Option.some.injEq, Prod.mk.injEq] at H
  obtain ⟨rfl, rfl, rfl⟩ := H
  go_enter Tryz.func182, Tryz.ntmps182
  go_wp2_with (first | (go_at_call 213; (with_reducible refine (nets_size.calls k a0 t242 t243 t244 _ A2.out).mono ?_); rintro e w' ⟨rfl, ⟨nd, rfl⟩⟩; (try first | exact ⟨rfl, _, World.drewN_drewN _ _ _⟩ | exact ⟨rfl, _, Eq.trans (World.drewN_drewN _ _ _) (congrArg (World.drewN _) (Nat.add_assoc _ _ _))⟩)))
  repeat (go_quiet (first | (go_at_call 213; (with_reducible refine (nets_size.calls k a0 t242 t243 t244 _ A2.out).mono ?_); rintro e w' ⟨rfl, ⟨nd, rfl⟩⟩; (try first | exact ⟨rfl, _, World.drewN_drewN _ _ _⟩ | exact ⟨rfl, _, Eq.trans (World.drewN_drewN _ _ _) (congrArg (World.drewN _) (Nat.add_assoc _ _ _))⟩))); try go_wp2_with (first | (go_at_call 213; (with_reducible refine (nets_size.calls k a0 t242 t243 t244 _ A2.out).mono ?_); rintro e w' ⟨rfl, ⟨nd, rfl⟩⟩; (try first | exact ⟨rfl, _, World.drewN_drewN _ _ _⟩ | exact ⟨rfl, _, Eq.trans (World.drewN_drewN _ _ _) (congrArg (World.drewN _) (Nat.add_assoc _ _ _))⟩))))
  go_ret3
  exact ⟨eqs, drw⟩
end Go.Proofs.YtpniccllpfonfaaGreatDoor.Q
