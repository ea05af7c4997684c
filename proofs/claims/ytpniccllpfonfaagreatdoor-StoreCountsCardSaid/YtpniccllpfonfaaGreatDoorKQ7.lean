-- Texts of this session put together by a program of it (wip/pack.py).
import Derived.Test.YtpniccllpfonfaaGreatDoorKQ0
import Derived.Test.YtpniccllpfonfaaGreatDoorKQ6
namespace Go.Proofs.YtpniccllpfonfaaGreatDoor.Q
open Go.RowKit Go.Proofs.YtpniccllpfonfaaGreatDoorW.PrintWords Go.Proofs.YtpniccllpfonfaaGreatDoorW.PrintLast Go.Proofs.YtpniccllpfonfaaGreatDoorW.PrintMore Go.Proofs.YtpniccllpfonfaaGreatDoorW.PrintSq
attribute [local go_sem] max2_int min2_int max_two min_two max_three min_three max_four min_four   -- for this text's walks alone
set_option linter.unusedVariables false
set_option linter.unusedSimpArgs false
/-! ### lex_atomic: function 212 -/
def lex_atomic.f (a0 : Int) : Option (Bool) := if a0 ≥ 97 then (if a0 ≤ 122 then (some true) else (if a0 ≥ 65 then (if a0 ≤ 90 then (some true) else (if a0 ≥ 48 then (if a0 ≤ 57 then (some true) else (if a0 > 127 then (some true) else ((strings_IndexByte.f (⟨#[33, 35, 36, 37, 38, 39, 42, 43, 45, 47, 61, 63, 94, 95, 96, 123, 124, 125, 126]⟩ : ByteArray) a0).bind fun t196 => (some (decide (t196 ≥ 0)))))) else (if a0 > 127 then (some true) else ((strings_IndexByte.f (⟨#[33, 35, 36, 37, 38, 39, 42, 43, 45, 47, 61, 63, 94, 95, 96, 123, 124, 125, 126]⟩ : ByteArray) a0).bind fun t197 => (some (decide (t197 ≥ 0))))))) else (if a0 ≥ 48 then (if a0 ≤ 57 then (some true) else (if a0 > 127 then (some true) else ((strings_IndexByte.f (⟨#[33, 35, 36, 37, 38, 39, 42, 43, 45, 47, 61, 63, 94, 95, 96, 123, 124, 125, 126]⟩ : ByteArray) a0).bind fun t198 => (some (decide (t198 ≥ 0)))))) else (if a0 > 127 then (some true) else ((strings_IndexByte.f (⟨#[33, 35, 36, 37, 38, 39, 42, 43, 45, 47, 61, 63, 94, 95, 96, 123, 124, 125, 126]⟩ : ByteArray) a0).bind fun t199 => (some (decide (t199 ≥ 0)))))))) else (if a0 ≥ 65 then (if a0 ≤ 90 then (some true) else (if a0 ≥ 48 then (if a0 ≤ 57 then (some true) else (if a0 > 127 then (some true) else ((strings_IndexByte.f (⟨#[33, 35, 36, 37, 38, 39, 42, 43, 45, 47, 61, 63, 94, 95, 96, 123, 124, 125, 126]⟩ : ByteArray) a0).bind fun t200 => (some (decide (t200 ≥ 0)))))) else (if a0 > 127 then (some true) else ((strings_IndexByte.f (⟨#[33, 35, 36, 37, 38, 39, 42, 43, 45, 47, 61, 63, 94, 95, 96, 123, 124, 125, 126]⟩ : ByteArray) a0).bind fun t201 => (some (decide (t201 ≥ 0))))))) else (if a0 ≥ 48 then (if a0 ≤ 57 then (some true) else (if a0 > 127 then (some true) else ((strings_IndexByte.f (⟨#[33, 35, 36, 37, 38, 39, 42, 43, 45, 47, 61, 63, 94, 95, 96, 123, 124, 125, 126]⟩ : ByteArray) a0).bind fun t202 => (some (decide (t202 ≥ 0)))))) else (if a0 > 127 then (some true) else ((strings_IndexByte.f (⟨#[33, 35, 36, 37, 38, 39, 42, 43, 45, 47, 61, 63, 94, 95, 96, 123, 124, 125, 126]⟩ : ByteArray) a0).bind fun t203 => (some (decide (t203 ≥ 0)))))))
set_option maxHeartbeats 8000000 in
set_option maxRecDepth 100000 in
theorem lex_atomic.calls (a0 : Int) (r : Bool) (w : World) (h : lex_atomic.f a0 = some r) :
    Calls Tryz.prog 212 #[.int .u8 a0] w fun e w' => e = .returned (.bool r) ∧ Drawn0 w w' := by
 unfold lex_atomic.f at h
 have H := h
 clear h
 by_cases c2 : a0 ≥ 97
 ·rw [if_pos c2] at H
  have c2b0 : decide (97 ≤ a0) = true := decide_eq_true c2
  clear c2
  by_cases c3 : a0 ≤ 122
  ·rw [if_pos c3] at H
   have c3b0 := decide_eq_true c3
   clear c3
   obtain rfl := Option.some.inj H
   go_enter Tryz.func212, Tryz.ntmps212
   go_wp2
   go_ret
   exact ⟨eqs, drw⟩
  ·rw [if_neg c3] at H
   have c3b0 := decide_eq_false c3
   clear c3
   by_cases c4 : a0 ≥ 65
   ·rw [if_pos c4] at H
    have c4b0 : decide (65 ≤ a0) = true := decide_eq_true c4
    clear c4
    by_cases c5 : a0 ≤ 90
    ·rw [if_pos c5] at H
     have c5b0 := decide_eq_true c5
     clear c5
     obtain rfl := Option.some.inj H
     go_enter Tryz.func212, Tryz.ntmps212
     go_wp2
     go_ret
     exact ⟨eqs, drw⟩
    ·rw [if_neg c5] at H
     have c5b0 := decide_eq_false c5
     clear c5
     by_cases c6 : a0 ≥ 48
     ·rw [if_pos c6] at H
      have c6b0 : decide (48 ≤ a0) = true := decide_eq_true c6
      clear c6
      by_cases c7 : a0 ≤ 57
      ·rw [if_pos c7] at H
       have c7b0 := decide_eq_true c7
       clear c7
       obtain rfl := Option.some.inj H
       go_enter Tryz.func212, Tryz.ntmps212
       go_wp2
       go_ret
       exact ⟨eqs, drw⟩
      ·rw [if_neg c7] at H
       have c7b0 := decide_eq_false c7
       clear c7
       by_cases c8 : a0 > 127
       ·rw [if_pos c8] at H
        have c8b0 : decide (127 < a0) = true := decide_eq_true c8
        clear c8
        obtain rfl := Option.some.inj H
        go_enter Tryz.func212, Tryz.ntmps212
        go_wp2
        go_ret
        exact ⟨eqs, drw⟩
       ·rw [if_neg c8] at H
        have c8b0 : decide (127 < a0) = false := decide_eq_false c8
        clear c8
        replace H := Option.bind_eq_some_iff.mp H
        obtain ⟨t196, A90, H⟩ := H
        try dsimp only at H
        have A9 := Aside0.mk A90
        clear A90
        obtain rfl := Option.some.inj H
        go_enter Tryz.func212, Tryz.ntmps212
        go_wp2_with (first | ((with_reducible refine gc 159 rfl ?_); refine cl_ (some 31) Tryz.func159 (strings_IndexByte.calls (⟨#[33, 35, 36, 37, 38, 39, 42, 43, 45, 47, 61, 63, 94, 95, 96, 123, 124, 125, 126]⟩ : ByteArray) a0 t196 _ A9.out) ?_; rintro w' ⟨nd, rfl⟩))
        go_ret
        exact ⟨eqs, drw⟩
     ·rw [if_neg c6] at H
      have c6b0 : decide (48 ≤ a0) = false := decide_eq_false c6
      clear c6
      by_cases c10 : a0 > 127
      ·rw [if_pos c10] at H
       have c10b0 : decide (127 < a0) = true := decide_eq_true c10
       clear c10
       obtain rfl := Option.some.inj H
       go_enter Tryz.func212, Tryz.ntmps212
       go_wp2
       go_ret
       exact ⟨eqs, drw⟩
      ·rw [if_neg c10] at H
       have c10b0 : decide (127 < a0) = false := decide_eq_false c10
       clear c10
       replace H := Option.bind_eq_some_iff.mp H
       obtain ⟨t197, A110, H⟩ := H
       try dsimp only at H
       have A11 := Aside0.mk A110
       clear A110
       obtain rfl := Option.some.inj H
       go_enter Tryz.func212, Tryz.ntmps212
       go_wp2_with (first | ((with_reducible refine gc 159 rfl ?_); refine cl_ (some 31) Tryz.func159 (strings_IndexByte.calls (⟨#[33, 35, 36, 37, 38, 39, 42, 43, 45, 47, 61, 63, 94, 95, 96, 123, 124, 125, 126]⟩ : ByteArray) a0 t197 _ A11.out) ?_; rintro w' ⟨nd, rfl⟩))
       go_ret
       exact ⟨eqs, drw⟩
   ·rw [if_neg c4] at H
    have c4b0 : decide (65 ≤ a0) = false := decide_eq_false c4
    clear c4
    by_cases c12 : a0 ≥ 48
    ·rw [if_pos c12] at H
     have c12b0 : decide (48 ≤ a0) = true := decide_eq_true c12
     clear c12
     by_cases c13 : a0 ≤ 57
     ·rw [if_pos c13] at H
      have c13b0 := decide_eq_true c13
      clear c13
      obtain rfl := Option.some.inj H
      go_enter Tryz.func212, Tryz.ntmps212
      go_wp2
      go_ret
      exact ⟨eqs, drw⟩
     ·rw [if_neg c13] at H
      have c13b0 := decide_eq_false c13
      clear c13
      by_cases c14 : a0 > 127
      ·rw [if_pos c14] at H
       have c14b0 : decide (127 < a0) = true := decide_eq_true c14
       clear c14
       obtain rfl := Option.some.inj H
       go_enter Tryz.func212, Tryz.ntmps212
       go_wp2
       go_ret
       exact ⟨eqs, drw⟩
      ·rw [if_neg c14] at H
       have c14b0 : decide (127 < a0) = false := decide_eq_false c14
       clear c14
       replace H := Option.bind_eq_some_iff.mp H
       obtain ⟨t198, A150, H⟩ := H
       try dsimp only at H
       have A15 := Aside0.mk A150
       clear A150
       obtain rfl := Option.some.inj H
       go_enter Tryz.func212, Tryz.ntmps212
       go_wp2_with (first | ((with_reducible refine gc 159 rfl ?_); refine cl_ (some 31) Tryz.func159 (strings_IndexByte.calls (⟨#[33, 35, 36, 37, 38, 39, 42, 43, 45, 47, 61, 63, 94, 95, 96, 123, 124, 125, 126]⟩ : ByteArray) a0 t198 _ A15.out) ?_; rintro w' ⟨nd, rfl⟩))
       go_ret
       exact ⟨eqs, drw⟩
    ·rw [if_neg c12] at H
     have c12b0 : decide (48 ≤ a0) = false := decide_eq_false c12
     clear c12
     by_cases c16 : a0 > 127
     ·rw [if_pos c16] at H
      have c16b0 : decide (127 < a0) = true := decide_eq_true c16
      clear c16
      obtain rfl := Option.some.inj H
      go_enter Tryz.func212, Tryz.ntmps212
      go_wp2
      go_ret
      exact ⟨eqs, drw⟩
     ·rw [if_neg c16] at H
      have c16b0 : decide (127 < a0) = false := decide_eq_false c16
      clear c16
      replace H := Option.bind_eq_some_iff.mp H
      obtain ⟨t199, A170, H⟩ := H
      try dsimp only at H
      have A17 := Aside0.mk A170
      clear A170
      obtain rfl := Option.some.inj H
      go_enter Tryz.func212, Tryz.ntmps212
      go_wp2_with (first | ((with_reducible refine gc 159 rfl ?_); refine cl_ (some 31) Tryz.func159 (strings_IndexByte.calls (⟨#[33, 35, 36, 37, 38, 39, 42, 43, 45, 47, 61, 63, 94, 95, 96, 123, 124, 125, 126]⟩ : ByteArray) a0 t199 _ A17.out) ?_; rintro w' ⟨nd, rfl⟩))
      go_ret
      exact ⟨eqs, drw⟩
 ·rw [if_neg c2] at H
  have c2b0 : decide (97 ≤ a0) = false := decide_eq_false c2
  clear c2
  by_cases c18 : a0 ≥ 65
  ·rw [if_pos c18] at H
   have c18b0 : decide (65 ≤ a0) = true := decide_eq_true c18
   clear c18
   by_cases c19 : a0 ≤ 90
   ·rw [if_pos c19] at H
    have c19b0 := decide_eq_true c19
    clear c19
    obtain rfl := Option.some.inj H
    go_enter Tryz.func212, Tryz.ntmps212
    go_wp2
    go_ret
    exact ⟨eqs, drw⟩
   ·rw [if_neg c19] at H
    have c19b0 := decide_eq_false c19
    clear c19
    by_cases c20 : a0 ≥ 48
    ·rw [if_pos c20] at H
     have c20b0 : decide (48 ≤ a0) = true := decide_eq_true c20
     clear c20
     by_cases c21 : a0 ≤ 57
     ·rw [if_pos c21] at H
      have c21b0 := decide_eq_true c21
      clear c21
      obtain rfl := Option.some.inj H
      go_enter Tryz.func212, Tryz.ntmps212
      go_wp2
      go_ret
      exact ⟨eqs, drw⟩
     ·rw [if_neg c21] at H
      have c21b0 := decide_eq_false c21
      clear c21
      by_cases c22 : a0 > 127
      ·rw [if_pos c22] at H
       have c22b0 : decide (127 < a0) = true := decide_eq_true c22
       clear c22
       obtain rfl := Option.some.inj H
       go_enter Tryz.func212, Tryz.ntmps212
       go_wp2
       go_ret
       exact ⟨eqs, drw⟩
      ·rw [if_neg c22] at H
       have c22b0 : decide (127 < a0) = false := decide_eq_false c22
       clear c22
       replace H := Option.bind_eq_some_iff.mp H
       obtain ⟨t200, A230, H⟩ := H
       try dsimp only at H
       have A23 := Aside0.mk A230
       clear A230
       obtain rfl := Option.some.inj H
       go_enter Tryz.func212, Tryz.ntmps212
       go_wp2_with (first | ((with_reducible refine gc 159 rfl ?_); refine cl_ (some 31) Tryz.func159 (strings_IndexByte.calls (⟨#[33, 35, 36, 37, 38, 39, 42, 43, 45, 47, 61, 63, 94, 95, 96, 123, 124, 125, 126]⟩ : ByteArray) a0 t200 _ A23.out) ?_; rintro w' ⟨nd, rfl⟩))
       go_ret
       exact ⟨eqs, drw⟩
    ·rw [if_neg c20] at H
     have c20b0 : decide (48 ≤ a0) = false := decide_eq_false c20
     clear c20
     by_cases c24 : a0 > 127
     ·rw [if_pos c24] at H
      have c24b0 : decide (127 < a0) = true := decide_eq_true c24
      clear c24
      obtain rfl := Option.some.inj H
      go_enter Tryz.func212, Tryz.ntmps212
      go_wp2
      go_ret
      exact ⟨eqs, drw⟩
     ·rw [if_neg c24] at H
      have c24b0 : decide (127 < a0) = false := decide_eq_false c24
      clear c24
      replace H := Option.bind_eq_some_iff.mp H
      obtain ⟨t201, A250, H⟩ := H
      try dsimp only at H
      have A25 := Aside0.mk A250
      clear A250
      obtain rfl := Option.some.inj H
      go_enter Tryz.func212, Tryz.ntmps212
      go_wp2_with (first | ((with_reducible refine gc 159 rfl ?_); refine cl_ (some 31) Tryz.func159 (strings_IndexByte.calls (⟨#[33, 35, 36, 37, 38, 39, 42, 43, 45, 47, 61, 63, 94, 95, 96, 123, 124, 125, 126]⟩ : ByteArray) a0 t201 _ A25.out) ?_; rintro w' ⟨nd, rfl⟩))
      go_ret
      exact ⟨eqs, drw⟩
  ·rw [if_neg c18] at H
   have c18b0 : decide (65 ≤ a0) = false := decide_eq_false c18
   clear c18
   by_cases c26 : a0 ≥ 48
   ·rw [if_pos c26] at H
    have c26b0 : decide (48 ≤ a0) = true := decide_eq_true c26
    clear c26
    by_cases c27 : a0 ≤ 57
    ·rw [if_pos c27] at H
     have c27b0 := decide_eq_true c27
     clear c27
     obtain rfl := Option.some.inj H
     go_enter Tryz.func212, Tryz.ntmps212
     go_wp2
     go_ret
     exact ⟨eqs, drw⟩
    ·rw [if_neg c27] at H
     have c27b0 := decide_eq_false c27
     clear c27
     by_cases c28 : a0 > 127
     ·rw [if_pos c28] at H
      have c28b0 : decide (127 < a0) = true := decide_eq_true c28
      clear c28
      obtain rfl := Option.some.inj H
      go_enter Tryz.func212, Tryz.ntmps212
      go_wp2
      go_ret
      exact ⟨eqs, drw⟩
     ·rw [if_neg c28] at H
      have c28b0 : decide (127 < a0) = false := decide_eq_false c28
      clear c28
      replace H := Option.bind_eq_some_iff.mp H
      obtain ⟨t202, A290, H⟩ := H
      try dsimp only at H
      have A29 := Aside0.mk A290
      clear A290
      obtain rfl := Option.some.inj H
      go_enter Tryz.func212, Tryz.ntmps212
      go_wp2_with (first | ((with_reducible refine gc 159 rfl ?_); refine cl_ (some 31) Tryz.func159 (strings_IndexByte.calls (⟨#[33, 35, 36, 37, 38, 39, 42, 43, 45, 47, 61, 63, 94, 95, 96, 123, 124, 125, 126]⟩ : ByteArray) a0 t202 _ A29.out) ?_; rintro w' ⟨nd, rfl⟩))
      go_ret
      exact ⟨eqs, drw⟩
   ·rw [if_neg c26] at H
    have c26b0 : decide (48 ≤ a0) = false := decide_eq_false c26
    clear c26
    by_cases c30 : a0 > 127
    ·rw [if_pos c30] at H
     have c30b0 : decide (127 < a0) = true := decide_eq_true c30
     clear c30
     obtain rfl := Option.some.inj H
     go_enter Tryz.func212, Tryz.ntmps212
     go_wp2
     go_ret
     exact ⟨eqs, drw⟩
    ·rw [if_neg c30] at H
     have c30b0 : decide (127 < a0) = false := decide_eq_false c30
     clear c30
     replace H := Option.bind_eq_some_iff.mp H
     obtain ⟨t203, A310, H⟩ := H
     try dsimp only at H
     have A31 := Aside0.mk A310
     clear A310
     obtain rfl := Option.some.inj H
     go_enter Tryz.func212, Tryz.ntmps212
     go_wp2_with (first | ((with_reducible refine gc 159 rfl ?_); refine cl_ (some 31) Tryz.func159 (strings_IndexByte.calls (⟨#[33, 35, 36, 37, 38, 39, 42, 43, 45, 47, 61, 63, 94, 95, 96, 123, 124, 125, 126]⟩ : ByteArray) a0 t203 _ A31.out) ?_; rintro w' ⟨nd, rfl⟩))
     go_ret
     exact ⟨eqs, drw⟩
/-! ### lex_IsAtom: function 180 -/
def lex_IsAtom.l0 : Nat → ByteArray → Int → Int → Option (Bool)
  | 0, _, _, _ => none
  | k + 1, x0, x5, x6 => if x6 < x5 then (if 0 ≤ x6 then (if x6 < (x0.size : Int) then ((lex_atomic.f (bt x0 x6)).bind fun t204 => (if t204 = true then (lex_IsAtom.l0 k x0 x5 (wrap64 (x6 + 1))) else (some false))) else (none)) else (none)) else (some (x0.toList != ([] : List UInt8)))
def lex_IsAtom.f (k : Nat) (a0 : ByteArray) : Option (Bool) := lex_IsAtom.l0 k a0 (a0.size : Int) 0
theorem lex_IsAtom.mono_l : ∀ k, (∀ y0 y1 y2, LeO (lex_IsAtom.l0 k y0 y1 y2) (lex_IsAtom.l0 (k + 1) y0 y1 y2))
  | 0 => fun _ _ _ r h => by simp [lex_IsAtom.l0] at h
  | k + 1 => by
    have ih0 := lex_IsAtom.mono_l k
    · intro y0 y1 y2
      unfold lex_IsAtom.l0
      repeat' first | (with_reducible first | exact ih0 _ _ _ | exact LeO.refl _ | exact LeO.none _ | refine LeO.ite ?_ ?_ | refine LeO.bind ?_ (fun _ => ?_)) | exact ih0 _ _ _ | exact LeO.none _ | refine LeO.ite ?_ ?_ | refine LeO.bind ?_ (fun _ => ?_)
theorem lex_IsAtom.mono : ∀ a0 k, LeO (lex_IsAtom.f k a0) (lex_IsAtom.f (k + 1) a0) := by
  intro a0 k
  have ih0 := lex_IsAtom.mono_l k
  unfold lex_IsAtom.f
  repeat' first | (with_reducible first | exact ih0 _ _ _ | exact LeO.refl _ | exact LeO.none _ | refine LeO.ite ?_ ?_ | refine LeO.bind ?_ (fun _ => ?_)) | exact ih0 _ _ _ | exact LeO.none _ | refine LeO.ite ?_ ?_ | refine LeO.bind ?_ (fun _ => ?_)
set_option maxHeartbeats 8000000 in
set_option maxRecDepth 100000 in
theorem lex_IsAtom.calls (k : Nat) (a0 : ByteArray) (r : Bool) (w : World) (h : lex_IsAtom.f k a0 = some r) :
    Calls Tryz.prog 180 #[.string a0] w fun e w' => e = .returned (.bool r) ∧ Drawn0 w w' := by
 unfold lex_IsAtom.f at h
 have H := h
 clear h
 have H' := Aside0.mk H
 clear H
 go_enter Tryz.func180, Tryz.ntmps180
 go_wp2
 go_loopg [6] k (fun kq v6 w' => ∃ (x6_1 : Int), v6 = .int .i64 x6_1 ∧ Aside0 (lex_IsAtom.l0 kq a0 (a0.size : Int) x6_1 = some r) ∧ Aside0 (kq ≤ k) ∧ Drawn0 w w')
 case atStart => exact ⟨(0), (by first | rfl | (simp; done) | (simp [*]; done) | (simp; exact (by intro l_; cases l_ <;> rfl : ∀ l_ : List UInt8, l_.isEmpty = !(l_ != [])) _)), H', ⟨Nat.le_refl _⟩, drw⟩
 case round =>
  clear H'
  try clear c1
  obtain ⟨x6_1, rfl, HA, HK1, ⟨m1, rfl⟩⟩ := hrel
  cases gk with
  | zero => exact absurd HA.out (by simp [lex_IsAtom.l0])
  | succ k1 =>
   have H := HA.out
   clear HA
   simp only [lex_IsAtom.l0] at H
   by_cases c2 : x6_1 < (a0.size : Int)
   ·rw [if_pos c2] at H
    have c2b0 := decide_eq_true c2
    clear c2
    obtain ⟨c3, H⟩ := iteS H
    have c3b0 := decide_eq_true c3
    clear c3
    obtain ⟨c4, H⟩ := iteS H
    have c4b0 := decide_eq_true c4
    clear c4
    replace H := Option.bind_eq_some_iff.mp H
    obtain ⟨t204, A60, H⟩ := H
    try dsimp only at H
    have A6 := Aside0.mk A60
    clear A60
    by_cases c7 : t204 = true
    ·subst c7
     rw [if_pos rfl] at H
     have H' := Aside0.mk H
     clear H
     have p5 : 0 ≤ (x6_1 : Int) := od_
     have q5 : x6_1 < (a0.size : Int) := od_
     have hx5 := bt_at a0 x6_1
     replace p5 := eq_true p5
     replace q5 := eq_true q5
     go_wp2_with (first | ((with_reducible refine gc 212 rfl ?_); refine cl_ (some 12) Tryz.func212 (lex_atomic.calls (bt a0 x6_1) true _ A6.out) ?_; rintro w' ⟨nd, rfl⟩))
     go_roundg k1
     case measure => have := HK1.out; omega
     case rel => exact ⟨(wrap64 (x6_1 + 1)), (by first | rfl | (simp; done) | (simp [*]; done) | (simp; exact (by intro l_; cases l_ <;> rfl : ∀ l_ : List UInt8, l_.isEmpty = !(l_ != [])) _)), H', ⟨by have := HK1.out; omega⟩, drw⟩
    ·replace c7 := Bool.eq_false_iff.mpr c7
     subst c7
     rw [if_neg nft] at H
     obtain rfl := Option.some.inj H
     have p5 : 0 ≤ (x6_1 : Int) := od_
     have q5 : x6_1 < (a0.size : Int) := od_
     have hx5 := bt_at a0 x6_1
     replace p5 := eq_true p5
     replace q5 := eq_true q5
     go_wp2_with (first | ((with_reducible refine gc 212 rfl ?_); refine cl_ (some 12) Tryz.func212 (lex_atomic.calls (bt a0 x6_1) false _ A6.out) ?_; rintro w' ⟨nd, rfl⟩))
     go_ret
     exact ⟨by first | rfl | (simp; done) | (simp [*]; done) | (simp; exact (by intro l_; cases l_ <;> rfl : ∀ l_ : List UInt8, l_.isEmpty = !(l_ != [])) _), drw⟩
   ·rw [if_neg c2] at H
    have c2b0 := decide_eq_false c2
    clear c2
    obtain rfl := Option.some.inj H
    go_wp2
    go_ret
    exact ⟨by first | rfl | (simp; done) | (simp [*]; done) | (simp; exact (by intro l_; cases l_ <;> rfl : ∀ l_ : List UInt8, l_.isEmpty = !(l_ != [])) _), drw⟩
/-! ### addr_Dotted: function 139 -/
def addr_Dotted.f (k : Nat) (a0 : ByteArray) : Option (Bool) := if a0.size ≤ 140737488355327 then (Sp.allP (lex_IsAtom.f k) (Sp.parts 46 a0)) else none
theorem addr_Dotted.mono : ∀ a0 k, LeO (addr_Dotted.f k a0) (addr_Dotted.f (k + 1) a0) := by
  intro a0 k
  unfold addr_Dotted.f
  exact LeO.ite (Sp.allP_mono _ _ (fun x => lex_IsAtom.mono x k) _) (LeO.none _)
section
open Go Go.Shelf Go.Proofs.YtpniccllpfonfaaGreatDoorW.SeqC Sp
attribute [local go_sem] Oper.semAt_some
set_option maxHeartbeats 2000000 in
theorem addr_Dotted.calls (k : Nat) (a0 : ByteArray) (r : Bool) (w : World) (h : addr_Dotted.f k a0 = some r) :
    Calls Tryz.prog 139 #[.string a0] w fun e w' => e = .returned (.bool r) ∧ Below w.heap.size w w' := by
 unfold addr_Dotted.f at h
 obtain ⟨hsz, h⟩ : a0.size ≤ 140737488355327 ∧ Sp.allP (lex_IsAtom.f k) (Sp.parts 46 a0) = some r := by
  by_cases h0 : a0.size ≤ 140737488355327
  ·rw [if_pos h0] at h; exact ⟨h0, h⟩
  ·rw [if_neg h0] at h; cases h
 have hA := fun x r w hx => lex_IsAtom.calls k x r w hx
 refine (callsIn_wide (n := 3)).1 ?_
 refine callsIn_of_wp_marks Tryz.func139 rfl trivial ?_ rfl
 simp only [Tryz.ntmps139, List.size_toArray, List.length_cons, List.length_nil, Nat.reduceAdd, Nat.reduceSub, Array.replicate_succ, Array.replicate_zero, List.push_toArray, List.append_toArray, List.nil_append, List.cons_append]
 gi_wp2_with (refine ⟨trivial, (callsIn_wide.2 (splitSeq_in 3 a0 ⟨#[46]⟩ _)).mono ?_⟩; rintro e w' ⟨rfl, rfl⟩)
 have c0 := World.alloc_heap_new w (.cells #[.bool false] 4)
 obtain ⟨t0, t1, t2⟩ := three (w.alloc (.cells #[.bool false] 4)) (.cells #[.string a0] 9) (.cells #[.string ⟨#[46]⟩] 9) (.cells #[.int .i64 0] 3)
 simp only [World.size_alloc] at t0 t1 t2
 have hB0 : Below w.heap.size w ((((w.alloc (.cells #[.bool false] 4)).alloc (.cells #[.string a0] 9)).alloc (.cells #[.string ⟨#[46]⟩] 9)).alloc (.cells #[.int .i64 0] 3)) :=
  ((((Below.refl _ w).alloc (Nat.le_refl _) _).alloc (by simp) _).alloc (by simp; omega) _).alloc (by simp; omega) _
 refine wpIn_range_cell rfl (by decide) (gf := 229) (lb := #[.pointer (some ⟨w.heap.size + 1 + 1, 0, none⟩), .pointer (some ⟨w.heap.size + 1, 0, none⟩), .pointer (some ⟨w.heap.size + 1 + 2, 0, none⟩)]) rfl trivial (enters_of Tryz.func229 (by kernel_rfl) rfl)
  (splitIt 2 a0 hsz 46 (w.heap.size + 1) _ (by simp) t0 t1 t2) (by simp) ((blk_cell t0 0).trans rfl) kp3_t (kp3_b (by simp)) (fun _ => rfl)
  (fun pre W => (∀ y ∈ pre, lex_IsAtom.f k y = some true) ∧ W.heap[w.heap.size]? = some (.cells #[.bool false] 4 (0, 0)) ∧ Below w.heap.size w W)
  (fun c pre W => c = .ret ∧ r = false ∧ W.heap[w.heap.size]? = some (.cells #[.bool false] 4 (0, 0)) ∧ Below w.heap.size w W)
  (fun s A B row hs hg hr => ⟨hs.1, blk_own hs.2.1 hg hr, ownFrom_below (Nat.le_refl _) (by simp; omega) s A B row hs.2.2 hg hr⟩)
  (fun c s A B row hs hg hr => ⟨hs.1, hs.2.1, blk_own hs.2.2.1 hg hr, ownFrom_below (Nat.le_refl _) (by simp; omega) s A B row hs.2.2.2 hg hr⟩)
  (fun s W v hs => ⟨hs.1, (Below.heap_setCell W _ v _ (by simp)).trans hs.2.1, hs.2.2.setCell (by simp) _⟩)
  ⟨by simp, (Below.heap_alloc _ _ _ (by simp; omega)).trans ((Below.heap_alloc _ _ _ (by simp; omega)).trans ((Below.heap_alloc _ _ _ (by simp)).trans c0)), hB0⟩
  (fun x => { tmps := #[.string a0, undef, .pointer (some ⟨w.heap.size, 0, none⟩), .string x, .string a0, .func (.func 229) #[] #[.pointer (some ⟨w.heap.size + 1 + 1, 0, none⟩), .pointer (some ⟨w.heap.size + 1, 0, none⟩), .pointer (some ⟨w.heap.size + 1 + 2, 0, none⟩)], .string x, undef, undef, undef], defers := [] }) ?assign ?body ?done ?stop
 case assign =>
  intro l x W K hK
  gi_wp2
  exact hK
 case body =>
  rintro l pre x W ⟨hp, hcr, hB⟩ ⟨ys, hys⟩
  rw [← hys, List.append_assoc] at h
  obtain ⟨bx, hbx, hrx⟩ := allP_pre pre x ys r hp h
  have hcc : W.cell? ⟨w.heap.size, 0, none⟩ = some (.bool false) := (blk_cell hcr 0).trans rfl
  have hff : W.frozen? ⟨w.heap.size, 0, none⟩ = false := blk_frozen hcr 0
  cases bx with
  | false =>
   obtain rfl : r = false := hrx rfl
   gi_wp2_with (refine ⟨trivial, (CallsIn.inRound l (callsIn_wide.2 (hA x false _ hbx))).mono ?_⟩; rintro e w' ⟨rfl, ⟨nd, rfl⟩⟩)
   exact ⟨(ko_drewN W nd).trans (KeepsOthers.setCell _ _ _), rfl, one_setCell (w := W.drewN nd) (u := .bool false) hcr, Below.setCell (pw_below_drewN hB nd) (p := ⟨w.heap.size, 0, none⟩) (by simp) _⟩
  | true =>
   gi_wp2_with (refine ⟨trivial, (CallsIn.inRound l (callsIn_wide.2 (hA x true _ hbx))).mono ?_⟩; rintro e w' ⟨rfl, ⟨nd, rfl⟩⟩)
   exact ⟨ko_drewN W nd, kp3_drewN _ _ _, fun y hy => (List.mem_append.1 hy).elim (hp y) (fun e => by simp at e; subst e; exact hbx), hcr, pw_below_drewN hB nd⟩
 case done =>
  rintro D ys W hD rfl ⟨hp, hcr, hB⟩ hK
  obtain rfl : true = r := Option.some.inj ((allP_all _ hp).symm.trans h)
  have hcc : W.cell? ⟨w.heap.size, 0, none⟩ = some (.bool false) := (blk_cell hcr 0).trans rfl
  have hff : W.frozen? ⟨w.heap.size, 0, none⟩ = false := blk_frozen hcr 0
  gi_wp2
  have hK' := (KeepsOthers.setCell W ⟨w.heap.size, 0, none⟩ (.bool true)).same D _ hK rfl
  refine ⟨by simp, .inl ⟨_, _, rfl, run_takeDeferred hK', ?_⟩⟩
  have hc5 := cell_kept ((blk_cell (one_setCell (u := .bool true) hcr) 0).trans rfl) (grownBy_putObj' _ D (.deferred none)) (fun r e => by cases e; exact ⟨_, hK', rfl⟩)
  refine ⟨.bool true, ?_, rfl, (hB.setCell (p := ⟨w.heap.size, 0, none⟩) (by simp) _).trans (belowK_b (w := w) (Nat.le_refl _) _ D _ _ (by simp at hD; omega) hK' rfl rfl)⟩
  simp [results, Tryz.f139, go_sem, hc5]
 case stop =>
  rintro D c pre W hD hpre ⟨rfl, rfl, hcr, hB⟩ hK
  gi_wp2
  refine ⟨by simp, .inl ⟨_, _, rfl, run_takeDeferred hK, ?_⟩⟩
  have hc5 := cell_kept ((blk_cell hcr 0).trans rfl) (grownBy_putObj' _ D (.deferred none)) (fun r e => by cases e; exact ⟨_, hK, rfl⟩)
  refine ⟨.bool false, ?_, rfl, hB.trans (belowK_b (w := w) (Nat.le_refl _) W D _ _ (by simp at hD; omega) hK rfl rfl)⟩
  simp [results, Tryz.f139, go_sem, hc5]
end
/-! ### lex_text: function 181 -/
def lex_text.f (a0 : Int) : Option (Bool) := if a0 = 9 then (some true) else (if a0 ≥ 32 then (some (a0 != 127)) else (some false))
set_option maxHeartbeats 8000000 in
set_option maxRecDepth 100000 in
theorem lex_text.calls (a0 : Int) (r : Bool) (w : World) (h : lex_text.f a0 = some r) :
    Calls Tryz.prog 181 #[.int .u8 a0] w fun e w' => e = .returned (.bool r) ∧ Drawn0 w w' := by
 unfold lex_text.f at h
 have H := h
 clear h
 by_cases c2 : a0 = 9
 ·rw [if_pos c2] at H
  have c2b0 := beq_iff_eq.mpr c2
  have c2b1 := bne_eq_false_iff_eq.mpr c2
  clear c2
  obtain rfl := Option.some.inj H
  go_enter Tryz.func181, Tryz.ntmps181
  go_wp2
  go_ret
  exact ⟨eqs, drw⟩
 ·rw [if_neg c2] at H
  have c2b0 := beq_eq_false_iff_ne.mpr c2
  have c2b1 := bne_iff_ne.mpr c2
  by_cases c3 : a0 ≥ 32
  ·rw [if_pos c3] at H
   have c3b0 : decide (32 ≤ a0) = true := decide_eq_true c3
   clear c3
   obtain rfl := Option.some.inj H
   go_enter Tryz.func181, Tryz.ntmps181
   go_wp2
   go_ret
   exact ⟨eqs, drw⟩
  ·rw [if_neg c3] at H
   have c3b0 : decide (32 ≤ a0) = false := decide_eq_false c3
   clear c3
   obtain rfl := Option.some.inj H
   go_enter Tryz.func181, Tryz.ntmps181
   go_wp2
   go_ret
   exact ⟨eqs, drw⟩
/-! ### lex_Quote: function 140 -/
mutual
def lex_Quote.l0 : Nat → ByteArray → List Int → Int → Int → Option (ByteArray)
  | 0, _, _, _, _ => none
  | k + 1, x0, x3, x8, x9 => if x9 < x8 then (if 0 ≤ x9 then (if x9 < (x0.size : Int) then (if (bt x0 x9) = 34 then (lex_Quote.j1 k x0 x3 (bt x0 x9) x8 x9 true) else (lex_Quote.j1 k x0 x3 (bt x0 x9) x8 x9 ((bt x0 x9) == 92))) else (none)) else (none)) else (if x3.length < 140737488355328 then (some (strOfNums (x3 ++ [34]))) else (none))
def lex_Quote.j1 : Nat → ByteArray → List Int → Int → Int → Int → Bool → Option (ByteArray)
  | 0, _, _, _, _, _, _ => none
  | k + 1, x0, x3, x5, x8, x9, x15 => if x15 = true then (if x3.length < 140737488355328 then ((some (x3 ++ [92] : List Int)).bind fun y211 => (if y211.length < 140737488355328 then (lex_Quote.l0 k x0 (y211 ++ [x5]) x8 (wrap64 (x9 + 1))) else (none))) else (none)) else ((lex_text.f x5).bind fun t217 => (if t217 = true then (if x3.length < 140737488355328 then (lex_Quote.l0 k x0 (x3 ++ [x5]) x8 (wrap64 (x9 + 1))) else (none)) else (if x3.length < 140737488355328 then (lex_Quote.l0 k x0 (x3 ++ [32]) x8 (wrap64 (x9 + 1))) else (none))))
end
def lex_Quote.f (k : Nat) (a0 : ByteArray) : Option (ByteArray) := lex_Quote.l0 k a0 (([34] : List Int)) (a0.size : Int) 0
theorem lex_Quote.mono_l : ∀ k, (∀ y0 y1 y2 y3, LeO (lex_Quote.l0 k y0 y1 y2 y3) (lex_Quote.l0 (k + 1) y0 y1 y2 y3)) ∧ (∀ y0 y1 y2 y3 y4 y5, LeO (lex_Quote.j1 k y0 y1 y2 y3 y4 y5) (lex_Quote.j1 (k + 1) y0 y1 y2 y3 y4 y5))
  | 0 => ⟨fun _ _ _ _ r h => by simp [lex_Quote.l0] at h, fun _ _ _ _ _ _ r h => by simp [lex_Quote.j1] at h⟩
  | k + 1 => by
    obtain ⟨ih0, ih1⟩ := lex_Quote.mono_l k
    refine ⟨?_, ?_⟩
    · intro y0 y1 y2 y3
      unfold lex_Quote.l0
      repeat' first | (with_reducible first | exact ih0 _ _ _ _ | exact ih1 _ _ _ _ _ _ | exact LeO.refl _ | exact LeO.none _ | refine LeO.ite ?_ ?_ | refine LeO.bind ?_ (fun _ => ?_)) | exact ih0 _ _ _ _ | exact ih1 _ _ _ _ _ _ | exact LeO.none _ | refine LeO.ite ?_ ?_ | refine LeO.bind ?_ (fun _ => ?_)
    · intro y0 y1 y2 y3 y4 y5
      unfold lex_Quote.j1
      repeat' first | (with_reducible first | exact ih0 _ _ _ _ | exact ih1 _ _ _ _ _ _ | exact LeO.refl _ | exact LeO.none _ | refine LeO.ite ?_ ?_ | refine LeO.bind ?_ (fun _ => ?_)) | exact ih0 _ _ _ _ | exact ih1 _ _ _ _ _ _ | exact LeO.none _ | refine LeO.ite ?_ ?_ | refine LeO.bind ?_ (fun _ => ?_)
theorem lex_Quote.mono : ∀ a0 k, LeO (lex_Quote.f k a0) (lex_Quote.f (k + 1) a0) := by
  intro a0 k
  obtain ⟨ih0, ih1⟩ := lex_Quote.mono_l k
  unfold lex_Quote.f
  repeat' first | (with_reducible first | exact ih0 _ _ _ _ | exact ih1 _ _ _ _ _ _ | exact LeO.refl _ | exact LeO.none _ | refine LeO.ite ?_ ?_ | refine LeO.bind ?_ (fun _ => ?_)) | exact ih0 _ _ _ _ | exact ih1 _ _ _ _ _ _ | exact LeO.none _ | refine LeO.ite ?_ ?_ | refine LeO.bind ?_ (fun _ => ?_)
set_option maxHeartbeats 8000000 in
set_option maxRecDepth 100000 in
theorem lex_Quote.calls (k : Nat) (a0 : ByteArray) (r : ByteArray) (w : World) (h : lex_Quote.f k a0 = some r) :
    Calls Tryz.prog 140 #[.string a0] w fun e w' => e = .returned (.string r) ∧ Below w.heap.size w w' := by
 have HB := Aside0.mk (Below.refl w.heap.size w)
 unfold lex_Quote.f at h
 have H := h
 clear h
 obtain ⟨y205, hy205⟩ : ∃ y_ : List Int, y_ = (([34] : List Int)) := ⟨_, rfl⟩
 replace H : (lex_Quote.l0 k a0 y205 (a0.size : Int) 0) = some r := by first | (rw [hy205]; with_reducible exact H) | (have H2_ := (Option.bind_some _ _).symm.trans H; rw [hy205]; with_reducible exact H2_) | (have H2_ := (Option.bind_some _ _).symm.trans H; with_reducible exact H2_) | with_reducible exact H | (rw [hy205]; exact H) | exact H
 have Ny205 := Aside0.mk hy205
 clear hy205
 have H' := Aside0.mk H
 clear H
 go_enter Tryz.func140, Tryz.ntmps140
 go_wp2_with (first | ((with_reducible refine gate_dst (N := 6) rfl ?_); refine Kd.R_lit (Kd.int .u8) _ 5 ?hg (N := 6) ?hd (xs := ([34] : List Int)) (inner := [.int .u8 34]) (ok := fun _ => True) (okp := fun _ => True) ?hr ?hp (fun _ hk => hk) trivial (Below.refl _ _) (Nat.le_refl _) (by simp) ?_; (case hd => rfl); (case hg => rfl); (case hr => first | (go_simp; done) | (go_simp; rfl)); (case hp => exact (Reps.one (show Kd.M (Kd.int .u8) _ _ _ 34 [.int .u8 34] from rfl) (Reps.none _ _))); intro v206 w2 ho3 hb hg_ hnew_; clear hg_ hnew_; (first | rw [← Ny205.out] at ho3 | (simp only [Int.reduceToNat] at ho3; rw [← Ny205.out] at ho3)); have HO207 := Aside0.mk (Kd.R_lower ho3 (below_size blw)); replace HB := Aside0.mk (below_step blw hb); clear hb ho3))
 go_loopg [3, 9] k (fun kq v3 v9 w' => ∃ (x3_1 : List Int) (x9_1 : Int), v9 = .int .i64 x9_1 ∧ Aside0 (lex_Quote.l0 kq a0 x3_1 (a0.size : Int) x9_1 = some r) ∧ Aside0 (kq ≤ k) ∧ Aside0 (Kd.R (Kd.int .u8) 5 w' w.heap.size (fun _ => True) v3 x3_1) ∧ Aside0 (Below w.heap.size w w'))
 case atStart => exact ⟨(y205), (0), eqs, H', ⟨Nat.le_refl _⟩, ⟨by (with_reducible repeat (first | apply Kd.R_alloc | apply Kd.R_drewN | apply Kd.R_drew)); exact HO207.out⟩, ⟨blw⟩⟩
 case round =>
  clear H'
  try clear c1
  try clear p2
  obtain ⟨x3_1, x9_1, rfl, HA, HK1, HO_3, HB⟩ := hrel
  cases gk with
  | zero => exact absurd HA.out (by simp [lex_Quote.l0])
  | succ k1 =>
   have H := HA.out
   clear HA
   simp only [lex_Quote.l0] at H
   by_cases c4 : x9_1 < (a0.size : Int)
   ·rw [if_pos c4] at H
    have c4b0 := decide_eq_true c4
    clear c4
    obtain ⟨c5, H⟩ := iteS H
    have c5b0 := decide_eq_true c5
    clear c5
    obtain ⟨c6, H⟩ := iteS H
    have c6b0 := decide_eq_true c6
    clear c6
    have HC8 := Aside0.mk H
    clear H
    have p7 : 0 ≤ (x9_1 : Int) := od_
    have q7 : x9_1 < (a0.size : Int) := od_
    have hx7 := bt_at a0 x9_1
    replace p7 := eq_true p7
    replace q7 := eq_true q7
    go_upto_region 6 with (fail)
    go_cut [15] (fun v15 wc => ∃ (kq : Nat) (x15_7 : Bool), v15 = .bool x15_7 ∧ Aside0 (lex_Quote.j1 kq a0 x3_1 (bt a0 x9_1) (a0.size : Int) x9_1 x15_7 = some r) ∧ Aside0 (kq ≤ k1) ∧ Aside0 (Kd.R (Kd.int .u8) 5 wc w.heap.size (fun _ => True) u3 x3_1) ∧ Aside0 (Below w.heap.size w wc))
    case first =>
     have H := HC8.out
     clear HC8
     by_cases c9 : (bt a0 x9_1) = 34
     ·rw [if_pos c9] at H
      have c9b0 := beq_iff_eq.mpr c9
      have c9b1 := bne_eq_false_iff_eq.mpr c9
      clear c9
      (first | rw [c9b0] | (simp only [i64_w, i32_w]; rw [c9b0]) | skip)
      have H' := Aside0.mk H
      clear H
      go_wp2
      go_meet
      case rel => exact ⟨_, (true), eqs, H', ⟨by have := HK1.out; first | omega | exact Nat.le_refl _⟩, ⟨by (with_reducible repeat (first | apply Kd.R_alloc | apply Kd.R_drewN | apply Kd.R_drew)); exact HO_3.out⟩, ⟨blw⟩⟩
     ·rw [if_neg c9] at H
      have c9b0 := beq_eq_false_iff_ne.mpr c9
      have c9b1 := bne_iff_ne.mpr c9
      (first | rw [c9b0] | (simp only [i64_w, i32_w]; rw [c9b0]) | skip)
      have H' := Aside0.mk H
      clear H
      go_wp2
      go_meet
      case rel => exact ⟨_, (((bt a0 x9_1) == 92)), eqs, H', ⟨by have := HK1.out; first | omega | exact Nat.le_refl _⟩, ⟨by (with_reducible repeat (first | apply Kd.R_alloc | apply Kd.R_drewN | apply Kd.R_drew)); exact HO_3.out⟩, ⟨blw⟩⟩
    case rest =>
     clear HC8
     try clear c1
     try clear p2
     try clear c4
     try clear c4b0
     try clear c5
     try clear c5b0
     try clear c6
     try clear c6b0
     try clear p7
     try clear q7
     try clear hx7
     try clear c9
     try clear c9b0
     try clear c9b1
     try clear p2
     try clear p7
     try clear q7
     obtain ⟨kq, x15_7, rfl, HA, HJ7, HO_3, HB⟩ := hcut
     cases kq with
     | zero => exact absurd HA.out (by simp [lex_Quote.j1])
     | succ kj7 =>
      have H := HA.out
      clear HA
      simp only [lex_Quote.j1] at H
      by_cases c10 : x15_7 = true
      ·subst c10
       rw [if_pos rfl] at H
       obtain ⟨c11, H⟩ := iteS H
       have LMc11 := Aside0.mk c11
       clear c11
       obtain ⟨y211, hy211⟩ : ∃ y_ : List Int, y_ = (x3_1 ++ [92]) := ⟨_, rfl⟩
       replace H : (if y211.length < 140737488355328 then (lex_Quote.l0 kj7 a0 (y211 ++ [(bt a0 x9_1)]) (a0.size : Int) (wrap64 (x9_1 + 1))) else (none)) = some r := by first | (rw [hy211]; with_reducible exact H) | (have H2_ := (Option.bind_some _ _).symm.trans H; rw [hy211]; with_reducible exact H2_) | (have H2_ := (Option.bind_some _ _).symm.trans H; with_reducible exact H2_) | with_reducible exact H | (rw [hy211]; exact H) | exact H
       have Ny211 := Aside0.mk hy211
       clear hy211
       obtain ⟨c12, H⟩ := iteS H
       have LMc12 := Aside0.mk c12
       clear c12
       obtain ⟨y214, hy214⟩ : ∃ y_ : List Int, y_ = (y211 ++ [(bt a0 x9_1)]) := ⟨_, rfl⟩
       replace H : (lex_Quote.l0 kj7 a0 y214 (a0.size : Int) (wrap64 (x9_1 + 1))) = some r := by first | (rw [hy214]; with_reducible exact H) | (have H2_ := (Option.bind_some _ _).symm.trans H; rw [hy214]; with_reducible exact H2_) | (have H2_ := (Option.bind_some _ _).symm.trans H; with_reducible exact H2_) | with_reducible exact H | (rw [hy214]; exact H) | exact H
       have Ny214 := Aside0.mk hy214
       clear hy214
       have H' := Aside0.mk H
       clear H
       go_wp2_with (first | ((with_reducible refine gate_builtin (b := .append) (xs := #[.tmp 22, .tmp 23]) rfl ?_); at_builtin; refine Kd.R_append (Kd.int .u8) (w0 := w) w.heap.size rfl (.tmp 22) (.tmp 23) 169 5 (.int .u8 0) 1 rfl Tryz.underlying169 info5 rfl (by decide) (by omega) u3 x3_1 92 [.int .u8 92] (fun _ => True) (fun _ => False) rfl rfl ?aP (fun _ hk => hk.elim) ?aF ?aO ?aB ?aS ?aL ?_; (case aP => exact rfl); (case aB => exact blw); (case aF => exact (fun _ _ => trivial)); (case aO => exact (by (with_reducible repeat (first | apply Kd.R_alloc | apply Kd.R_drewN | apply Kd.R_drew)); exact HO_3.out)); (case aS => exact (below_size blw)); (case aL => have := LMc11.out; omega); intro v212 w13 ho hb hg hat; rw [← Ny211.out] at ho; have n0_ := Aside0.mk (hb); have n1_ := Aside0.mk (ho); clear HB; clear HO_3; have HB := n0_; have HO213 := n1_; clear n0_ n1_; clear ho hb hg hat) | ((with_reducible refine gate_builtin (b := .append) (xs := #[.tmp 29, .tmp 31]) rfl ?_); at_builtin; refine Kd.R_append (Kd.int .u8) (w0 := w) w.heap.size rfl (.tmp 29) (.tmp 31) 169 5 (.int .u8 0) 1 rfl Tryz.underlying169 info5 rfl (by decide) (by omega) v212 y211 (bt a0 x9_1) [.int .u8 (bt a0 x9_1)] (fun _ => True) (fun _ => False) rfl rfl ?aP (fun _ hk => hk.elim) ?aF ?aO ?aB ?aS ?aL ?_; (case aP => exact rfl); (case aB => exact blw); (case aF => exact (fun _ _ => trivial)); (case aO => exact (by (with_reducible repeat (first | apply Kd.R_alloc | apply Kd.R_drewN | apply Kd.R_drew)); exact HO213.out)); (case aS => exact (below_size blw)); (case aL => have := LMc12.out; omega); intro v215 w14 ho hb hg hat; rw [← Ny214.out] at ho; have n0_ := Aside0.mk (hb); have n1_ := Aside0.mk (ho); clear HB; clear HO213; have HB := n0_; have HO216 := n1_; clear n0_ n1_; clear ho hb hg hat))
       go_roundg kj7
       case measure => have := HK1.out; have := HJ7.out; omega
       case rel => exact ⟨(y214), (wrap64 (x9_1 + 1)), eqs, H', ⟨by have := HK1.out; have := HJ7.out; omega⟩, ⟨by (with_reducible repeat (first | apply Kd.R_alloc | apply Kd.R_drewN | apply Kd.R_drew)); exact HO216.out⟩, ⟨blw⟩⟩
      ·replace c10 := Bool.eq_false_iff.mpr c10
       subst c10
       rw [if_neg nft] at H
       replace H := Option.bind_eq_some_iff.mp H
       obtain ⟨t217, A150, H⟩ := H
       try dsimp only at H
       have A15 := Aside0.mk A150
       clear A150
       by_cases c16 : t217 = true
       ·subst c16
        rw [if_pos rfl] at H
        obtain ⟨c17, H⟩ := iteS H
        have LMc17 := Aside0.mk c17
        clear c17
        obtain ⟨y218, hy218⟩ : ∃ y_ : List Int, y_ = (x3_1 ++ [(bt a0 x9_1)]) := ⟨_, rfl⟩
        replace H : (lex_Quote.l0 kj7 a0 y218 (a0.size : Int) (wrap64 (x9_1 + 1))) = some r := by first | (rw [hy218]; with_reducible exact H) | (have H2_ := (Option.bind_some _ _).symm.trans H; rw [hy218]; with_reducible exact H2_) | (have H2_ := (Option.bind_some _ _).symm.trans H; with_reducible exact H2_) | with_reducible exact H | (rw [hy218]; exact H) | exact H
        have Ny218 := Aside0.mk hy218
        clear hy218
        have H' := Aside0.mk H
        clear H
        go_wp2_with (first | ((with_reducible refine gc 181 rfl ?_); refine cl_ (some 27) Tryz.func181 (lex_text.calls (bt a0 x9_1) true _ A15.out) ?_; rintro w' ⟨nd, rfl⟩) | ((with_reducible refine gate_builtin (b := .append) (xs := #[.tmp 29, .tmp 31]) rfl ?_); at_builtin; refine Kd.R_append (Kd.int .u8) (w0 := w) w.heap.size rfl (.tmp 29) (.tmp 31) 169 5 (.int .u8 0) 1 rfl Tryz.underlying169 info5 rfl (by decide) (by omega) u3 x3_1 (bt a0 x9_1) [.int .u8 (bt a0 x9_1)] (fun _ => True) (fun _ => False) rfl rfl ?aP (fun _ hk => hk.elim) ?aF ?aO ?aB ?aS ?aL ?_; (case aP => exact rfl); (case aB => exact blw); (case aF => exact (fun _ _ => trivial)); (case aO => exact (by (with_reducible repeat (first | apply Kd.R_alloc | apply Kd.R_drewN | apply Kd.R_drew)); exact HO_3.out)); (case aS => exact (below_size blw)); (case aL => have := LMc17.out; omega); intro v219 w18 ho hb hg hat; rw [← Ny218.out] at ho; have n0_ := Aside0.mk (hb); have n1_ := Aside0.mk (ho); clear HB; clear HO_3; have HB := n0_; have HO220 := n1_; clear n0_ n1_; clear ho hb hg hat))
        go_roundg kj7
        case measure => have := HK1.out; have := HJ7.out; omega
        case rel => exact ⟨(y218), (wrap64 (x9_1 + 1)), eqs, H', ⟨by have := HK1.out; have := HJ7.out; omega⟩, ⟨by (with_reducible repeat (first | apply Kd.R_alloc | apply Kd.R_drewN | apply Kd.R_drew)); exact HO220.out⟩, ⟨blw⟩⟩
       ·replace c16 := Bool.eq_false_iff.mpr c16
        subst c16
        rw [if_neg nft] at H
        obtain ⟨c19, H⟩ := iteS H
        have LMc19 := Aside0.mk c19
        clear c19
        obtain ⟨y221, hy221⟩ : ∃ y_ : List Int, y_ = (x3_1 ++ [32]) := ⟨_, rfl⟩
        replace H : (lex_Quote.l0 kj7 a0 y221 (a0.size : Int) (wrap64 (x9_1 + 1))) = some r := by first | (rw [hy221]; with_reducible exact H) | (have H2_ := (Option.bind_some _ _).symm.trans H; rw [hy221]; with_reducible exact H2_) | (have H2_ := (Option.bind_some _ _).symm.trans H; with_reducible exact H2_) | with_reducible exact H | (rw [hy221]; exact H) | exact H
        have Ny221 := Aside0.mk hy221
        clear hy221
        have H' := Aside0.mk H
        clear H
        go_wp2_with (first | ((with_reducible refine gc 181 rfl ?_); refine cl_ (some 27) Tryz.func181 (lex_text.calls (bt a0 x9_1) false _ A15.out) ?_; rintro w' ⟨nd, rfl⟩) | ((with_reducible refine gate_builtin (b := .append) (xs := #[.tmp 29, .tmp 31]) rfl ?_); at_builtin; refine Kd.R_append (Kd.int .u8) (w0 := w) w.heap.size rfl (.tmp 29) (.tmp 31) 169 5 (.int .u8 0) 1 rfl Tryz.underlying169 info5 rfl (by decide) (by omega) u3 x3_1 32 [.int .u8 32] (fun _ => True) (fun _ => False) rfl rfl ?aP (fun _ hk => hk.elim) ?aF ?aO ?aB ?aS ?aL ?_; (case aP => exact rfl); (case aB => exact blw); (case aF => exact (fun _ _ => trivial)); (case aO => exact (by (with_reducible repeat (first | apply Kd.R_alloc | apply Kd.R_drewN | apply Kd.R_drew)); exact HO_3.out)); (case aS => exact (below_size blw)); (case aL => have := LMc19.out; omega); intro v222 w20 ho hb hg hat; rw [← Ny221.out] at ho; have n0_ := Aside0.mk (hb); have n1_ := Aside0.mk (ho); clear HB; clear HO_3; have HB := n0_; have HO223 := n1_; clear n0_ n1_; clear ho hb hg hat))
        go_roundg kj7
        case measure => have := HK1.out; have := HJ7.out; omega
        case rel => exact ⟨(y221), (wrap64 (x9_1 + 1)), eqs, H', ⟨by have := HK1.out; have := HJ7.out; omega⟩, ⟨by (with_reducible repeat (first | apply Kd.R_alloc | apply Kd.R_drewN | apply Kd.R_drew)); exact HO223.out⟩, ⟨blw⟩⟩
   ·rw [if_neg c4] at H
    have c4b0 := decide_eq_false c4
    clear c4
    obtain ⟨c21, H⟩ := iteS H
    have LMc21 := Aside0.mk c21
    clear c21
    obtain ⟨y208, hy208⟩ : ∃ y_ : List Int, y_ = (x3_1 ++ [34]) := ⟨_, rfl⟩
    replace H : (some (strOfNums y208)) = some r := by first | (rw [hy208]; with_reducible exact H) | (have H2_ := (Option.bind_some _ _).symm.trans H; rw [hy208]; with_reducible exact H2_) | (have H2_ := (Option.bind_some _ _).symm.trans H; with_reducible exact H2_) | with_reducible exact H | (rw [hy208]; exact H) | exact H
    have Ny208 := Aside0.mk hy208
    clear hy208
    obtain rfl := Option.some.inj H
    go_wp2_with (first | ((with_reducible refine gate_builtin (b := .append) (xs := #[.tmp 34, .tmp 35]) rfl ?_); at_builtin; refine Kd.R_append (Kd.int .u8) (w0 := w) w.heap.size rfl (.tmp 34) (.tmp 35) 169 5 (.int .u8 0) 1 rfl Tryz.underlying169 info5 rfl (by decide) (by omega) u3 x3_1 34 [.int .u8 34] (fun _ => True) (fun _ => False) rfl rfl ?aP (fun _ hk => hk.elim) ?aF ?aO ?aB ?aS ?aL ?_; (case aP => exact rfl); (case aB => exact blw); (case aF => exact (fun _ _ => trivial)); (case aO => exact (by (with_reducible repeat (first | apply Kd.R_alloc | apply Kd.R_drewN | apply Kd.R_drew)); exact HO_3.out)); (case aS => exact (below_size blw)); (case aL => have := LMc21.out; omega); intro v209 w22 ho hb hg hat; rw [← Ny208.out] at ho; have n0_ := Aside0.mk (hb); have n1_ := Aside0.mk (ho); clear HB; clear HO_3; have HB := n0_; have HO210 := n1_; clear n0_ n1_; clear ho hb hg hat; have hcv23 := own_string (P := Tryz.prog) Tryz.underlying169 Tryz.underlying5 Tryz.underlying9 (Kd.own_of_R HO210.out)))
    go_ret
    exact ⟨by first | rfl | (simp [errW_none, errW_some] <;> rfl) | (simp [*, errW_none, errW_some] <;> rfl), blw⟩
/-! ### addr_Addr_Text: function 97 -/
def addr_Addr_Text.f (k : Nat) (a0_0 : ByteArray) (a0_1 : ByteArray) : Option (ByteArray) := (addr_Dotted.f k a0_0).bind fun t225 => (if t225 = true then (if a0_0.size + 1 ≤ 9223372036854775807 then (if a0_0.size + 1 + a0_1.size ≤ 9223372036854775807 then (some ((a0_0 ++ (⟨#[64]⟩ : ByteArray)) ++ a0_1)) else (none)) else (none)) else ((lex_Quote.f k a0_0).bind fun t226 => (if t226.size + 1 ≤ 9223372036854775807 then (if t226.size + 1 + a0_1.size ≤ 9223372036854775807 then (some ((t226 ++ (⟨#[64]⟩ : ByteArray)) ++ a0_1)) else (none)) else (none))))
theorem addr_Addr_Text.mono : ∀ a0 a1 k, LeO (addr_Addr_Text.f k a0 a1) (addr_Addr_Text.f (k + 1) a0 a1) := by
  intro a0 a1 k
  unfold addr_Addr_Text.f
  repeat' first | (with_reducible first | exact addr_Dotted.mono _ _ | exact lex_Quote.mono _ _ | exact LeO.refl _ | exact LeO.none _ | refine LeO.ite ?_ ?_ | refine LeO.bind ?_ (fun _ => ?_)) | exact addr_Dotted.mono _ _ | exact lex_Quote.mono _ _ | exact LeO.none _ | refine LeO.ite ?_ ?_ | refine LeO.bind ?_ (fun _ => ?_)
set_option maxHeartbeats 8000000 in
set_option maxRecDepth 100000 in
theorem addr_Addr_Text.calls (k : Nat) (a0_0 : ByteArray) (a0_1 : ByteArray) (r : ByteArray) (w : World) (h : addr_Addr_Text.f k a0_0 a0_1 = some r) :
    Calls Tryz.prog 97 #[.agg #[.string a0_0, .string a0_1]] w fun e w' => e = .returned (.string r) ∧ Below w.heap.size w w' := by
 have hu45 := Tryz.underlying45
 have HB := Aside0.mk (Below.refl w.heap.size w)
 unfold addr_Addr_Text.f at h
 have H := h
 clear h
 replace H := Option.bind_eq_some_iff.mp H
 obtain ⟨t225, A20, H⟩ := H
 try dsimp only at H
 have A2 := Aside0.mk A20
 clear A20
 by_cases c3 : t225 = true
 ·subst c3
  rw [if_pos rfl] at H
  obtain ⟨c4, H⟩ := iteS H
  have c4b0 := eq_true c4
  have c4b1 := decide_eq_true c4
  try have c4b2 := eq_false (Nat.not_lt.2 c4)
  obtain ⟨c5, H⟩ := iteS H
  have c5b0 := eq_true c5
  have c5b1 := decide_eq_true c5
  try have c5b2 := eq_false (Nat.not_lt.2 c5)
  obtain rfl := Option.some.inj H
  go_enter Tryz.func97, Tryz.ntmps97
  go_wp2_with (first | ((with_reducible refine gate_dst (N := 1) rfl ?_); refine box_event ?hg (N := 1) ?hd (cs := #[.string a0_0, .string a0_1]) (t := 45) ?hr ?_; (case hd => rfl); (case hg => rfl); (case hr => first | (go_simp; done) | (go_simp; rfl)); intro gb224 hg w6 hbox hb; have BK224 := Aside0.mk (hbox); have GW224 : Aside0 (w.heap.size ≤ gb224) := gw_ hg; have GE224 : Aside0 (w.heap.size ≤ gb224) := gw_ hg; replace HB := Aside0.mk (below_step blw hb); clear hb hbox hg; have hcz7_0 : w6.cell? ⟨gb224, 0, none⟩ = some (.string a0_0) := bk_ BK224; have hcz7_1 : w6.cell? ⟨gb224, 1, none⟩ = some (.string a0_1) := bk_ BK224; have hfz7_0 := blk_frozen BK224.out 0; have hfz7_1 := blk_frozen BK224.out 1) | ((with_reducible refine gc 139 rfl ?_); refine cl_ (some 7) Tryz.func139 (addr_Dotted.calls k a0_0 true _ A2.out) ?_; rintro w8 hb; replace BK224 := Aside0.mk (blk_below (g := gb224) (o := .cells #[.string a0_0, .string a0_1] 45 (0, 0)) (bkw BK224) hb); replace HB := Aside0.mk (below_step blw hb); (try clear hb); have hcz9_0 : w8.cell? ⟨gb224, 0, none⟩ = some (.string a0_0) := bk_ BK224; have hcz9_1 : w8.cell? ⟨gb224, 1, none⟩ = some (.string a0_1) := bk_ BK224; have hfz9_0 := blk_frozen BK224.out 0; have hfz9_1 := blk_frozen BK224.out 1))
  go_ret
  exact ⟨by first | rfl | (simp [errW_none, errW_some] <;> rfl) | (simp [*, errW_none, errW_some] <;> rfl), blw⟩
 ·replace c3 := Bool.eq_false_iff.mpr c3
  subst c3
  rw [if_neg nft] at H
  replace H := Option.bind_eq_some_iff.mp H
  obtain ⟨t226, A100, H⟩ := H
  try dsimp only at H
  have A10 := Aside0.mk A100
  clear A100
  obtain ⟨c11, H⟩ := iteS H
  have c11b0 := eq_true c11
  have c11b1 := decide_eq_true c11
  try have c11b2 := eq_false (Nat.not_lt.2 c11)
  obtain ⟨c12, H⟩ := iteS H
  have c12b0 := eq_true c12
  have c12b1 := decide_eq_true c12
  try have c12b2 := eq_false (Nat.not_lt.2 c12)
  obtain rfl := Option.some.inj H
  go_enter Tryz.func97, Tryz.ntmps97
  go_wp2_with (first | ((with_reducible refine gate_dst (N := 1) rfl ?_); refine box_event ?hg (N := 1) ?hd (cs := #[.string a0_0, .string a0_1]) (t := 45) ?hr ?_; (case hd => rfl); (case hg => rfl); (case hr => first | (go_simp; done) | (go_simp; rfl)); intro gb224 hg w13 hbox hb; have BK224 := Aside0.mk (hbox); have GW224 : Aside0 (w.heap.size ≤ gb224) := gw_ hg; have GE224 : Aside0 (w.heap.size ≤ gb224) := gw_ hg; replace HB := Aside0.mk (below_step blw hb); clear hb hbox hg; have hcz14_0 : w13.cell? ⟨gb224, 0, none⟩ = some (.string a0_0) := bk_ BK224; have hcz14_1 : w13.cell? ⟨gb224, 1, none⟩ = some (.string a0_1) := bk_ BK224; have hfz14_0 := blk_frozen BK224.out 0; have hfz14_1 := blk_frozen BK224.out 1) | ((with_reducible refine gc 139 rfl ?_); refine cl_ (some 7) Tryz.func139 (addr_Dotted.calls k a0_0 false _ A2.out) ?_; rintro w15 hb; replace BK224 := Aside0.mk (blk_below (g := gb224) (o := .cells #[.string a0_0, .string a0_1] 45 (0, 0)) (bkw BK224) hb); replace HB := Aside0.mk (below_step blw hb); (try clear hb)) | ((with_reducible refine gc 140 rfl ?_); refine cl_ (some 10) Tryz.func140 (lex_Quote.calls k a0_0 t226 _ A10.out) ?_; rintro w16 hb; replace BK224 := Aside0.mk (blk_below (g := gb224) (o := .cells #[.string a0_0, .string a0_1] 45 (0, 0)) (bkw BK224) hb); replace HB := Aside0.mk (below_step blw hb); (try clear hb); have hcz17_0 : w16.cell? ⟨gb224, 0, none⟩ = some (.string a0_0) := bk_ BK224; have hcz17_1 : w16.cell? ⟨gb224, 1, none⟩ = some (.string a0_1) := bk_ BK224; have hfz17_0 := blk_frozen BK224.out 0; have hfz17_1 := blk_frozen BK224.out 1))
  go_ret
  exact ⟨by first | rfl | (simp [errW_none, errW_some] <;> rfl) | (simp [*, errW_none, errW_some] <;> rfl), blw⟩
end Go.Proofs.YtpniccllpfonfaaGreatDoor.Q
