-- Written by a program of this session (wip/myprint) out of the translation, for YtcgfaagadejpmaaGreatDoor.
import Derived.Test.YtcgfaagadejpmaaGreatDoorQ0
import Derived.Test.YtcgfaagadejpmaaGreatDoorQ5
namespace Go.Proofs.YtcgfaagadejpmaaGreatDoor.Q
open Go.RowKit Go.Proofs.YtcgfaagadejpmaaGreatDoorW.PrintWords Go.Proofs.YtcgfaagadejpmaaGreatDoorW.PrintLast Go.Proofs.YtcgfaagadejpmaaGreatDoorW.PrintMore Go.Proofs.YtcgfaagadejpmaaGreatDoorW.PrintSq
attribute [local go_sem] max2_int min2_int max_two min_two max_three min_three max_four min_four   -- for this text's walks alone
set_option linter.unusedVariables false
set_option linter.unusedSimpArgs false

/-! ### lex_sign: function 99 -/
def lex_sign.f (a0 : Int) : Option (Bool) := (strings_IndexByte.f (⟨#[60, 62, 58, 59, 64, 44, 46]⟩ : ByteArray) a0).bind fun t130 => (some (decide (t130 ≥ 0)))
set_option maxHeartbeats 8000000 in
set_option maxRecDepth 100000 in
theorem lex_sign.calls (a0 : Int) (r : Bool) (w : World) (h : lex_sign.f a0 = some r) :
    Calls Tryz.prog 99 #[.int .u8 a0] w fun e w' => e = .returned (.bool r) ∧ Drawn0 w w' := by
 unfold lex_sign.f at h
 have H := h
 clear h
 replace H := Option.bind_eq_some_iff.mp H
 obtain ⟨t130, A20, H⟩ := H
 try dsimp only at H
 have A2 := Aside0.mk A20
 clear A20
 obtain rfl := Option.some.inj H
 go_enter Tryz.func99, Tryz.ntmps99
 go_wp2_with (first | ((with_reducible refine gc 24 rfl ?_); refine cl_ (some 4) Tryz.func24 (strings_IndexByte.calls (⟨#[60, 62, 58, 59, 64, 44, 46]⟩ : ByteArray) a0 t130 _ A2.out) ?_; rintro w' ⟨nd, rfl⟩))
 go_ret
 exact ⟨eqs, drw⟩

/-! ### lex_atomic: function 100 -/
def lex_atomic.f (a0 : Int) : Option (Bool) := if a0 ≥ 97 then (if a0 ≤ 122 then (some true) else (if a0 ≥ 65 then (if a0 ≤ 90 then (some true) else (if a0 ≥ 48 then (if a0 ≤ 57 then (some true) else (if a0 > 127 then (some true) else ((strings_IndexByte.f (⟨#[33, 35, 36, 37, 38, 39, 42, 43, 45, 47, 61, 63, 94, 95, 96, 123, 124, 125, 126]⟩ : ByteArray) a0).bind fun t131 => (some (decide (t131 ≥ 0)))))) else (if a0 > 127 then (some true) else ((strings_IndexByte.f (⟨#[33, 35, 36, 37, 38, 39, 42, 43, 45, 47, 61, 63, 94, 95, 96, 123, 124, 125, 126]⟩ : ByteArray) a0).bind fun t132 => (some (decide (t132 ≥ 0))))))) else (if a0 ≥ 48 then (if a0 ≤ 57 then (some true) else (if a0 > 127 then (some true) else ((strings_IndexByte.f (⟨#[33, 35, 36, 37, 38, 39, 42, 43, 45, 47, 61, 63, 94, 95, 96, 123, 124, 125, 126]⟩ : ByteArray) a0).bind fun t133 => (some (decide (t133 ≥ 0)))))) else (if a0 > 127 then (some true) else ((strings_IndexByte.f (⟨#[33, 35, 36, 37, 38, 39, 42, 43, 45, 47, 61, 63, 94, 95, 96, 123, 124, 125, 126]⟩ : ByteArray) a0).bind fun t134 => (some (decide (t134 ≥ 0)))))))) else (if a0 ≥ 65 then (if a0 ≤ 90 then (some true) else (if a0 ≥ 48 then (if a0 ≤ 57 then (some true) else (if a0 > 127 then (some true) else ((strings_IndexByte.f (⟨#[33, 35, 36, 37, 38, 39, 42, 43, 45, 47, 61, 63, 94, 95, 96, 123, 124, 125, 126]⟩ : ByteArray) a0).bind fun t135 => (some (decide (t135 ≥ 0)))))) else (if a0 > 127 then (some true) else ((strings_IndexByte.f (⟨#[33, 35, 36, 37, 38, 39, 42, 43, 45, 47, 61, 63, 94, 95, 96, 123, 124, 125, 126]⟩ : ByteArray) a0).bind fun t136 => (some (decide (t136 ≥ 0))))))) else (if a0 ≥ 48 then (if a0 ≤ 57 then (some true) else (if a0 > 127 then (some true) else ((strings_IndexByte.f (⟨#[33, 35, 36, 37, 38, 39, 42, 43, 45, 47, 61, 63, 94, 95, 96, 123, 124, 125, 126]⟩ : ByteArray) a0).bind fun t137 => (some (decide (t137 ≥ 0)))))) else (if a0 > 127 then (some true) else ((strings_IndexByte.f (⟨#[33, 35, 36, 37, 38, 39, 42, 43, 45, 47, 61, 63, 94, 95, 96, 123, 124, 125, 126]⟩ : ByteArray) a0).bind fun t138 => (some (decide (t138 ≥ 0)))))))
set_option maxHeartbeats 8000000 in
set_option maxRecDepth 100000 in
theorem lex_atomic.calls (a0 : Int) (r : Bool) (w : World) (h : lex_atomic.f a0 = some r) :
    Calls Tryz.prog 100 #[.int .u8 a0] w fun e w' => e = .returned (.bool r) ∧ Drawn0 w w' := by
 unfold lex_atomic.f at h
 have H := h
 clear h
 by_cases c2 : a0 ≥ 97
 ·rw [if_pos c2] at H
  have c2b0 : decide (97 ≤ a0) = true := decide_eq_true c2
  clear c2
  by_cases c3 : a0 ≤ 122
  ·rw [if_pos c3] at H
   have c3b0 := decide_eq_true c3
   clear c3
   obtain rfl := Option.some.inj H
   go_enter Tryz.func100, Tryz.ntmps100
   go_wp2
   go_ret
   exact ⟨eqs, drw⟩
  ·rw [if_neg c3] at H
   have c3b0 := decide_eq_false c3
   clear c3
   by_cases c4 : a0 ≥ 65
   ·rw [if_pos c4] at H
    have c4b0 : decide (65 ≤ a0) = true := decide_eq_true c4
    clear c4
    by_cases c5 : a0 ≤ 90
    ·rw [if_pos c5] at H
     have c5b0 := decide_eq_true c5
     clear c5
     obtain rfl := Option.some.inj H
     go_enter Tryz.func100, Tryz.ntmps100
     go_wp2
     go_ret
     exact ⟨eqs, drw⟩
    ·rw [if_neg c5] at H
     have c5b0 := decide_eq_false c5
     clear c5
     by_cases c6 : a0 ≥ 48
     ·rw [if_pos c6] at H
      have c6b0 : decide (48 ≤ a0) = true := decide_eq_true c6
      clear c6
      by_cases c7 : a0 ≤ 57
      ·rw [if_pos c7] at H
       have c7b0 := decide_eq_true c7
       clear c7
       obtain rfl := Option.some.inj H
       go_enter Tryz.func100, Tryz.ntmps100
       go_wp2
       go_ret
       exact ⟨eqs, drw⟩
      ·rw [if_neg c7] at H
       have c7b0 := decide_eq_false c7
       clear c7
       by_cases c8 : a0 > 127
       ·rw [if_pos c8] at H
        have c8b0 : decide (127 < a0) = true := decide_eq_true c8
        clear c8
        obtain rfl := Option.some.inj H
        go_enter Tryz.func100, Tryz.ntmps100
        go_wp2
        go_ret
        exact ⟨eqs, drw⟩
       ·rw [if_neg c8] at H
        have c8b0 : decide (127 < a0) = false := decide_eq_false c8
        clear c8
        replace H := Option.bind_eq_some_iff.mp H
        obtain ⟨t131, A90, H⟩ := H
        try dsimp only at H
        have A9 := Aside0.mk A90
        clear A90
        obtain rfl := Option.some.inj H
        go_enter Tryz.func100, Tryz.ntmps100
        go_wp2_with (first | ((with_reducible refine gc 24 rfl ?_); refine cl_ (some 31) Tryz.func24 (strings_IndexByte.calls (⟨#[33, 35, 36, 37, 38, 39, 42, 43, 45, 47, 61, 63, 94, 95, 96, 123, 124, 125, 126]⟩ : ByteArray) a0 t131 _ A9.out) ?_; rintro w' ⟨nd, rfl⟩))
        go_ret
        exact ⟨eqs, drw⟩
     ·rw [if_neg c6] at H
      have c6b0 : decide (48 ≤ a0) = false := decide_eq_false c6
      clear c6
      by_cases c10 : a0 > 127
      ·rw [if_pos c10] at H
       have c10b0 : decide (127 < a0) = true := decide_eq_true c10
       clear c10
       obtain rfl := Option.some.inj H
       go_enter Tryz.func100, Tryz.ntmps100
       go_wp2
       go_ret
       exact ⟨eqs, drw⟩
      ·rw [if_neg c10] at H
       have c10b0 : decide (127 < a0) = false := decide_eq_false c10
       clear c10
       replace H := Option.bind_eq_some_iff.mp H
       obtain ⟨t132, A110, H⟩ := H
       try dsimp only at H
       have A11 := Aside0.mk A110
       clear A110
       obtain rfl := Option.some.inj H
       go_enter Tryz.func100, Tryz.ntmps100
       go_wp2_with (first | ((with_reducible refine gc 24 rfl ?_); refine cl_ (some 31) Tryz.func24 (strings_IndexByte.calls (⟨#[33, 35, 36, 37, 38, 39, 42, 43, 45, 47, 61, 63, 94, 95, 96, 123, 124, 125, 126]⟩ : ByteArray) a0 t132 _ A11.out) ?_; rintro w' ⟨nd, rfl⟩))
       go_ret
       exact ⟨eqs, drw⟩
   ·rw [if_neg c4] at H
    have c4b0 : decide (65 ≤ a0) = false := decide_eq_false c4
    clear c4
    by_cases c12 : a0 ≥ 48
    ·rw [if_pos c12] at H
     have c12b0 : decide (48 ≤ a0) = true := decide_eq_true c12
     clear c12
     by_cases c13 : a0 ≤ 57
     ·rw [if_pos c13] at H
      have c13b0 := decide_eq_true c13
      clear c13
      obtain rfl := Option.some.inj H
      go_enter Tryz.func100, Tryz.ntmps100
      go_wp2
      go_ret
      exact ⟨eqs, drw⟩
     ·rw [if_neg c13] at H
      have c13b0 := decide_eq_false c13
      clear c13
      by_cases c14 : a0 > 127
      ·rw [if_pos c14] at H
       have c14b0 : decide (127 < a0) = true := decide_eq_true c14
       clear c14
       obtain rfl := Option.some.inj H
       go_enter Tryz.func100, Tryz.ntmps100
       go_wp2
       go_ret
       exact ⟨eqs, drw⟩
      ·rw [if_neg c14] at H
       have c14b0 : decide (127 < a0) = false := decide_eq_false c14
       clear c14
       replace H := Option.bind_eq_some_iff.mp H
       obtain ⟨t133, A150, H⟩ := H
       try dsimp only at H
       have A15 := Aside0.mk A150
       clear A150
       obtain rfl := Option.some.inj H
       go_enter Tryz.func100, Tryz.ntmps100
       go_wp2_with (first | ((with_reducible refine gc 24 rfl ?_); refine cl_ (some 31) Tryz.func24 (strings_IndexByte.calls (⟨#[33, 35, 36, 37, 38, 39, 42, 43, 45, 47, 61, 63, 94, 95, 96, 123, 124, 125, 126]⟩ : ByteArray) a0 t133 _ A15.out) ?_; rintro w' ⟨nd, rfl⟩))
       go_ret
       exact ⟨eqs, drw⟩
    ·rw [if_neg c12] at H
     have c12b0 : decide (48 ≤ a0) = false := decide_eq_false c12
     clear c12
     by_cases c16 : a0 > 127
     ·rw [if_pos c16] at H
      have c16b0 : decide (127 < a0) = true := decide_eq_true c16
      clear c16
      obtain rfl := Option.some.inj H
      go_enter Tryz.func100, Tryz.ntmps100
      go_wp2
      go_ret
      exact ⟨eqs, drw⟩
     ·rw [if_neg c16] at H
      have c16b0 : decide (127 < a0) = false := decide_eq_false c16
      clear c16
      replace H := Option.bind_eq_some_iff.mp H
      obtain ⟨t134, A170, H⟩ := H
      try dsimp only at H
      have A17 := Aside0.mk A170
      clear A170
      obtain rfl := Option.some.inj H
      go_enter Tryz.func100, Tryz.ntmps100
      go_wp2_with (first | ((with_reducible refine gc 24 rfl ?_); refine cl_ (some 31) Tryz.func24 (strings_IndexByte.calls (⟨#[33, 35, 36, 37, 38, 39, 42, 43, 45, 47, 61, 63, 94, 95, 96, 123, 124, 125, 126]⟩ : ByteArray) a0 t134 _ A17.out) ?_; rintro w' ⟨nd, rfl⟩))
      go_ret
      exact ⟨eqs, drw⟩
 ·rw [if_neg c2] at H
  have c2b0 : decide (97 ≤ a0) = false := decide_eq_false c2
  clear c2
  by_cases c18 : a0 ≥ 65
  ·rw [if_pos c18] at H
   have c18b0 : decide (65 ≤ a0) = true := decide_eq_true c18
   clear c18
   by_cases c19 : a0 ≤ 90
   ·rw [if_pos c19] at H
    have c19b0 := decide_eq_true c19
    clear c19
    obtain rfl := Option.some.inj H
    go_enter Tryz.func100, Tryz.ntmps100
    go_wp2
    go_ret
    exact ⟨eqs, drw⟩
   ·rw [if_neg c19] at H
    have c19b0 := decide_eq_false c19
    clear c19
    by_cases c20 : a0 ≥ 48
    ·rw [if_pos c20] at H
     have c20b0 : decide (48 ≤ a0) = true := decide_eq_true c20
     clear c20
     by_cases c21 : a0 ≤ 57
     ·rw [if_pos c21] at H
      have c21b0 := decide_eq_true c21
      clear c21
      obtain rfl := Option.some.inj H
      go_enter Tryz.func100, Tryz.ntmps100
      go_wp2
      go_ret
      exact ⟨eqs, drw⟩
     ·rw [if_neg c21] at H
      have c21b0 := decide_eq_false c21
      clear c21
      by_cases c22 : a0 > 127
      ·rw [if_pos c22] at H
       have c22b0 : decide (127 < a0) = true := decide_eq_true c22
       clear c22
       obtain rfl := Option.some.inj H
       go_enter Tryz.func100, Tryz.ntmps100
       go_wp2
       go_ret
       exact ⟨eqs, drw⟩
      ·rw [if_neg c22] at H
       have c22b0 : decide (127 < a0) = false := decide_eq_false c22
       clear c22
       replace H := Option.bind_eq_some_iff.mp H
       obtain ⟨t135, A230, H⟩ := H
       try dsimp only at H
       have A23 := Aside0.mk A230
       clear A230
       obtain rfl := Option.some.inj H
       go_enter Tryz.func100, Tryz.ntmps100
       go_wp2_with (first | ((with_reducible refine gc 24 rfl ?_); refine cl_ (some 31) Tryz.func24 (strings_IndexByte.calls (⟨#[33, 35, 36, 37, 38, 39, 42, 43, 45, 47, 61, 63, 94, 95, 96, 123, 124, 125, 126]⟩ : ByteArray) a0 t135 _ A23.out) ?_; rintro w' ⟨nd, rfl⟩))
       go_ret
       exact ⟨eqs, drw⟩
    ·rw [if_neg c20] at H
     have c20b0 : decide (48 ≤ a0) = false := decide_eq_false c20
     clear c20
     by_cases c24 : a0 > 127
     ·rw [if_pos c24] at H
      have c24b0 : decide (127 < a0) = true := decide_eq_true c24
      clear c24
      obtain rfl := Option.some.inj H
      go_enter Tryz.func100, Tryz.ntmps100
      go_wp2
      go_ret
      exact ⟨eqs, drw⟩
     ·rw [if_neg c24] at H
      have c24b0 : decide (127 < a0) = false := decide_eq_false c24
      clear c24
      replace H := Option.bind_eq_some_iff.mp H
      obtain ⟨t136, A250, H⟩ := H
      try dsimp only at H
      have A25 := Aside0.mk A250
      clear A250
      obtain rfl := Option.some.inj H
      go_enter Tryz.func100, Tryz.ntmps100
      go_wp2_with (first | ((with_reducible refine gc 24 rfl ?_); refine cl_ (some 31) Tryz.func24 (strings_IndexByte.calls (⟨#[33, 35, 36, 37, 38, 39, 42, 43, 45, 47, 61, 63, 94, 95, 96, 123, 124, 125, 126]⟩ : ByteArray) a0 t136 _ A25.out) ?_; rintro w' ⟨nd, rfl⟩))
      go_ret
      exact ⟨eqs, drw⟩
  ·rw [if_neg c18] at H
   have c18b0 : decide (65 ≤ a0) = false := decide_eq_false c18
   clear c18
   by_cases c26 : a0 ≥ 48
   ·rw [if_pos c26] at H
    have c26b0 : decide (48 ≤ a0) = true := decide_eq_true c26
    clear c26
    by_cases c27 : a0 ≤ 57
    ·rw [if_pos c27] at H
     have c27b0 := decide_eq_true c27
     clear c27
     obtain rfl := Option.some.inj H
     go_enter Tryz.func100, Tryz.ntmps100
     go_wp2
     go_ret
     exact ⟨eqs, drw⟩
    ·rw [if_neg c27] at H
     have c27b0 := decide_eq_false c27
     clear c27
     by_cases c28 : a0 > 127
     ·rw [if_pos c28] at H
      have c28b0 : decide (127 < a0) = true := decide_eq_true c28
      clear c28
      obtain rfl := Option.some.inj H
      go_enter Tryz.func100, Tryz.ntmps100
      go_wp2
      go_ret
      exact ⟨eqs, drw⟩
     ·rw [if_neg c28] at H
      have c28b0 : decide (127 < a0) = false := decide_eq_false c28
      clear c28
      replace H := Option.bind_eq_some_iff.mp H
      obtain ⟨t137, A290, H⟩ := H
      try dsimp only at H
      have A29 := Aside0.mk A290
      clear A290
      obtain rfl := Option.some.inj H
      go_enter Tryz.func100, Tryz.ntmps100
      go_wp2_with (first | ((with_reducible refine gc 24 rfl ?_); refine cl_ (some 31) Tryz.func24 (strings_IndexByte.calls (⟨#[33, 35, 36, 37, 38, 39, 42, 43, 45, 47, 61, 63, 94, 95, 96, 123, 124, 125, 126]⟩ : ByteArray) a0 t137 _ A29.out) ?_; rintro w' ⟨nd, rfl⟩))
      go_ret
      exact ⟨eqs, drw⟩
   ·rw [if_neg c26] at H
    have c26b0 : decide (48 ≤ a0) = false := decide_eq_false c26
    clear c26
    by_cases c30 : a0 > 127
    ·rw [if_pos c30] at H
     have c30b0 : decide (127 < a0) = true := decide_eq_true c30
     clear c30
     obtain rfl := Option.some.inj H
     go_enter Tryz.func100, Tryz.ntmps100
     go_wp2
     go_ret
     exact ⟨eqs, drw⟩
    ·rw [if_neg c30] at H
     have c30b0 : decide (127 < a0) = false := decide_eq_false c30
     clear c30
     replace H := Option.bind_eq_some_iff.mp H
     obtain ⟨t138, A310, H⟩ := H
     try dsimp only at H
     have A31 := Aside0.mk A310
     clear A310
     obtain rfl := Option.some.inj H
     go_enter Tryz.func100, Tryz.ntmps100
     go_wp2_with (first | ((with_reducible refine gc 24 rfl ?_); refine cl_ (some 31) Tryz.func24 (strings_IndexByte.calls (⟨#[33, 35, 36, 37, 38, 39, 42, 43, 45, 47, 61, 63, 94, 95, 96, 123, 124, 125, 126]⟩ : ByteArray) a0 t138 _ A31.out) ?_; rintro w' ⟨nd, rfl⟩))
     go_ret
     exact ⟨eqs, drw⟩

end Go.Proofs.YtcgfaagadejpmaaGreatDoor.Q
