-- Written by a program of this session (wip/myprint) out of the translation, for YtocdojegoakmoaaDoor.
import Derived.Test.YtocdojegoakmoaaDoorZ0
import Derived.Test.YtocdojegoakmoaaDoorZ2
namespace Go.Proofs.YtocdojegoakmoaaDoor.Z
open Go.RowKit Go.Proofs.YtocdojegoakmoaaDoorW.PrintWords Go.Proofs.YtocdojegoakmoaaDoorW.PrintLast Go.Proofs.YtocdojegoakmoaaDoorW.PrintMore
attribute [local go_sem] max2_int min2_int max_two min_two max_three min_three max_four min_four   -- for this text's walks alone
set_option linter.unusedVariables false
set_option linter.unusedSimpArgs false

/-! ### date_Mail: function 8 -/
def date_Mail.f (k : Nat) (a0 : Int) : Option (ByteArray) := (date_Of.f k a0).bind fun bt120 => (if bt120.2.2.2.2.2.2.2 = true then (if 0 ≤ bt120.2.2.2.2.2.2.1 then (if bt120.2.2.2.2.2.2.1 < 7 then (if (rdOf ByteArray.empty Tab0 bt120.2.2.2.2.2.2.1).size + 2 ≤ 9223372036854775807 then ((strconv_Itoa.f bt120.2.2.1).bind fun t129 => (if (rdOf ByteArray.empty Tab0 bt120.2.2.2.2.2.2.1).size + 2 + t129.size ≤ 9223372036854775807 then (if (rdOf ByteArray.empty Tab0 bt120.2.2.2.2.2.2.1).size + 2 + t129.size + 1 ≤ 9223372036854775807 then (if 0 ≤ (wrap64 (bt120.2.1 - 1)) then (if (wrap64 (bt120.2.1 - 1)) < 12 then (if (rdOf ByteArray.empty Tab0 bt120.2.2.2.2.2.2.1).size + 2 + t129.size + 1 + (rdOf ByteArray.empty Tab1 (wrap64 (bt120.2.1 - 1))).size ≤ 9223372036854775807 then (if (rdOf ByteArray.empty Tab0 bt120.2.2.2.2.2.2.1).size + 2 + t129.size + 1 + (rdOf ByteArray.empty Tab1 (wrap64 (bt120.2.1 - 1))).size + 1 ≤ 9223372036854775807 then ((strconv_Itoa.f bt120.1).bind fun t130 => (if (rdOf ByteArray.empty Tab0 bt120.2.2.2.2.2.2.1).size + 2 + t129.size + 1 + (rdOf ByteArray.empty Tab1 (wrap64 (bt120.2.1 - 1))).size + 1 + t130.size ≤ 9223372036854775807 then (if (rdOf ByteArray.empty Tab0 bt120.2.2.2.2.2.2.1).size + 2 + t129.size + 1 + (rdOf ByteArray.empty Tab1 (wrap64 (bt120.2.1 - 1))).size + 1 + t130.size + 1 ≤ 9223372036854775807 then ((date_clock.f bt120.1 bt120.2.1 bt120.2.2.1 bt120.2.2.2.1 bt120.2.2.2.2.1 bt120.2.2.2.2.2.1 bt120.2.2.2.2.2.2.1).bind fun t131 => (if (rdOf ByteArray.empty Tab0 bt120.2.2.2.2.2.2.1).size + 2 + t129.size + 1 + (rdOf ByteArray.empty Tab1 (wrap64 (bt120.2.1 - 1))).size + 1 + t130.size + 1 + t131.size ≤ 9223372036854775807 then (if (rdOf ByteArray.empty Tab0 bt120.2.2.2.2.2.2.1).size + 2 + t129.size + 1 + (rdOf ByteArray.empty Tab1 (wrap64 (bt120.2.1 - 1))).size + 1 + t130.size + 1 + t131.size + 6 ≤ 9223372036854775807 then (some ((((((((((rdOf ByteArray.empty Tab0 bt120.2.2.2.2.2.2.1) ++ (⟨#[44, 32]⟩ : ByteArray)) ++ t129) ++ (⟨#[32]⟩ : ByteArray)) ++ (rdOf ByteArray.empty Tab1 (wrap64 (bt120.2.1 - 1)))) ++ (⟨#[32]⟩ : ByteArray)) ++ t130) ++ (⟨#[32]⟩ : ByteArray)) ++ t131) ++ (⟨#[32, 43, 48, 48, 48, 48]⟩ : ByteArray))) else (none)) else (none))) else (none)) else (none))) else (none)) else (none)) else (none)) else (none)) else (none)) else (none))) else (none)) else (none)) else (none)) else (some (⟨#[]⟩ : ByteArray)))
theorem date_Mail.mono : ∀ a0 k, LeO (date_Mail.f k a0) (date_Mail.f (k + 1) a0) := by
 intro a0 k
 unfold date_Mail.f
 repeat' first
   | (with_reducible exact date_Of.mono _ _)
   | (with_reducible exact LeO.refl _)
   | (with_reducible exact LeO.none _)
   | (with_reducible refine LeO.ite ?_ ?_)
   | (with_reducible refine LeO.bind ?_ (fun _ => ?_))
   | exact date_Of.mono _ _
   | exact LeO.none _
   | refine LeO.ite ?_ ?_
   | refine LeO.bind ?_ (fun _ => ?_)
def date_Mail.T4 : Bool × List (List Nat × List Nat) := (true, [([], []), ([0], [0]), ([1], [1]), ([2], [2]), ([3], [3]), ([], []), ([5], [5]), ([6], [6]), ([4, 7], [4, 7]), ([8], [8]), ([], []), ([10], [10]), ([11], [11]), ([12], [12]), ([13], [13]), ([9, 14], [9, 14]), ([15], [15]), ([], []), ([17], [17]), ([18, 7], [18]), ([16, 19], [16, 19]), ([20], [20]), ([], []), ([22, 19], [22]), ([21, 23], [21, 23]), ([24], [24]), ([25, 23, 0, 1, 2, 3, 4, 5, 6, 7, 8, 9, 10, 11, 12, 13, 14, 15, 16, 17, 18, 19, 20, 21, 22, 23, 24, 25], [25])])
def date_Mail.B4 : List Nat := [0, 1, 3, 7, 15, 0, 32, 96, 255, 511, 0, 1024, 3072, 7168, 15360, 32767, 65535, 0, 131072, 393440, 1048575, 2097151, 0, 5112032, 16777215, 33554431, 67108863]
theorem date_Mail.tab4 : rtab .any (opsOf Tryd.f8 4) = date_Mail.T4 := by kernel_rfl
theorem date_Mail.bits4 : waitsOk date_Mail.T4.2 date_Mail.B4 = true := by kernel_rfl
set_option maxHeartbeats 8000000 in
set_option maxRecDepth 100000 in
theorem date_Mail.calls (k : Nat) (a0 : Int) (r : ByteArray) (w : World) (hG : Amb w) (h : date_Mail.f k a0 = some r) :
  Calls Tryd.prog 8 #[.int .i64 a0] w fun e w' => e = .returned (.string r) ∧ Below w.heap.size w w' := by
 have hu33 := Tryd.underlying33
 have HB := Aside0.mk (Below.refl w.heap.size w)
 have H : ((date_Of.f k a0).bind fun bt120 => (if bt120.2.2.2.2.2.2.2 = true then (if 0 ≤ bt120.2.2.2.2.2.2.1 then (if bt120.2.2.2.2.2.2.1 < 7 then (if (rdOf ByteArray.empty Tab0 bt120.2.2.2.2.2.2.1).size + 2 ≤ 9223372036854775807 then ((strconv_Itoa.f bt120.2.2.1).bind fun t129 => (if (rdOf ByteArray.empty Tab0 bt120.2.2.2.2.2.2.1).size + 2 + t129.size ≤ 9223372036854775807 then (if (rdOf ByteArray.empty Tab0 bt120.2.2.2.2.2.2.1).size + 2 + t129.size + 1 ≤ 9223372036854775807 then (if 0 ≤ (wrap64 (bt120.2.1 - 1)) then (if (wrap64 (bt120.2.1 - 1)) < 12 then (if (rdOf ByteArray.empty Tab0 bt120.2.2.2.2.2.2.1).size + 2 + t129.size + 1 + (rdOf ByteArray.empty Tab1 (wrap64 (bt120.2.1 - 1))).size ≤ 9223372036854775807 then (if (rdOf ByteArray.empty Tab0 bt120.2.2.2.2.2.2.1).size + 2 + t129.size + 1 + (rdOf ByteArray.empty Tab1 (wrap64 (bt120.2.1 - 1))).size + 1 ≤ 9223372036854775807 then ((strconv_Itoa.f bt120.1).bind fun t130 => (if (rdOf ByteArray.empty Tab0 bt120.2.2.2.2.2.2.1).size + 2 + t129.size + 1 + (rdOf ByteArray.empty Tab1 (wrap64 (bt120.2.1 - 1))).size + 1 + t130.size ≤ 9223372036854775807 then (if (rdOf ByteArray.empty Tab0 bt120.2.2.2.2.2.2.1).size + 2 + t129.size + 1 + (rdOf ByteArray.empty Tab1 (wrap64 (bt120.2.1 - 1))).size + 1 + t130.size + 1 ≤ 9223372036854775807 then ((date_clock.f bt120.1 bt120.2.1 bt120.2.2.1 bt120.2.2.2.1 bt120.2.2.2.2.1 bt120.2.2.2.2.2.1 bt120.2.2.2.2.2.2.1).bind fun t131 => (if (rdOf ByteArray.empty Tab0 bt120.2.2.2.2.2.2.1).size + 2 + t129.size + 1 + (rdOf ByteArray.empty Tab1 (wrap64 (bt120.2.1 - 1))).size + 1 + t130.size + 1 + t131.size ≤ 9223372036854775807 then (if (rdOf ByteArray.empty Tab0 bt120.2.2.2.2.2.2.1).size + 2 + t129.size + 1 + (rdOf ByteArray.empty Tab1 (wrap64 (bt120.2.1 - 1))).size + 1 + t130.size + 1 + t131.size + 6 ≤ 9223372036854775807 then (some ((((((((((rdOf ByteArray.empty Tab0 bt120.2.2.2.2.2.2.1) ++ (⟨#[44, 32]⟩ : ByteArray)) ++ t129) ++ (⟨#[32]⟩ : ByteArray)) ++ (rdOf ByteArray.empty Tab1 (wrap64 (bt120.2.1 - 1)))) ++ (⟨#[32]⟩ : ByteArray)) ++ t130) ++ (⟨#[32]⟩ : ByteArray)) ++ t131) ++ (⟨#[32, 43, 48, 48, 48, 48]⟩ : ByteArray))) else (none)) else (none))) else (none)) else (none))) else (none)) else (none)) else (none)) else (none)) else (none)) else (none))) else (none)) else (none)) else (none)) else (some (⟨#[]⟩ : ByteArray)))) = some r := h
 clear h
 have HG := Aside0.mk hG
 clear hG
 replace H := Option.bind_eq_some_iff.mp H
 obtain ⟨⟨t120, t121, t122, t123, t124, t125, t126, t127⟩, A20, H⟩ := H
 replace H : (if t127 = true then (if 0 ≤ t126 then (if t126 < 7 then (if (rdOf ByteArray.empty Tab0 t126).size + 2 ≤ 9223372036854775807 then ((strconv_Itoa.f t122).bind fun t129 => (if (rdOf ByteArray.empty Tab0 t126).size + 2 + t129.size ≤ 9223372036854775807 then (if (rdOf ByteArray.empty Tab0 t126).size + 2 + t129.size + 1 ≤ 9223372036854775807 then (if 0 ≤ (wrap64 (t121 - 1)) then (if (wrap64 (t121 - 1)) < 12 then (if (rdOf ByteArray.empty Tab0 t126).size + 2 + t129.size + 1 + (rdOf ByteArray.empty Tab1 (wrap64 (t121 - 1))).size ≤ 9223372036854775807 then (if (rdOf ByteArray.empty Tab0 t126).size + 2 + t129.size + 1 + (rdOf ByteArray.empty Tab1 (wrap64 (t121 - 1))).size + 1 ≤ 9223372036854775807 then ((strconv_Itoa.f t120).bind fun t130 => (if (rdOf ByteArray.empty Tab0 t126).size + 2 + t129.size + 1 + (rdOf ByteArray.empty Tab1 (wrap64 (t121 - 1))).size + 1 + t130.size ≤ 9223372036854775807 then (if (rdOf ByteArray.empty Tab0 t126).size + 2 + t129.size + 1 + (rdOf ByteArray.empty Tab1 (wrap64 (t121 - 1))).size + 1 + t130.size + 1 ≤ 9223372036854775807 then ((date_clock.f t120 t121 t122 t123 t124 t125 t126).bind fun t131 => (if (rdOf ByteArray.empty Tab0 t126).size + 2 + t129.size + 1 + (rdOf ByteArray.empty Tab1 (wrap64 (t121 - 1))).size + 1 + t130.size + 1 + t131.size ≤ 9223372036854775807 then (if (rdOf ByteArray.empty Tab0 t126).size + 2 + t129.size + 1 + (rdOf ByteArray.empty Tab1 (wrap64 (t121 - 1))).size + 1 + t130.size + 1 + t131.size + 6 ≤ 9223372036854775807 then (some ((((((((((rdOf ByteArray.empty Tab0 t126) ++ (⟨#[44, 32]⟩ : ByteArray)) ++ t129) ++ (⟨#[32]⟩ : ByteArray)) ++ (rdOf ByteArray.empty Tab1 (wrap64 (t121 - 1)))) ++ (⟨#[32]⟩ : ByteArray)) ++ t130) ++ (⟨#[32]⟩ : ByteArray)) ++ t131) ++ (⟨#[32, 43, 48, 48, 48, 48]⟩ : ByteArray))) else (none)) else (none))) else (none)) else (none))) else (none)) else (none)) else (none)) else (none)) else (none)) else (none))) else (none)) else (none)) else (none)) else (some (⟨#[]⟩ : ByteArray))) = some r := H
 have A2 := Aside0.mk A20
 clear A20
 by_cases c3 : t127 = true
 ·subst c3
  have H1 : (if 0 ≤ t126 then (if t126 < 7 then (if (rdOf ByteArray.empty Tab0 t126).size + 2 ≤ 9223372036854775807 then ((strconv_Itoa.f t122).bind fun t129 => (if (rdOf ByteArray.empty Tab0 t126).size + 2 + t129.size ≤ 9223372036854775807 then (if (rdOf ByteArray.empty Tab0 t126).size + 2 + t129.size + 1 ≤ 9223372036854775807 then (if 0 ≤ (wrap64 (t121 - 1)) then (if (wrap64 (t121 - 1)) < 12 then (if (rdOf ByteArray.empty Tab0 t126).size + 2 + t129.size + 1 + (rdOf ByteArray.empty Tab1 (wrap64 (t121 - 1))).size ≤ 9223372036854775807 then (if (rdOf ByteArray.empty Tab0 t126).size + 2 + t129.size + 1 + (rdOf ByteArray.empty Tab1 (wrap64 (t121 - 1))).size + 1 ≤ 9223372036854775807 then ((strconv_Itoa.f t120).bind fun t130 => (if (rdOf ByteArray.empty Tab0 t126).size + 2 + t129.size + 1 + (rdOf ByteArray.empty Tab1 (wrap64 (t121 - 1))).size + 1 + t130.size ≤ 9223372036854775807 then (if (rdOf ByteArray.empty Tab0 t126).size + 2 + t129.size + 1 + (rdOf ByteArray.empty Tab1 (wrap64 (t121 - 1))).size + 1 + t130.size + 1 ≤ 9223372036854775807 then ((date_clock.f t120 t121 t122 t123 t124 t125 t126).bind fun t131 => (if (rdOf ByteArray.empty Tab0 t126).size + 2 + t129.size + 1 + (rdOf ByteArray.empty Tab1 (wrap64 (t121 - 1))).size + 1 + t130.size + 1 + t131.size ≤ 9223372036854775807 then (if (rdOf ByteArray.empty Tab0 t126).size + 2 + t129.size + 1 + (rdOf ByteArray.empty Tab1 (wrap64 (t121 - 1))).size + 1 + t130.size + 1 + t131.size + 6 ≤ 9223372036854775807 then (some ((((((((((rdOf ByteArray.empty Tab0 t126) ++ (⟨#[44, 32]⟩ : ByteArray)) ++ t129) ++ (⟨#[32]⟩ : ByteArray)) ++ (rdOf ByteArray.empty Tab1 (wrap64 (t121 - 1)))) ++ (⟨#[32]⟩ : ByteArray)) ++ t130) ++ (⟨#[32]⟩ : ByteArray)) ++ t131) ++ (⟨#[32, 43, 48, 48, 48, 48]⟩ : ByteArray))) else (none)) else (none))) else (none)) else (none))) else (none)) else (none)) else (none)) else (none)) else (none)) else (none))) else (none)) else (none)) else (none)) = some r := by rw [if_pos rfl] at H; exact H
  clear H
  have H := H1
  clear H1
  by_cases c4 : 0 ≤ t126
  ·rw [if_pos c4] at H
   have c4b0 : decide (0 ≤ t126) = true := decide_eq_true c4
   clear c4
   by_cases c5 : t126 < 7
   ·rw [if_pos c5] at H
    have c5b0 : decide (t126 < 7) = true := decide_eq_true c5
    clear c5
    by_cases c7 : (rdOf ByteArray.empty Tab0 t126).size + 2 ≤ 9223372036854775807
    ·rw [if_pos c7] at H
     have c7b0 := eq_true c7
     have c7b1 : decide ((rdOf ByteArray.empty Tab0 t126).size + 2 ≤ 9223372036854775807) = true := decide_eq_true c7
     try have c7b2 : (9223372036854775807 < (rdOf ByteArray.empty Tab0 t126).size + 2) = False := eq_false (Nat.not_lt.2 c7)
     replace H := Option.bind_eq_some_iff.mp H
     obtain ⟨t129, A80, H⟩ := H
     replace H : (if (rdOf ByteArray.empty Tab0 t126).size + 2 + t129.size ≤ 9223372036854775807 then (if (rdOf ByteArray.empty Tab0 t126).size + 2 + t129.size + 1 ≤ 9223372036854775807 then (if 0 ≤ (wrap64 (t121 - 1)) then (if (wrap64 (t121 - 1)) < 12 then (if (rdOf ByteArray.empty Tab0 t126).size + 2 + t129.size + 1 + (rdOf ByteArray.empty Tab1 (wrap64 (t121 - 1))).size ≤ 9223372036854775807 then (if (rdOf ByteArray.empty Tab0 t126).size + 2 + t129.size + 1 + (rdOf ByteArray.empty Tab1 (wrap64 (t121 - 1))).size + 1 ≤ 9223372036854775807 then ((strconv_Itoa.f t120).bind fun t130 => (if (rdOf ByteArray.empty Tab0 t126).size + 2 + t129.size + 1 + (rdOf ByteArray.empty Tab1 (wrap64 (t121 - 1))).size + 1 + t130.size ≤ 9223372036854775807 then (if (rdOf ByteArray.empty Tab0 t126).size + 2 + t129.size + 1 + (rdOf ByteArray.empty Tab1 (wrap64 (t121 - 1))).size + 1 + t130.size + 1 ≤ 9223372036854775807 then ((date_clock.f t120 t121 t122 t123 t124 t125 t126).bind fun t131 => (if (rdOf ByteArray.empty Tab0 t126).size + 2 + t129.size + 1 + (rdOf ByteArray.empty Tab1 (wrap64 (t121 - 1))).size + 1 + t130.size + 1 + t131.size ≤ 9223372036854775807 then (if (rdOf ByteArray.empty Tab0 t126).size + 2 + t129.size + 1 + (rdOf ByteArray.empty Tab1 (wrap64 (t121 - 1))).size + 1 + t130.size + 1 + t131.size + 6 ≤ 9223372036854775807 then (some ((((((((((rdOf ByteArray.empty Tab0 t126) ++ (⟨#[44, 32]⟩ : ByteArray)) ++ t129) ++ (⟨#[32]⟩ : ByteArray)) ++ (rdOf ByteArray.empty Tab1 (wrap64 (t121 - 1)))) ++ (⟨#[32]⟩ : ByteArray)) ++ t130) ++ (⟨#[32]⟩ : ByteArray)) ++ t131) ++ (⟨#[32, 43, 48, 48, 48, 48]⟩ : ByteArray))) else (none)) else (none))) else (none)) else (none))) else (none)) else (none)) else (none)) else (none)) else (none)) else (none)) = some r := H
     have A8 := Aside0.mk A80
     clear A80
     by_cases c9 : (rdOf ByteArray.empty Tab0 t126).size + 2 + t129.size ≤ 9223372036854775807
     ·rw [if_pos c9] at H
      have c9b0 := eq_true c9
      have c9b1 : decide ((rdOf ByteArray.empty Tab0 t126).size + 2 + t129.size ≤ 9223372036854775807) = true := decide_eq_true c9
      try have c9b2 : (9223372036854775807 < (rdOf ByteArray.empty Tab0 t126).size + 2 + t129.size) = False := eq_false (Nat.not_lt.2 c9)
      by_cases c10 : (rdOf ByteArray.empty Tab0 t126).size + 2 + t129.size + 1 ≤ 9223372036854775807
      ·rw [if_pos c10] at H
       have c10b0 := eq_true c10
       have c10b1 : decide ((rdOf ByteArray.empty Tab0 t126).size + 2 + t129.size + 1 ≤ 9223372036854775807) = true := decide_eq_true c10
       try have c10b2 : (9223372036854775807 < (rdOf ByteArray.empty Tab0 t126).size + 2 + t129.size + 1) = False := eq_false (Nat.not_lt.2 c10)
       obtain ⟨ji11, hji11⟩ : ∃ j_ : Int, (wrap64 (t121 - 1)) = j_ := ⟨_, rfl⟩
       replace H : (if 0 ≤ (ji11) then (if (ji11) < 12 then (if (rdOf ByteArray.empty Tab0 t126).size + 2 + t129.size + 1 + (rdOf ByteArray.empty Tab1 (ji11)).size ≤ 9223372036854775807 then (if (rdOf ByteArray.empty Tab0 t126).size + 2 + t129.size + 1 + (rdOf ByteArray.empty Tab1 (ji11)).size + 1 ≤ 9223372036854775807 then ((strconv_Itoa.f t120).bind fun t130 => (if (rdOf ByteArray.empty Tab0 t126).size + 2 + t129.size + 1 + (rdOf ByteArray.empty Tab1 (ji11)).size + 1 + t130.size ≤ 9223372036854775807 then (if (rdOf ByteArray.empty Tab0 t126).size + 2 + t129.size + 1 + (rdOf ByteArray.empty Tab1 (ji11)).size + 1 + t130.size + 1 ≤ 9223372036854775807 then ((date_clock.f t120 t121 t122 t123 t124 t125 t126).bind fun t131 => (if (rdOf ByteArray.empty Tab0 t126).size + 2 + t129.size + 1 + (rdOf ByteArray.empty Tab1 (ji11)).size + 1 + t130.size + 1 + t131.size ≤ 9223372036854775807 then (if (rdOf ByteArray.empty Tab0 t126).size + 2 + t129.size + 1 + (rdOf ByteArray.empty Tab1 (ji11)).size + 1 + t130.size + 1 + t131.size + 6 ≤ 9223372036854775807 then (some ((((((((((rdOf ByteArray.empty Tab0 t126) ++ (⟨#[44, 32]⟩ : ByteArray)) ++ t129) ++ (⟨#[32]⟩ : ByteArray)) ++ (rdOf ByteArray.empty Tab1 (ji11))) ++ (⟨#[32]⟩ : ByteArray)) ++ t130) ++ (⟨#[32]⟩ : ByteArray)) ++ t131) ++ (⟨#[32, 43, 48, 48, 48, 48]⟩ : ByteArray))) else (none)) else (none))) else (none)) else (none))) else (none)) else (none)) else (none)) else (none)) = some r := by first | (rw [hji11] at H; exact H) | (simp only [hji11] at H ⊢; exact H)
       (try rw [hji11] at A2)
       (try rw [hji11] at A8)
       have hji11w : (IntKind.i64.wrap (t121 - 1)) = ji11 := (i64_w _).trans hji11
       by_cases c12 : 0 ≤ (ji11)
       ·rw [if_pos c12] at H
        have c12b0 : decide (0 ≤ (ji11)) = true := decide_eq_true c12
        clear c12
        by_cases c13 : (ji11) < 12
        ·rw [if_pos c13] at H
         have c13b0 : decide ((ji11) < 12) = true := decide_eq_true c13
         clear c13
         by_cases c15 : (rdOf ByteArray.empty Tab0 t126).size + 2 + t129.size + 1 + (rdOf ByteArray.empty Tab1 (ji11)).size ≤ 9223372036854775807
         ·rw [if_pos c15] at H
          have c15b0 := eq_true c15
          have c15b1 : decide ((rdOf ByteArray.empty Tab0 t126).size + 2 + t129.size + 1 + (rdOf ByteArray.empty Tab1 (ji11)).size ≤ 9223372036854775807) = true := decide_eq_true c15
          try have c15b2 : (9223372036854775807 < (rdOf ByteArray.empty Tab0 t126).size + 2 + t129.size + 1 + (rdOf ByteArray.empty Tab1 (ji11)).size) = False := eq_false (Nat.not_lt.2 c15)
          by_cases c16 : (rdOf ByteArray.empty Tab0 t126).size + 2 + t129.size + 1 + (rdOf ByteArray.empty Tab1 (ji11)).size + 1 ≤ 9223372036854775807
          ·rw [if_pos c16] at H
           have c16b0 := eq_true c16
           have c16b1 : decide ((rdOf ByteArray.empty Tab0 t126).size + 2 + t129.size + 1 + (rdOf ByteArray.empty Tab1 (ji11)).size + 1 ≤ 9223372036854775807) = true := decide_eq_true c16
           try have c16b2 : (9223372036854775807 < (rdOf ByteArray.empty Tab0 t126).size + 2 + t129.size + 1 + (rdOf ByteArray.empty Tab1 (ji11)).size + 1) = False := eq_false (Nat.not_lt.2 c16)
           replace H := Option.bind_eq_some_iff.mp H
           obtain ⟨t130, A170, H⟩ := H
           replace H : (if (rdOf ByteArray.empty Tab0 t126).size + 2 + t129.size + 1 + (rdOf ByteArray.empty Tab1 (ji11)).size + 1 + t130.size ≤ 9223372036854775807 then (if (rdOf ByteArray.empty Tab0 t126).size + 2 + t129.size + 1 + (rdOf ByteArray.empty Tab1 (ji11)).size + 1 + t130.size + 1 ≤ 9223372036854775807 then ((date_clock.f t120 t121 t122 t123 t124 t125 t126).bind fun t131 => (if (rdOf ByteArray.empty Tab0 t126).size + 2 + t129.size + 1 + (rdOf ByteArray.empty Tab1 (ji11)).size + 1 + t130.size + 1 + t131.size ≤ 9223372036854775807 then (if (rdOf ByteArray.empty Tab0 t126).size + 2 + t129.size + 1 + (rdOf ByteArray.empty Tab1 (ji11)).size + 1 + t130.size + 1 + t131.size + 6 ≤ 9223372036854775807 then (some ((((((((((rdOf ByteArray.empty Tab0 t126) ++ (⟨#[44, 32]⟩ : ByteArray)) ++ t129) ++ (⟨#[32]⟩ : ByteArray)) ++ (rdOf ByteArray.empty Tab1 (ji11))) ++ (⟨#[32]⟩ : ByteArray)) ++ t130) ++ (⟨#[32]⟩ : ByteArray)) ++ t131) ++ (⟨#[32, 43, 48, 48, 48, 48]⟩ : ByteArray))) else (none)) else (none))) else (none)) else (none)) = some r := H
           have A17 := Aside0.mk A170
           clear A170
           by_cases c18 : (rdOf ByteArray.empty Tab0 t126).size + 2 + t129.size + 1 + (rdOf ByteArray.empty Tab1 (ji11)).size + 1 + t130.size ≤ 9223372036854775807
           ·rw [if_pos c18] at H
            have c18b0 := eq_true c18
            have c18b1 : decide ((rdOf ByteArray.empty Tab0 t126).size + 2 + t129.size + 1 + (rdOf ByteArray.empty Tab1 (ji11)).size + 1 + t130.size ≤ 9223372036854775807) = true := decide_eq_true c18
            try have c18b2 : (9223372036854775807 < (rdOf ByteArray.empty Tab0 t126).size + 2 + t129.size + 1 + (rdOf ByteArray.empty Tab1 (ji11)).size + 1 + t130.size) = False := eq_false (Nat.not_lt.2 c18)
            by_cases c19 : (rdOf ByteArray.empty Tab0 t126).size + 2 + t129.size + 1 + (rdOf ByteArray.empty Tab1 (ji11)).size + 1 + t130.size + 1 ≤ 9223372036854775807
            ·rw [if_pos c19] at H
             have c19b0 := eq_true c19
             have c19b1 : decide ((rdOf ByteArray.empty Tab0 t126).size + 2 + t129.size + 1 + (rdOf ByteArray.empty Tab1 (ji11)).size + 1 + t130.size + 1 ≤ 9223372036854775807) = true := decide_eq_true c19
             try have c19b2 : (9223372036854775807 < (rdOf ByteArray.empty Tab0 t126).size + 2 + t129.size + 1 + (rdOf ByteArray.empty Tab1 (ji11)).size + 1 + t130.size + 1) = False := eq_false (Nat.not_lt.2 c19)
             replace H := Option.bind_eq_some_iff.mp H
             obtain ⟨t131, A200, H⟩ := H
             replace H : (if (rdOf ByteArray.empty Tab0 t126).size + 2 + t129.size + 1 + (rdOf ByteArray.empty Tab1 (ji11)).size + 1 + t130.size + 1 + t131.size ≤ 9223372036854775807 then (if (rdOf ByteArray.empty Tab0 t126).size + 2 + t129.size + 1 + (rdOf ByteArray.empty Tab1 (ji11)).size + 1 + t130.size + 1 + t131.size + 6 ≤ 9223372036854775807 then (some ((((((((((rdOf ByteArray.empty Tab0 t126) ++ (⟨#[44, 32]⟩ : ByteArray)) ++ t129) ++ (⟨#[32]⟩ : ByteArray)) ++ (rdOf ByteArray.empty Tab1 (ji11))) ++ (⟨#[32]⟩ : ByteArray)) ++ t130) ++ (⟨#[32]⟩ : ByteArray)) ++ t131) ++ (⟨#[32, 43, 48, 48, 48, 48]⟩ : ByteArray))) else (none)) else (none)) = some r := H
             have A20 := Aside0.mk A200
             clear A200
             by_cases c21 : (rdOf ByteArray.empty Tab0 t126).size + 2 + t129.size + 1 + (rdOf ByteArray.empty Tab1 (ji11)).size + 1 + t130.size + 1 + t131.size ≤ 9223372036854775807
             ·rw [if_pos c21] at H
              have c21b0 := eq_true c21
              have c21b1 : decide ((rdOf ByteArray.empty Tab0 t126).size + 2 + t129.size + 1 + (rdOf ByteArray.empty Tab1 (ji11)).size + 1 + t130.size + 1 + t131.size ≤ 9223372036854775807) = true := decide_eq_true c21
              try have c21b2 : (9223372036854775807 < (rdOf ByteArray.empty Tab0 t126).size + 2 + t129.size + 1 + (rdOf ByteArray.empty Tab1 (ji11)).size + 1 + t130.size + 1 + t131.size) = False := eq_false (Nat.not_lt.2 c21)
              by_cases c22 : (rdOf ByteArray.empty Tab0 t126).size + 2 + t129.size + 1 + (rdOf ByteArray.empty Tab1 (ji11)).size + 1 + t130.size + 1 + t131.size + 6 ≤ 9223372036854775807
              ·rw [if_pos c22] at H
               have c22b0 := eq_true c22
               have c22b1 : decide ((rdOf ByteArray.empty Tab0 t126).size + 2 + t129.size + 1 + (rdOf ByteArray.empty Tab1 (ji11)).size + 1 + t130.size + 1 + t131.size + 6 ≤ 9223372036854775807) = true := decide_eq_true c22
               try have c22b2 : (9223372036854775807 < (rdOf ByteArray.empty Tab0 t126).size + 2 + t129.size + 1 + (rdOf ByteArray.empty Tab1 (ji11)).size + 1 + t130.size + 1 + t131.size + 6) = False := eq_false (Nat.not_lt.2 c22)
               obtain rfl := Option.some.inj H
               go_enter Tryd.func8, Tryd.ntmps8
               try go_wp2_with (first | ((with_reducible refine gate_callee (f := 15) rfl ?_); refine goesL_ (some 7) rfl rfl Tryd.func15 (by kernel_rfl) rfl #[.int .i64 a0] rfl (by (try simp only [List.map_toArray, List.map_cons, List.map_nil]); first | done | rfl | (simp only [List.length_drop, List.length_take]; rfl)) ?_; (with_reducible refine (date_Of.calls k a0 t120 t121 t122 t123 t124 t125 t126 true _ ?side1 A2.out).mono ?_); (case side1 => exact Amb.at HG.out (by repeat (first | (with_reducible first | exact HB.out | apply below_alloc | apply pw_below_drewN | apply below_drew1) | exact HB.out))); rintro e w23 ⟨rfl, hb⟩; refine ⟨_, rfl, ?_⟩; have n0_ := Aside0.mk (below_step (by repeat (first | (with_reducible first | exact HB.out | apply below_alloc | apply pw_below_drewN | apply below_drew1) | exact HB.out)) hb); clear HB; have HB := n0_; clear n0_; (try clear hb); (try clear hb2); (try clear hk); (try clear hi)) | ((with_reducible refine gate_dst (N := 3) rfl ?_); refine box_event ?hg (N := 3) ?hd (cs := #[.int .i64 0, .int .i64 0, .int .i64 0, .int .i64 0, .int .i64 0, .int .i64 0, .int .i64 0]) (t := 33) ?hr ?_; (case hd => rfl); (case hg => rfl); (case hr => first | (go_simp; done) | (go_simp; rfl)); intro gb128 hg w24 hbox hb; have n0_ := Aside0.mk (below_step (by repeat (first | (with_reducible first | exact HB.out | apply below_alloc | apply pw_below_drewN | apply below_drew1) | exact HB.out)) hb); have n1_ := Aside0.mk (hbox); have n2_ := Aside0.mk ((by rw [hg]; exact (below_size (by repeat (first | (with_reducible first | exact HB.out | apply below_alloc | apply pw_below_drewN | apply below_drew1) | exact HB.out))) : w.heap.size ≤ gb128)); have n3_ := Aside0.mk ((by rw [hg]; exact (below_size (by repeat (first | (with_reducible first | exact HB.out | apply below_alloc | apply pw_below_drewN | apply below_drew1) | exact HB.out))) : w.heap.size ≤ gb128)); clear HB; have HB := n0_; have BK128 := n1_; have GW128 := n2_; have GE128 := n3_; clear n0_ n1_ n2_ n3_; clear hb hbox hg; have hcz25_0 : w24.cell? ⟨gb128, 0, none⟩ = some (.int .i64 0) := (blk_cell BK128.out 0).trans rfl; have hcz25_1 : w24.cell? ⟨gb128, 1, none⟩ = some (.int .i64 0) := (blk_cell BK128.out 1).trans rfl; have hcz25_2 : w24.cell? ⟨gb128, 2, none⟩ = some (.int .i64 0) := (blk_cell BK128.out 2).trans rfl; have hcz25_3 : w24.cell? ⟨gb128, 3, none⟩ = some (.int .i64 0) := (blk_cell BK128.out 3).trans rfl; have hcz25_4 : w24.cell? ⟨gb128, 4, none⟩ = some (.int .i64 0) := (blk_cell BK128.out 4).trans rfl; have hcz25_5 : w24.cell? ⟨gb128, 5, none⟩ = some (.int .i64 0) := (blk_cell BK128.out 5).trans rfl; have hcz25_6 : w24.cell? ⟨gb128, 6, none⟩ = some (.int .i64 0) := (blk_cell BK128.out 6).trans rfl; have hfz25_0 := blk_frozen BK128.out 0; have hfz25_1 := blk_frozen BK128.out 1; have hfz25_2 := blk_frozen BK128.out 2; have hfz25_3 := blk_frozen BK128.out 3; have hfz25_4 := blk_frozen BK128.out 4; have hfz25_5 := blk_frozen BK128.out 5; have hfz25_6 := blk_frozen BK128.out 6))
               have n0_ : Aside0 ((((((((w24.setCell ⟨gb128, 0, none⟩ (.int .i64 t120)).setCell ⟨gb128, 1, none⟩ (.int .i64 t121)).setCell ⟨gb128, 2, none⟩ (.int .i64 t122)).setCell ⟨gb128, 3, none⟩ (.int .i64 t123)).setCell ⟨gb128, 4, none⟩ (.int .i64 t124)).setCell ⟨gb128, 5, none⟩ (.int .i64 t125)).setCell ⟨gb128, 6, none⟩ (.int .i64 t126)).heap[gb128]? = some (.cells #[.int .i64 t120, .int .i64 t121, .int .i64 t122, .int .i64 t123, .int .i64 t124, .int .i64 t125, .int .i64 t126] 33 (0, 0))) := ⟨by (with_reducible repeat (first | refine blk_drewN ?_ _ | refine blk_drew ?_ | refine blk_alloc ?_ _)); refine blk_put (cs := #[.int .i64 t120, .int .i64 t121, .int .i64 t122, .int .i64 t123, .int .i64 t124, .int .i64 t125, .int .i64 0]) ?_ 6 _ rfl; (with_reducible repeat (first | refine blk_drewN ?_ _ | refine blk_drew ?_ | refine blk_alloc ?_ _)); refine blk_put (cs := #[.int .i64 t120, .int .i64 t121, .int .i64 t122, .int .i64 t123, .int .i64 t124, .int .i64 0, .int .i64 0]) ?_ 5 _ rfl; (with_reducible repeat (first | refine blk_drewN ?_ _ | refine blk_drew ?_ | refine blk_alloc ?_ _)); refine blk_put (cs := #[.int .i64 t120, .int .i64 t121, .int .i64 t122, .int .i64 t123, .int .i64 0, .int .i64 0, .int .i64 0]) ?_ 4 _ rfl; (with_reducible repeat (first | refine blk_drewN ?_ _ | refine blk_drew ?_ | refine blk_alloc ?_ _)); refine blk_put (cs := #[.int .i64 t120, .int .i64 t121, .int .i64 t122, .int .i64 0, .int .i64 0, .int .i64 0, .int .i64 0]) ?_ 3 _ rfl; (with_reducible repeat (first | refine blk_drewN ?_ _ | refine blk_drew ?_ | refine blk_alloc ?_ _)); refine blk_put (cs := #[.int .i64 t120, .int .i64 t121, .int .i64 0, .int .i64 0, .int .i64 0, .int .i64 0, .int .i64 0]) ?_ 2 _ rfl; (with_reducible repeat (first | refine blk_drewN ?_ _ | refine blk_drew ?_ | refine blk_alloc ?_ _)); refine blk_put (cs := #[.int .i64 t120, .int .i64 0, .int .i64 0, .int .i64 0, .int .i64 0, .int .i64 0, .int .i64 0]) ?_ 1 _ rfl; (with_reducible repeat (first | refine blk_drewN ?_ _ | refine blk_drew ?_ | refine blk_alloc ?_ _)); refine blk_put (cs := #[.int .i64 0, .int .i64 0, .int .i64 0, .int .i64 0, .int .i64 0, .int .i64 0, .int .i64 0]) ?_ 0 _ rfl; (with_reducible repeat (first | refine blk_drewN ?_ _ | refine blk_drew ?_ | refine blk_alloc ?_ _)); exact BK128.out⟩
               have n1_ : Aside0 (Below w.heap.size w (((((((w24.setCell ⟨gb128, 0, none⟩ (.int .i64 t120)).setCell ⟨gb128, 1, none⟩ (.int .i64 t121)).setCell ⟨gb128, 2, none⟩ (.int .i64 t122)).setCell ⟨gb128, 3, none⟩ (.int .i64 t123)).setCell ⟨gb128, 4, none⟩ (.int .i64 t124)).setCell ⟨gb128, 5, none⟩ (.int .i64 t125)).setCell ⟨gb128, 6, none⟩ (.int .i64 t126))) := ⟨by repeat (first | (with_reducible first | exact HB.out | apply below_alloc | apply pw_below_drewN | apply below_drew1 | refine below_set ?_ GE128.out) | exact HB.out)⟩
               (try clear BK128)
               (try clear HB)
               generalize (((((((w24.setCell ⟨gb128, 0, none⟩ (.int .i64 t120)).setCell ⟨gb128, 1, none⟩ (.int .i64 t121)).setCell ⟨gb128, 2, none⟩ (.int .i64 t122)).setCell ⟨gb128, 3, none⟩ (.int .i64 t123)).setCell ⟨gb128, 4, none⟩ (.int .i64 t124)).setCell ⟨gb128, 5, none⟩ (.int .i64 t125)).setCell ⟨gb128, 6, none⟩ (.int .i64 t126)) = w26 at n0_ n1_ ⊢
               have BK128 := n0_
               have HB := n1_
               clear n0_ n1_
               have n0_ := Aside0.mk (blk_drew BK128.out)
               have n1_ := Aside0.mk (below_drew1 HB.out)
               clear BK128
               clear HB
               have BK128 := n0_
               have HB := n1_
               clear n0_ n1_
               have p6 : 0 ≤ (t126 : Int) := of_decide_eq_true (by first | (with_reducible assumption) | assumption)
               have q6 : (t126 : Int) < 7 := of_decide_eq_true (by first | (with_reducible assumption) | assumption)
               have hw6_0 : w.cell? ⟨0, (t126).toNat, none⟩ = some (.string (rdOf ByteArray.empty Tab0 t126)) := HG.out.t0 t126 p6 q6
               have hx6_0 := (HB.out.cell (World.block_lt_of_cell? w _ hw6_0)).trans hw6_0
               replace p6 := eq_true p6
               replace q6 := eq_true q6
               have p14 : 0 ≤ ((ji11) : Int) := of_decide_eq_true (by first | (with_reducible assumption) | assumption)
               have q14 : ((ji11) : Int) < 12 := of_decide_eq_true (by first | (with_reducible assumption) | assumption)
               have hw14_0 : w.cell? ⟨1, ((ji11)).toNat, none⟩ = some (.string (rdOf ByteArray.empty Tab1 (ji11))) := HG.out.t1 (ji11) p14 q14
               have hx14_0 := (HB.out.cell (World.block_lt_of_cell? w _ hw14_0)).trans hw14_0
               replace p14 := eq_true p14
               replace q14 := eq_true q14
               refine start_ (n := 27) (S := fun w' => w'.cell? ⟨gb128, 0, none⟩ = some (.int .i64 t120) ∧ w'.cell? ⟨gb128, 1, none⟩ = some (.int .i64 t121) ∧ w'.cell? ⟨gb128, 2, none⟩ = some (.int .i64 t122) ∧ w'.cell? ⟨gb128, 3, none⟩ = some (.int .i64 t123) ∧ w'.cell? ⟨gb128, 4, none⟩ = some (.int .i64 t124) ∧ w'.cell? ⟨gb128, 5, none⟩ = some (.int .i64 t125) ∧ w'.cell? ⟨gb128, 6, none⟩ = some (.int .i64 t126) ∧ w'.cell? ⟨0, (t126).toNat, none⟩ = some (.string (rdOf ByteArray.empty Tab0 t126)) ∧ w'.cell? ⟨1, ((ji11)).toNat, none⟩ = some (.string (rdOf ByteArray.empty Tab1 (ji11)))) (ds := []) #[ff,ff,ff,ff,ff,ff,ff,ff,ff,ff,ff,ff,ff,ff,ff,ff,ff,ff,ff,ff,ff,ff,ff,ff,ff,ff,ff] (by kernel_rfl) rfl rfl ⟨(blk_cell BK128.out 0).trans rfl, (blk_cell BK128.out 1).trans rfl, (blk_cell BK128.out 2).trans rfl, (blk_cell BK128.out 3).trans rfl, (blk_cell BK128.out 4).trans rfl, (blk_cell BK128.out 5).trans rfl, (blk_cell BK128.out 6).trans rfl, ((HB.out.cell (World.block_lt_of_cell? w _ hw6_0)).trans hw6_0), ((HB.out.cell (World.block_lt_of_cell? w _ hw14_0)).trans hw14_0)⟩ (fun hHeld => ?_); refine with_tabW date_Mail.tab4 date_Mail.bits4 (fun HT_ HW_ => ?_)
               generalize w26.drew = w27 at BK128 HB hx14_0 hx6_0 hHeld ⊢
               refine pure_ (i := 0) (N := some 12) (v := ?_) (a' := ?_) #[tt,ff,ff,ff,ff,ff,ff,ff,ff,ff,ff,ff,ff,ff,ff,ff,ff,ff,ff,ff,ff,ff,ff,ff,ff,ff,ff] rfl rfl (any_of HT_.out (by kernel_rfl)) (fun _ _ _ h => h) (Or.inl ⟨by rfl, ?_⟩) ?_ ?_
               rotate_left
               ·intro w'
                go_simp
                with_reducible rfl
               rotate_left
               ·simp only [Act.put, List.setIfInBounds_toArray, List.set_cons_zero, List.set_cons_succ, i64_w, i32_w]
                rfl
               refine pure_ (i := 5) (N := some 17) (v := ?_) (a' := ?_) #[tt,ff,ff,ff,ff,tt,ff,ff,ff,ff,ff,ff,ff,ff,ff,ff,ff,ff,ff,ff,ff,ff,ff,ff,ff,ff,ff] rfl rfl (any_of HT_.out (by kernel_rfl)) (fun _ _ _ h => h) (Or.inl ⟨by rfl, ?_⟩) ?_ ?_
               rotate_left
               ·intro w'
                go_simp
                with_reducible rfl
               rotate_left
               ·simp only [Act.put, List.setIfInBounds_toArray, List.set_cons_zero, List.set_cons_succ, i64_w, i32_w]
                rfl
               refine pure_ (i := 10) (N := some 22) (v := ?_) (a' := ?_) #[tt,ff,ff,ff,ff,tt,ff,ff,ff,ff,tt,ff,ff,ff,ff,ff,ff,ff,ff,ff,ff,ff,ff,ff,ff,ff,ff] rfl rfl (any_of HT_.out (by kernel_rfl)) (fun _ _ _ h => h) (Or.inl ⟨by rfl, ?_⟩) ?_ ?_
               rotate_left
               ·intro w'
                go_simp
                with_reducible rfl
               rotate_left
               ·simp only [Act.put, List.setIfInBounds_toArray, List.set_cons_zero, List.set_cons_succ, i64_w, i32_w]
                rfl
               refine pure_ (i := 17) (N := some 29) (v := ?_) (a' := ?_) #[tt,ff,ff,ff,ff,tt,ff,ff,ff,ff,tt,ff,ff,ff,ff,ff,ff,tt,ff,ff,ff,ff,ff,ff,ff,ff,ff] rfl rfl (any_of HT_.out (by kernel_rfl)) (fun _ _ _ h => h) (Or.inl ⟨by rfl, ?_⟩) ?_ ?_
               rotate_left
               ·intro w'
                go_simp
                with_reducible rfl
               rotate_left
               ·simp only [Act.put, List.setIfInBounds_toArray, List.set_cons_zero, List.set_cons_succ, i64_w, i32_w]
                rfl
               refine take_ (i := 1) (N := some 13) (v := ?_) (a' := ?_) #[tt,tt,ff,ff,ff,tt,ff,ff,ff,ff,tt,ff,ff,ff,ff,ff,ff,tt,ff,ff,ff,ff,ff,ff,ff,ff,ff] rfl rfl (take_ofW HT_.out HW_.out (by kernel_rfl)) (fun _ _ _ h => h) (Or.inl ⟨by rfl, ?_⟩) hHeld ?_ ?_
               rotate_left
               ·rintro w' ⟨s0, s1, s2, s3, s4, s5, s6, s7, s8⟩
                go_simp
                with_reducible rfl
               rotate_left
               ·simp only [Act.put, List.setIfInBounds_toArray, List.set_cons_zero, List.set_cons_succ, i64_w, i32_w]
                rfl
               refine pure_ (i := 2) (N := some 14) (v := ?_) (a' := ?_) #[tt,tt,tt,ff,ff,tt,ff,ff,ff,ff,tt,ff,ff,ff,ff,ff,ff,tt,ff,ff,ff,ff,ff,ff,ff,ff,ff] rfl rfl (any_of HT_.out (by kernel_rfl)) (fun _ _ _ h => h) (Or.inl ⟨by rfl, ?_⟩) ?_ ?_
               rotate_left
               ·intro w'
                go_simp
                with_reducible rfl
               rotate_left
               ·simp only [Act.put, List.setIfInBounds_toArray, List.set_cons_zero, List.set_cons_succ, i64_w, i32_w]
                rfl
               refine take_ (i := 3) (N := some 15) (v := ?_) (a' := ?_) #[tt,tt,tt,tt,ff,tt,ff,ff,ff,ff,tt,ff,ff,ff,ff,ff,ff,tt,ff,ff,ff,ff,ff,ff,ff,ff,ff] rfl rfl (take_ofW HT_.out HW_.out (by kernel_rfl)) (fun _ _ _ h => h) (Or.inl ⟨by rfl, ?_⟩) hHeld ?_ ?_
               rotate_left
               ·rintro w' ⟨s0, s1, s2, s3, s4, s5, s6, s7, s8⟩
                go_simp
                with_reducible rfl
               rotate_left
               ·simp only [Act.put, List.setIfInBounds_toArray, List.set_cons_zero, List.set_cons_succ, i64_w, i32_w]
                rfl
               refine pure_ (i := 4) (N := some 16) (v := ?_) (a' := ?_) #[tt,tt,tt,tt,tt,tt,ff,ff,ff,ff,tt,ff,ff,ff,ff,ff,ff,tt,ff,ff,ff,ff,ff,ff,ff,ff,ff] rfl rfl (any_of HT_.out (by kernel_rfl)) (fun _ _ _ h => h) (Or.inl ⟨by rfl, ?_⟩) ?_ ?_
               rotate_left
               ·intro w'
                go_simp
                with_reducible rfl
               rotate_left
               ·simp only [Act.put, List.setIfInBounds_toArray, List.set_cons_zero, List.set_cons_succ, i64_w, i32_w]
                rfl
               refine take_ (i := 6) (N := some 18) (v := ?_) (a' := ?_) #[tt,tt,tt,tt,tt,tt,tt,ff,ff,ff,tt,ff,ff,ff,ff,ff,ff,tt,ff,ff,ff,ff,ff,ff,ff,ff,ff] rfl rfl (take_ofW HT_.out HW_.out (by kernel_rfl)) (fun _ _ _ h => h) (Or.inl ⟨by rfl, ?_⟩) hHeld ?_ ?_
               rotate_left
               ·rintro w' ⟨s0, s1, s2, s3, s4, s5, s6, s7, s8⟩
                go_simp
                with_reducible rfl
               rotate_left
               ·simp only [Act.put, List.setIfInBounds_toArray, List.set_cons_zero, List.set_cons_succ, i64_w, i32_w]
                rfl
               refine take_ (i := 11) (N := some 23) (v := ?_) (a' := ?_) #[tt,tt,tt,tt,tt,tt,tt,ff,ff,ff,tt,tt,ff,ff,ff,ff,ff,tt,ff,ff,ff,ff,ff,ff,ff,ff,ff] rfl rfl (take_ofW HT_.out HW_.out (by kernel_rfl)) (fun _ _ _ h => h) (Or.inl ⟨by rfl, ?_⟩) hHeld ?_ ?_
               rotate_left
               ·rintro w' ⟨s0, s1, s2, s3, s4, s5, s6, s7, s8⟩
                go_simp
                with_reducible rfl
               rotate_left
               ·simp only [Act.put, List.setIfInBounds_toArray, List.set_cons_zero, List.set_cons_succ, i64_w, i32_w]
                rfl
               refine pure_ (i := 12) (N := some 24) (v := ?_) (a' := ?_) #[tt,tt,tt,tt,tt,tt,tt,ff,ff,ff,tt,tt,tt,ff,ff,ff,ff,tt,ff,ff,ff,ff,ff,ff,ff,ff,ff] rfl rfl (any_of HT_.out (by kernel_rfl)) (fun _ _ _ h => h) (Or.inl ⟨by rfl, ?_⟩) ?_ ?_
               rotate_left
               ·intro w'
                go_simp
                with_reducible rfl
               rotate_left
               ·simp only [Act.put, List.setIfInBounds_toArray, List.set_cons_zero, List.set_cons_succ, i64_w, i32_w]
                rfl
               refine pure_ (i := 13) (N := some 25) (v := ?_) (a' := ?_) #[tt,tt,tt,tt,tt,tt,tt,ff,ff,ff,tt,tt,tt,tt,ff,ff,ff,tt,ff,ff,ff,ff,ff,ff,ff,ff,ff] rfl rfl (any_of HT_.out (by kernel_rfl)) (fun _ _ _ h => h) (Or.inl ⟨by rfl, ?_⟩) ?_ ?_
               rotate_left
               ·intro w'
                go_simp
                with_reducible rfl
               rotate_left
               ·simp only [Act.put, List.setIfInBounds_toArray, List.set_cons_zero, List.set_cons_succ, i64_w, i32_w]
                rfl
               refine take_ (i := 14) (N := some 26) (v := ?_) (a' := ?_) #[tt,tt,tt,tt,tt,tt,tt,ff,ff,ff,tt,tt,tt,tt,tt,ff,ff,tt,ff,ff,ff,ff,ff,ff,ff,ff,ff] rfl rfl (take_ofW HT_.out HW_.out (by kernel_rfl)) (fun _ _ _ h => h) (Or.inl ⟨by rfl, ?_⟩) hHeld ?_ ?_
               rotate_left
               ·rintro w' ⟨s0, s1, s2, s3, s4, s5, s6, s7, s8⟩
                go_simp
                with_reducible rfl
               rotate_left
               ·simp only [Act.put, List.setIfInBounds_toArray, List.set_cons_zero, List.set_cons_succ, i64_w, i32_w]
                rfl
               refine take_ (i := 18) (N := some 30) (v := ?_) (a' := ?_) #[tt,tt,tt,tt,tt,tt,tt,ff,ff,ff,tt,tt,tt,tt,tt,ff,ff,tt,tt,ff,ff,ff,ff,ff,ff,ff,ff] rfl rfl (take_ofW HT_.out HW_.out (by kernel_rfl)) (fun _ _ _ h => h) (Or.inl ⟨by rfl, ?_⟩) hHeld ?_ ?_
               rotate_left
               ·rintro w' ⟨s0, s1, s2, s3, s4, s5, s6, s7, s8⟩
                go_simp
                with_reducible rfl
               rotate_left
               ·simp only [Act.put, List.setIfInBounds_toArray, List.set_cons_zero, List.set_cons_succ, i64_w, i32_w]
                rfl
               refine take_ (i := 22) (N := some 34) (v := ?_) (a' := ?_) #[tt,tt,tt,tt,tt,tt,tt,ff,ff,ff,tt,tt,tt,tt,tt,ff,ff,tt,tt,ff,ff,ff,tt,ff,ff,ff,ff] rfl rfl (take_ofW HT_.out HW_.out (by kernel_rfl)) (fun _ _ _ h => h) (Or.inl ⟨by rfl, ?_⟩) hHeld ?_ ?_
               rotate_left
               ·rintro w' ⟨s0, s1, s2, s3, s4, s5, s6, s7, s8⟩
                go_simp
                with_reducible rfl
               rotate_left
               ·simp only [Act.put, List.setIfInBounds_toArray, List.set_cons_zero, List.set_cons_succ, i64_w, i32_w]
                rfl
               refine one_ (i := 7) (N := some 19) #[tt,tt,tt,tt,tt,tt,tt,tt,ff,ff,tt,tt,tt,tt,tt,ff,ff,tt,tt,ff,ff,ff,tt,ff,ff,ff,ff] rfl rfl (one_of HT_.out (by kernel_rfl)) (by decide) (fun K hK => ?_)
               refine goes_ Tryd.func21 (by kernel_rfl) rfl #[.int .i64 t122] (by rfl) rfl rfl (by (try simp only [List.map_toArray, List.map_cons, List.map_nil]); first | done | rfl | (simp only [List.length_drop, List.length_take]; rfl)) ?_
               with_reducible refine (strconv_Itoa.calls t122 t129 _ ?side1 A8.out).mono ?_
               (case side1 => exact Amb.at HG.out (by repeat (first | (with_reducible first | exact HB.out | apply below_alloc | apply pw_below_drewN | apply below_drew1 | refine below_set ?_ GE128.out) | exact HB.out)))
               rintro e w28 ⟨rfl, hb⟩
               refine ⟨_, rfl, ?_⟩
               have n0_ := Aside0.mk (blk_below (g := gb128) (o := .cells #[.int .i64 t120, .int .i64 t121, .int .i64 t122, .int .i64 t123, .int .i64 t124, .int .i64 t125, .int .i64 t126] 33 (0, 0)) (by (with_reducible repeat (first | refine blk_drewN ?_ _ | refine blk_drew ?_ | refine blk_alloc ?_ _)); exact BK128.out) hb)
               have n1_ := Aside0.mk (below_step (by repeat (first | (with_reducible first | exact HB.out | apply below_alloc | apply pw_below_drewN | apply below_drew1 | refine below_set ?_ GE128.out) | exact HB.out)) hb)
               clear BK128
               clear HB
               have BK128 := n0_
               have HB := n1_
               clear n0_ n1_
               (try clear hb)
               (try clear hb2)
               (try clear hk)
               (try clear hi)
               refine hK.out _ _ ⟨(blk_cell BK128.out 0).trans rfl, (blk_cell BK128.out 1).trans rfl, (blk_cell BK128.out 2).trans rfl, (blk_cell BK128.out 3).trans rfl, (blk_cell BK128.out 4).trans rfl, (blk_cell BK128.out 5).trans rfl, (blk_cell BK128.out 6).trans rfl, ((HB.out.cell (World.block_lt_of_cell? w _ hw6_0)).trans hw6_0), ((HB.out.cell (World.block_lt_of_cell? w _ hw14_0)).trans hw14_0)⟩ (fun hHeld => ?_)
               clear hK K
               refine norm_ (a' := ?_) ?_ ?_
               rotate_left
               ·show Act.put _ (some 19) _ = _
                simp only [Act.put, List.setIfInBounds_toArray, List.set_cons_zero, List.set_cons_succ, i64_w, i32_w]
                rfl
               refine pure_ (i := 8) (N := some 20) (v := ?_) (a' := ?_) #[tt,tt,tt,tt,tt,tt,tt,tt,tt,ff,tt,tt,tt,tt,tt,ff,ff,tt,tt,ff,ff,ff,tt,ff,ff,ff,ff] rfl rfl (any_of HT_.out (by kernel_rfl)) (fun _ _ _ h => h) (Or.inl ⟨by rfl, ?_⟩) ?_ ?_
               rotate_left
               ·intro w'
                go_simp
                with_reducible rfl
               rotate_left
               ·simp only [Act.put, List.setIfInBounds_toArray, List.set_cons_zero, List.set_cons_succ, i64_w, i32_w]
                rfl
               refine pure_ (i := 9) (N := some 21) (v := ?_) (a' := ?_) #[tt,tt,tt,tt,tt,tt,tt,tt,tt,tt,tt,tt,tt,tt,tt,ff,ff,tt,tt,ff,ff,ff,tt,ff,ff,ff,ff] rfl rfl (any_of HT_.out (by kernel_rfl)) (fun _ _ _ h => h) (Or.inl ⟨by rfl, ?_⟩) ?_ ?_
               rotate_left
               ·intro w'
                go_simp
                with_reducible rfl
               rotate_left
               ·simp only [Act.put, List.setIfInBounds_toArray, List.set_cons_zero, List.set_cons_succ, i64_w, i32_w]
                rfl
               refine pure_ (i := 15) (N := some 27) (v := ?_) (a' := ?_) #[tt,tt,tt,tt,tt,tt,tt,tt,tt,tt,tt,tt,tt,tt,tt,tt,ff,tt,tt,ff,ff,ff,tt,ff,ff,ff,ff] rfl rfl (any_of HT_.out (by kernel_rfl)) (fun _ _ _ h => h) (Or.inl ⟨by rfl, ?_⟩) ?_ ?_
               rotate_left
               ·intro w'
                go_simp
                with_reducible rfl
               rotate_left
               ·simp only [Act.put, List.setIfInBounds_toArray, List.set_cons_zero, List.set_cons_succ, i64_w, i32_w]
                rfl
               refine pure_ (i := 16) (N := some 28) (v := ?_) (a' := ?_) #[tt,tt,tt,tt,tt,tt,tt,tt,tt,tt,tt,tt,tt,tt,tt,tt,tt,tt,tt,ff,ff,ff,tt,ff,ff,ff,ff] rfl rfl (any_of HT_.out (by kernel_rfl)) (fun _ _ _ h => h) (Or.inl ⟨by rfl, ?_⟩) ?_ ?_
               rotate_left
               ·intro w'
                go_simp
                with_reducible rfl
               rotate_left
               ·simp only [Act.put, List.setIfInBounds_toArray, List.set_cons_zero, List.set_cons_succ, i64_w, i32_w]
                rfl
               refine one_ (i := 19) (N := some 31) #[tt,tt,tt,tt,tt,tt,tt,tt,tt,tt,tt,tt,tt,tt,tt,tt,tt,tt,tt,tt,ff,ff,tt,ff,ff,ff,ff] rfl rfl (one_of HT_.out (by kernel_rfl)) (by decide) (fun K hK => ?_)
               refine goes_ Tryd.func21 (by kernel_rfl) rfl #[.int .i64 t120] (by rfl) rfl rfl (by (try simp only [List.map_toArray, List.map_cons, List.map_nil]); first | done | rfl | (simp only [List.length_drop, List.length_take]; rfl)) ?_
               with_reducible refine (strconv_Itoa.calls t120 t130 _ ?side1 A17.out).mono ?_
               (case side1 => exact Amb.at HG.out (by repeat (first | (with_reducible first | exact HB.out | apply below_alloc | apply pw_below_drewN | apply below_drew1 | refine below_set ?_ GE128.out) | exact HB.out)))
               rintro e w29 ⟨rfl, hb⟩
               refine ⟨_, rfl, ?_⟩
               have n0_ := Aside0.mk (blk_below (g := gb128) (o := .cells #[.int .i64 t120, .int .i64 t121, .int .i64 t122, .int .i64 t123, .int .i64 t124, .int .i64 t125, .int .i64 t126] 33 (0, 0)) (by (with_reducible repeat (first | refine blk_drewN ?_ _ | refine blk_drew ?_ | refine blk_alloc ?_ _)); exact BK128.out) hb)
               have n1_ := Aside0.mk (below_step (by repeat (first | (with_reducible first | exact HB.out | apply below_alloc | apply pw_below_drewN | apply below_drew1 | refine below_set ?_ GE128.out) | exact HB.out)) hb)
               clear BK128
               clear HB
               have BK128 := n0_
               have HB := n1_
               clear n0_ n1_
               (try clear hb)
               (try clear hb2)
               (try clear hk)
               (try clear hi)
               refine hK.out _ _ ⟨(blk_cell BK128.out 0).trans rfl, (blk_cell BK128.out 1).trans rfl, (blk_cell BK128.out 2).trans rfl, (blk_cell BK128.out 3).trans rfl, (blk_cell BK128.out 4).trans rfl, (blk_cell BK128.out 5).trans rfl, (blk_cell BK128.out 6).trans rfl, ((HB.out.cell (World.block_lt_of_cell? w _ hw6_0)).trans hw6_0), ((HB.out.cell (World.block_lt_of_cell? w _ hw14_0)).trans hw14_0)⟩ (fun hHeld => ?_)
               clear hK K
               refine norm_ (a' := ?_) ?_ ?_
               rotate_left
               ·show Act.put _ (some 31) _ = _
                simp only [Act.put, List.setIfInBounds_toArray, List.set_cons_zero, List.set_cons_succ, i64_w, i32_w]
                rfl
               refine pure_ (i := 20) (N := some 32) (v := ?_) (a' := ?_) #[tt,tt,tt,tt,tt,tt,tt,tt,tt,tt,tt,tt,tt,tt,tt,tt,tt,tt,tt,tt,tt,ff,tt,ff,ff,ff,ff] rfl rfl (any_of HT_.out (by kernel_rfl)) (fun _ _ _ h => h) (Or.inl ⟨by rfl, ?_⟩) ?_ ?_
               rotate_left
               ·intro w'
                go_simp
                with_reducible rfl
               rotate_left
               ·simp only [Act.put, List.setIfInBounds_toArray, List.set_cons_zero, List.set_cons_succ, i64_w, i32_w]
                rfl
               refine pure_ (i := 21) (N := some 33) (v := ?_) (a' := ?_) #[tt,tt,tt,tt,tt,tt,tt,tt,tt,tt,tt,tt,tt,tt,tt,tt,tt,tt,tt,tt,tt,tt,tt,ff,ff,ff,ff] rfl rfl (any_of HT_.out (by kernel_rfl)) (fun _ _ _ h => h) (Or.inl ⟨by rfl, ?_⟩) ?_ ?_
               rotate_left
               ·intro w'
                go_simp
                with_reducible rfl
               rotate_left
               ·simp only [Act.put, List.setIfInBounds_toArray, List.set_cons_zero, List.set_cons_succ, i64_w, i32_w]
                rfl
               refine one_ (i := 23) (N := some 35) #[tt,tt,tt,tt,tt,tt,tt,tt,tt,tt,tt,tt,tt,tt,tt,tt,tt,tt,tt,tt,tt,tt,tt,tt,ff,ff,ff] rfl rfl (one_of HT_.out (by kernel_rfl)) (by decide) (fun K hK => ?_)
               refine goes_ Tryd.func22 (by kernel_rfl) rfl #[.agg #[.int .i64 t120, .int .i64 t121, .int .i64 t122, .int .i64 t123, .int .i64 t124, .int .i64 t125, .int .i64 t126]] (by rfl) rfl rfl (by (try simp only [List.map_toArray, List.map_cons, List.map_nil]); first | done | rfl | (simp only [List.length_drop, List.length_take]; rfl)) ?_
               with_reducible refine (date_clock.calls t120 t121 t122 t123 t124 t125 t126 t131 _ A20.out).mono ?_
               rintro e w30 ⟨rfl, hb⟩
               refine ⟨_, rfl, ?_⟩
               have n0_ := Aside0.mk (blk_below (g := gb128) (o := .cells #[.int .i64 t120, .int .i64 t121, .int .i64 t122, .int .i64 t123, .int .i64 t124, .int .i64 t125, .int .i64 t126] 33 (0, 0)) (by (with_reducible repeat (first | refine blk_drewN ?_ _ | refine blk_drew ?_ | refine blk_alloc ?_ _)); exact BK128.out) hb)
               have n1_ := Aside0.mk (below_step (by repeat (first | (with_reducible first | exact HB.out | apply below_alloc | apply pw_below_drewN | apply below_drew1 | refine below_set ?_ GE128.out) | exact HB.out)) hb)
               clear BK128
               clear HB
               have BK128 := n0_
               have HB := n1_
               clear n0_ n1_
               (try clear hb)
               (try clear hb2)
               (try clear hk)
               (try clear hi)
               refine hK.out _ _ ⟨(blk_cell BK128.out 0).trans rfl, (blk_cell BK128.out 1).trans rfl, (blk_cell BK128.out 2).trans rfl, (blk_cell BK128.out 3).trans rfl, (blk_cell BK128.out 4).trans rfl, (blk_cell BK128.out 5).trans rfl, (blk_cell BK128.out 6).trans rfl, ((HB.out.cell (World.block_lt_of_cell? w _ hw6_0)).trans hw6_0), ((HB.out.cell (World.block_lt_of_cell? w _ hw14_0)).trans hw14_0)⟩ (fun hHeld => ?_)
               clear hK K
               refine norm_ (a' := ?_) ?_ ?_
               rotate_left
               ·show Act.put _ (some 35) _ = _
                simp only [Act.put, List.setIfInBounds_toArray, List.set_cons_zero, List.set_cons_succ, i64_w, i32_w]
                rfl
               refine pure_ (i := 24) (N := some 36) (v := ?_) (a' := ?_) #[tt,tt,tt,tt,tt,tt,tt,tt,tt,tt,tt,tt,tt,tt,tt,tt,tt,tt,tt,tt,tt,tt,tt,tt,tt,ff,ff] rfl rfl (any_of HT_.out (by kernel_rfl)) (fun _ _ _ h => h) (Or.inl ⟨by rfl, ?_⟩) ?_ ?_
               rotate_left
               ·intro w'
                go_simp
                with_reducible rfl
               rotate_left
               ·simp only [Act.put, List.setIfInBounds_toArray, List.set_cons_zero, List.set_cons_succ, i64_w, i32_w]
                rfl
               refine pure_ (i := 25) (N := some 37) (v := ?_) (a' := ?_) #[tt,tt,tt,tt,tt,tt,tt,tt,tt,tt,tt,tt,tt,tt,tt,tt,tt,tt,tt,tt,tt,tt,tt,tt,tt,tt,ff] rfl rfl (any_of HT_.out (by kernel_rfl)) (fun _ _ _ h => h) (Or.inl ⟨by rfl, ?_⟩) ?_ ?_
               rotate_left
               ·intro w'
                go_simp
                with_reducible rfl
               rotate_left
               ·simp only [Act.put, List.setIfInBounds_toArray, List.set_cons_zero, List.set_cons_succ, i64_w, i32_w]
                rfl
               refine pure_ (i := 26) (N := some 2) (v := ?_) (a' := ?_) #[tt,tt,tt,tt,tt,tt,tt,tt,tt,tt,tt,tt,tt,tt,tt,tt,tt,tt,tt,tt,tt,tt,tt,tt,tt,tt,tt] rfl rfl (any_of HT_.out (by kernel_rfl)) (fun _ _ _ h => h) (Or.inl ⟨by rfl, ?_⟩) ?_ ?_
               rotate_left
               ·intro w'
                go_simp
                with_reducible rfl
               rotate_left
               ·simp only [Act.put, List.setIfInBounds_toArray, List.set_cons_zero, List.set_cons_succ, i64_w, i32_w]
                rfl
               refine done_ (done_of HT_.out (by kernel_rfl)) ?_
               try go_wp2
               go_ret
               exact ⟨by first | rfl | (simp [errW_none, errW_some] <;> rfl) | (simp only [← hji11]; first | rfl | (simp [errW_none, errW_some] <;> rfl)) | (simp [*, errW_none, errW_some] <;> rfl), by repeat (first | (with_reducible first | exact HB.out | apply below_alloc | apply pw_below_drewN | apply below_drew1 | refine below_set ?_ GE128.out) | exact HB.out)⟩
              ·rw [if_neg c22] at H
               exact absurd H (by simp)
             ·rw [if_neg c21] at H
              exact absurd H (by simp)
            ·rw [if_neg c19] at H
             exact absurd H (by simp)
           ·rw [if_neg c18] at H
            exact absurd H (by simp)
          ·rw [if_neg c16] at H
           exact absurd H (by simp)
         ·rw [if_neg c15] at H
          exact absurd H (by simp)
        ·rw [if_neg c13] at H
         exact absurd H (by simp)
       ·rw [if_neg c12] at H
        exact absurd H (by simp)
      ·rw [if_neg c10] at H
       exact absurd H (by simp)
     ·rw [if_neg c9] at H
      exact absurd H (by simp)
    ·rw [if_neg c7] at H
     exact absurd H (by simp)
   ·rw [if_neg c5] at H
    exact absurd H (by simp)
  ·rw [if_neg c4] at H
   exact absurd H (by simp)
 ·replace c3 := Bool.eq_false_iff.mpr c3
  subst c3
  have H1 : (some (⟨#[]⟩ : ByteArray)) = some r := by rw [if_neg (show ¬ (false = true) by decide)] at H; exact H
  clear H
  have H := H1
  clear H1
  obtain rfl := Option.some.inj H
  go_enter Tryd.func8, Tryd.ntmps8
  go_wp2_with (first | ((with_reducible refine gate_callee (f := 15) rfl ?_); refine goesL_ (some 7) rfl rfl Tryd.func15 (by kernel_rfl) rfl #[.int .i64 a0] rfl (by (try simp only [List.map_toArray, List.map_cons, List.map_nil]); first | done | rfl | (simp only [List.length_drop, List.length_take]; rfl)) ?_; (with_reducible refine (date_Of.calls k a0 t120 t121 t122 t123 t124 t125 t126 false _ ?side1 A2.out).mono ?_); (case side1 => exact Amb.at HG.out (by repeat (first | (with_reducible first | exact HB.out | apply below_alloc | apply pw_below_drewN | apply below_drew1) | exact HB.out))); rintro e w31 ⟨rfl, hb⟩; refine ⟨_, rfl, ?_⟩; have n0_ := Aside0.mk (below_step (by repeat (first | (with_reducible first | exact HB.out | apply below_alloc | apply pw_below_drewN | apply below_drew1) | exact HB.out)) hb); clear HB; have HB := n0_; clear n0_; (try clear hb); (try clear hb2); (try clear hk); (try clear hi)) | ((with_reducible refine gate_dst (N := 3) rfl ?_); refine box_event ?hg (N := 3) ?hd (cs := #[.int .i64 0, .int .i64 0, .int .i64 0, .int .i64 0, .int .i64 0, .int .i64 0, .int .i64 0]) (t := 33) ?hr ?_; (case hd => rfl); (case hg => rfl); (case hr => first | (go_simp; done) | (go_simp; rfl)); intro gb128 hg w32 hbox hb; have n0_ := Aside0.mk (below_step (by repeat (first | (with_reducible first | exact HB.out | apply below_alloc | apply pw_below_drewN | apply below_drew1) | exact HB.out)) hb); have n1_ := Aside0.mk (hbox); have n2_ := Aside0.mk ((by rw [hg]; exact (below_size (by repeat (first | (with_reducible first | exact HB.out | apply below_alloc | apply pw_below_drewN | apply below_drew1) | exact HB.out))) : w.heap.size ≤ gb128)); have n3_ := Aside0.mk ((by rw [hg]; exact (below_size (by repeat (first | (with_reducible first | exact HB.out | apply below_alloc | apply pw_below_drewN | apply below_drew1) | exact HB.out))) : w.heap.size ≤ gb128)); clear HB; have HB := n0_; have BK128 := n1_; have GW128 := n2_; have GE128 := n3_; clear n0_ n1_ n2_ n3_; clear hb hbox hg; have hcz33_0 : w32.cell? ⟨gb128, 0, none⟩ = some (.int .i64 0) := (blk_cell BK128.out 0).trans rfl; have hcz33_1 : w32.cell? ⟨gb128, 1, none⟩ = some (.int .i64 0) := (blk_cell BK128.out 1).trans rfl; have hcz33_2 : w32.cell? ⟨gb128, 2, none⟩ = some (.int .i64 0) := (blk_cell BK128.out 2).trans rfl; have hcz33_3 : w32.cell? ⟨gb128, 3, none⟩ = some (.int .i64 0) := (blk_cell BK128.out 3).trans rfl; have hcz33_4 : w32.cell? ⟨gb128, 4, none⟩ = some (.int .i64 0) := (blk_cell BK128.out 4).trans rfl; have hcz33_5 : w32.cell? ⟨gb128, 5, none⟩ = some (.int .i64 0) := (blk_cell BK128.out 5).trans rfl; have hcz33_6 : w32.cell? ⟨gb128, 6, none⟩ = some (.int .i64 0) := (blk_cell BK128.out 6).trans rfl; have hfz33_0 := blk_frozen BK128.out 0; have hfz33_1 := blk_frozen BK128.out 1; have hfz33_2 := blk_frozen BK128.out 2; have hfz33_3 := blk_frozen BK128.out 3; have hfz33_4 := blk_frozen BK128.out 4; have hfz33_5 := blk_frozen BK128.out 5; have hfz33_6 := blk_frozen BK128.out 6))
  go_ret
  exact ⟨by first | rfl | (simp [errW_none, errW_some] <;> rfl) | (simp [*, errW_none, errW_some] <;> rfl), by repeat (first | (with_reducible first | exact HB.out | apply below_alloc | apply pw_below_drewN | apply below_drew1 | refine below_set ?_ GE128.out) | exact HB.out)⟩

end Go.Proofs.YtocdojegoakmoaaDoor.Z
