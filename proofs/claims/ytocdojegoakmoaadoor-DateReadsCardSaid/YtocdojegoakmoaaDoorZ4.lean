-- Written by a program of this session (wip/myprint) out of the translation, for YtocdojegoakmoaaDoor.
import Derived.Test.YtocdojegoakmoaaDoorZ0
import Derived.Test.YtocdojegoakmoaaDoorZ2
namespace Go.Proofs.YtocdojegoakmoaaDoor.Z
open Go.RowKit Go.Proofs.YtocdojegoakmoaaDoorW.PrintWords Go.Proofs.YtocdojegoakmoaaDoorW.PrintLast Go.Proofs.YtocdojegoakmoaaDoorW.PrintMore
attribute [local go_sem] max2_int min2_int max_two min_two max_three min_three max_four min_four   -- for this text's walks alone
set_option linter.unusedVariables false
set_option linter.unusedSimpArgs false

/-! ### date_Line: function 10 -/
def date_Line.f (k : Nat) (a0 : Int) : Option (ByteArray) := (date_Of.f k a0).bind fun bt132 => (if bt132.2.2.2.2.2.2.2 = true then ((strconv_Itoa.f bt132.2.2.1).bind fun t141 => (if bt132.2.2.1 < 10 then (if 1 + t141.size ≤ 9223372036854775807 then (if 0 ≤ bt132.2.2.2.2.2.2.1 then (if bt132.2.2.2.2.2.2.1 < 7 then (if (rdOf ByteArray.empty Tab0 bt132.2.2.2.2.2.2.1).size + 1 ≤ 9223372036854775807 then (if 0 ≤ (wrap64 (bt132.2.1 - 1)) then (if (wrap64 (bt132.2.1 - 1)) < 12 then (if (rdOf ByteArray.empty Tab0 bt132.2.2.2.2.2.2.1).size + 1 + (rdOf ByteArray.empty Tab1 (wrap64 (bt132.2.1 - 1))).size ≤ 9223372036854775807 then (if (rdOf ByteArray.empty Tab0 bt132.2.2.2.2.2.2.1).size + 1 + (rdOf ByteArray.empty Tab1 (wrap64 (bt132.2.1 - 1))).size + 1 ≤ 9223372036854775807 then (if (rdOf ByteArray.empty Tab0 bt132.2.2.2.2.2.2.1).size + 1 + (rdOf ByteArray.empty Tab1 (wrap64 (bt132.2.1 - 1))).size + 1 + (1 + t141.size) ≤ 9223372036854775807 then (if (rdOf ByteArray.empty Tab0 bt132.2.2.2.2.2.2.1).size + 1 + (rdOf ByteArray.empty Tab1 (wrap64 (bt132.2.1 - 1))).size + 1 + (1 + t141.size) + 1 ≤ 9223372036854775807 then ((date_clock.f bt132.1 bt132.2.1 bt132.2.2.1 bt132.2.2.2.1 bt132.2.2.2.2.1 bt132.2.2.2.2.2.1 bt132.2.2.2.2.2.2.1).bind fun t142 => (if (rdOf ByteArray.empty Tab0 bt132.2.2.2.2.2.2.1).size + 1 + (rdOf ByteArray.empty Tab1 (wrap64 (bt132.2.1 - 1))).size + 1 + (1 + t141.size) + 1 + t142.size ≤ 9223372036854775807 then (if (rdOf ByteArray.empty Tab0 bt132.2.2.2.2.2.2.1).size + 1 + (rdOf ByteArray.empty Tab1 (wrap64 (bt132.2.1 - 1))).size + 1 + (1 + t141.size) + 1 + t142.size + 1 ≤ 9223372036854775807 then ((strconv_Itoa.f bt132.1).bind fun t143 => (if (rdOf ByteArray.empty Tab0 bt132.2.2.2.2.2.2.1).size + 1 + (rdOf ByteArray.empty Tab1 (wrap64 (bt132.2.1 - 1))).size + 1 + (1 + t141.size) + 1 + t142.size + 1 + t143.size ≤ 9223372036854775807 then (some (((((((((rdOf ByteArray.empty Tab0 bt132.2.2.2.2.2.2.1) ++ (⟨#[32]⟩ : ByteArray)) ++ (rdOf ByteArray.empty Tab1 (wrap64 (bt132.2.1 - 1)))) ++ (⟨#[32]⟩ : ByteArray)) ++ ((⟨#[32]⟩ : ByteArray) ++ t141)) ++ (⟨#[32]⟩ : ByteArray)) ++ t142) ++ (⟨#[32]⟩ : ByteArray)) ++ t143)) else (none))) else (none)) else (none))) else (none)) else (none)) else (none)) else (none)) else (none)) else (none)) else (none)) else (none)) else (none)) else (none)) else (if 0 ≤ bt132.2.2.2.2.2.2.1 then (if bt132.2.2.2.2.2.2.1 < 7 then (if (rdOf ByteArray.empty Tab0 bt132.2.2.2.2.2.2.1).size + 1 ≤ 9223372036854775807 then (if 0 ≤ (wrap64 (bt132.2.1 - 1)) then (if (wrap64 (bt132.2.1 - 1)) < 12 then (if (rdOf ByteArray.empty Tab0 bt132.2.2.2.2.2.2.1).size + 1 + (rdOf ByteArray.empty Tab1 (wrap64 (bt132.2.1 - 1))).size ≤ 9223372036854775807 then (if (rdOf ByteArray.empty Tab0 bt132.2.2.2.2.2.2.1).size + 1 + (rdOf ByteArray.empty Tab1 (wrap64 (bt132.2.1 - 1))).size + 1 ≤ 9223372036854775807 then (if (rdOf ByteArray.empty Tab0 bt132.2.2.2.2.2.2.1).size + 1 + (rdOf ByteArray.empty Tab1 (wrap64 (bt132.2.1 - 1))).size + 1 + t141.size ≤ 9223372036854775807 then (if (rdOf ByteArray.empty Tab0 bt132.2.2.2.2.2.2.1).size + 1 + (rdOf ByteArray.empty Tab1 (wrap64 (bt132.2.1 - 1))).size + 1 + t141.size + 1 ≤ 9223372036854775807 then ((date_clock.f bt132.1 bt132.2.1 bt132.2.2.1 bt132.2.2.2.1 bt132.2.2.2.2.1 bt132.2.2.2.2.2.1 bt132.2.2.2.2.2.2.1).bind fun t144 => (if (rdOf ByteArray.empty Tab0 bt132.2.2.2.2.2.2.1).size + 1 + (rdOf ByteArray.empty Tab1 (wrap64 (bt132.2.1 - 1))).size + 1 + t141.size + 1 + t144.size ≤ 9223372036854775807 then (if (rdOf ByteArray.empty Tab0 bt132.2.2.2.2.2.2.1).size + 1 + (rdOf ByteArray.empty Tab1 (wrap64 (bt132.2.1 - 1))).size + 1 + t141.size + 1 + t144.size + 1 ≤ 9223372036854775807 then ((strconv_Itoa.f bt132.1).bind fun t145 => (if (rdOf ByteArray.empty Tab0 bt132.2.2.2.2.2.2.1).size + 1 + (rdOf ByteArray.empty Tab1 (wrap64 (bt132.2.1 - 1))).size + 1 + t141.size + 1 + t144.size + 1 + t145.size ≤ 9223372036854775807 then (some (((((((((rdOf ByteArray.empty Tab0 bt132.2.2.2.2.2.2.1) ++ (⟨#[32]⟩ : ByteArray)) ++ (rdOf ByteArray.empty Tab1 (wrap64 (bt132.2.1 - 1)))) ++ (⟨#[32]⟩ : ByteArray)) ++ t141) ++ (⟨#[32]⟩ : ByteArray)) ++ t144) ++ (⟨#[32]⟩ : ByteArray)) ++ t145)) else (none))) else (none)) else (none))) else (none)) else (none)) else (none)) else (none)) else (none)) else (none)) else (none)) else (none)) else (none)))) else (some (⟨#[]⟩ : ByteArray)))
theorem date_Line.mono : ∀ a0 k, LeO (date_Line.f k a0) (date_Line.f (k + 1) a0) := by
 intro a0 k
 unfold date_Line.f
 repeat' first
   | (with_reducible exact date_Of.mono _ _)
   | (with_reducible exact LeO.refl _)
   | (with_reducible exact LeO.none _)
   | (with_reducible refine LeO.ite ?_ ?_)
   | (with_reducible refine LeO.bind ?_ (fun _ => ?_))
   | exact date_Of.mono _ _
   | exact LeO.none _
   | refine LeO.ite ?_ ?_
   | refine LeO.bind ?_ (fun _ => ?_)
def date_Line.T7 : Bool × List (List Nat × List Nat) := (true, [([], []), ([0], [0]), ([1], [1]), ([2], [2]), ([3], [3]), ([], []), ([5], [5]), ([6], [6]), ([7], [7]), ([8], [8]), ([4, 9], [4, 9]), ([10], [10]), ([], []), ([11, 12], [11, 12]), ([13], [13]), ([], []), ([15], [15]), ([14, 16], [14, 16]), ([17], [17]), ([], []), ([19], [19]), ([20, 16], [20]), ([18, 21], [18, 21]), ([22, 21, 0, 1, 2, 3, 4, 5, 6, 7, 8, 9, 10, 11, 12, 13, 14, 15, 16, 17, 18, 19, 20, 21, 22], [22])])
def date_Line.B7 : List Nat := [0, 1, 3, 7, 15, 0, 32, 96, 224, 480, 1023, 2047, 0, 8191, 16383, 0, 32768, 131071, 262143, 0, 524288, 1671168, 4194303, 8388607]
theorem date_Line.tab7 : rtab .any (opsOf Tryd.f10 7) = date_Line.T7 := by kernel_rfl
theorem date_Line.bits7 : waitsOk date_Line.T7.2 date_Line.B7 = true := by kernel_rfl
set_option maxHeartbeats 8000000 in
set_option maxRecDepth 100000 in
theorem date_Line.calls (k : Nat) (a0 : Int) (r : ByteArray) (w : World) (hG : Amb w) (h : date_Line.f k a0 = some r) :
  Calls Tryd.prog 10 #[.int .i64 a0] w fun e w' => e = .returned (.string r) ∧ Below w.heap.size w w' := by
 have hu33 := Tryd.underlying33
 have HB := Aside0.mk (Below.refl w.heap.size w)
 have H : ((date_Of.f k a0).bind fun bt132 => (if bt132.2.2.2.2.2.2.2 = true then ((strconv_Itoa.f bt132.2.2.1).bind fun t141 => (if bt132.2.2.1 < 10 then (if 1 + t141.size ≤ 9223372036854775807 then (if 0 ≤ bt132.2.2.2.2.2.2.1 then (if bt132.2.2.2.2.2.2.1 < 7 then (if (rdOf ByteArray.empty Tab0 bt132.2.2.2.2.2.2.1).size + 1 ≤ 9223372036854775807 then (if 0 ≤ (wrap64 (bt132.2.1 - 1)) then (if (wrap64 (bt132.2.1 - 1)) < 12 then (if (rdOf ByteArray.empty Tab0 bt132.2.2.2.2.2.2.1).size + 1 + (rdOf ByteArray.empty Tab1 (wrap64 (bt132.2.1 - 1))).size ≤ 9223372036854775807 then (if (rdOf ByteArray.empty Tab0 bt132.2.2.2.2.2.2.1).size + 1 + (rdOf ByteArray.empty Tab1 (wrap64 (bt132.2.1 - 1))).size + 1 ≤ 9223372036854775807 then (if (rdOf ByteArray.empty Tab0 bt132.2.2.2.2.2.2.1).size + 1 + (rdOf ByteArray.empty Tab1 (wrap64 (bt132.2.1 - 1))).size + 1 + (1 + t141.size) ≤ 9223372036854775807 then (if (rdOf ByteArray.empty Tab0 bt132.2.2.2.2.2.2.1).size + 1 + (rdOf ByteArray.empty Tab1 (wrap64 (bt132.2.1 - 1))).size + 1 + (1 + t141.size) + 1 ≤ 9223372036854775807 then ((date_clock.f bt132.1 bt132.2.1 bt132.2.2.1 bt132.2.2.2.1 bt132.2.2.2.2.1 bt132.2.2.2.2.2.1 bt132.2.2.2.2.2.2.1).bind fun t142 => (if (rdOf ByteArray.empty Tab0 bt132.2.2.2.2.2.2.1).size + 1 + (rdOf ByteArray.empty Tab1 (wrap64 (bt132.2.1 - 1))).size + 1 + (1 + t141.size) + 1 + t142.size ≤ 9223372036854775807 then (if (rdOf ByteArray.empty Tab0 bt132.2.2.2.2.2.2.1).size + 1 + (rdOf ByteArray.empty Tab1 (wrap64 (bt132.2.1 - 1))).size + 1 + (1 + t141.size) + 1 + t142.size + 1 ≤ 9223372036854775807 then ((strconv_Itoa.f bt132.1).bind fun t143 => (if (rdOf ByteArray.empty Tab0 bt132.2.2.2.2.2.2.1).size + 1 + (rdOf ByteArray.empty Tab1 (wrap64 (bt132.2.1 - 1))).size + 1 + (1 + t141.size) + 1 + t142.size + 1 + t143.size ≤ 9223372036854775807 then (some (((((((((rdOf ByteArray.empty Tab0 bt132.2.2.2.2.2.2.1) ++ (⟨#[32]⟩ : ByteArray)) ++ (rdOf ByteArray.empty Tab1 (wrap64 (bt132.2.1 - 1)))) ++ (⟨#[32]⟩ : ByteArray)) ++ ((⟨#[32]⟩ : ByteArray) ++ t141)) ++ (⟨#[32]⟩ : ByteArray)) ++ t142) ++ (⟨#[32]⟩ : ByteArray)) ++ t143)) else (none))) else (none)) else (none))) else (none)) else (none)) else (none)) else (none)) else (none)) else (none)) else (none)) else (none)) else (none)) else (none)) else (if 0 ≤ bt132.2.2.2.2.2.2.1 then (if bt132.2.2.2.2.2.2.1 < 7 then (if (rdOf ByteArray.empty Tab0 bt132.2.2.2.2.2.2.1).size + 1 ≤ 9223372036854775807 then (if 0 ≤ (wrap64 (bt132.2.1 - 1)) then (if (wrap64 (bt132.2.1 - 1)) < 12 then (if (rdOf ByteArray.empty Tab0 bt132.2.2.2.2.2.2.1).size + 1 + (rdOf ByteArray.empty Tab1 (wrap64 (bt132.2.1 - 1))).size ≤ 9223372036854775807 then (if (rdOf ByteArray.empty Tab0 bt132.2.2.2.2.2.2.1).size + 1 + (rdOf ByteArray.empty Tab1 (wrap64 (bt132.2.1 - 1))).size + 1 ≤ 9223372036854775807 then (if (rdOf ByteArray.empty Tab0 bt132.2.2.2.2.2.2.1).size + 1 + (rdOf ByteArray.empty Tab1 (wrap64 (bt132.2.1 - 1))).size + 1 + t141.size ≤ 9223372036854775807 then (if (rdOf ByteArray.empty Tab0 bt132.2.2.2.2.2.2.1).size + 1 + (rdOf ByteArray.empty Tab1 (wrap64 (bt132.2.1 - 1))).size + 1 + t141.size + 1 ≤ 9223372036854775807 then ((date_clock.f bt132.1 bt132.2.1 bt132.2.2.1 bt132.2.2.2.1 bt132.2.2.2.2.1 bt132.2.2.2.2.2.1 bt132.2.2.2.2.2.2.1).bind fun t144 => (if (rdOf ByteArray.empty Tab0 bt132.2.2.2.2.2.2.1).size + 1 + (rdOf ByteArray.empty Tab1 (wrap64 (bt132.2.1 - 1))).size + 1 + t141.size + 1 + t144.size ≤ 9223372036854775807 then (if (rdOf ByteArray.empty Tab0 bt132.2.2.2.2.2.2.1).size + 1 + (rdOf ByteArray.empty Tab1 (wrap64 (bt132.2.1 - 1))).size + 1 + t141.size + 1 + t144.size + 1 ≤ 9223372036854775807 then ((strconv_Itoa.f bt132.1).bind fun t145 => (if (rdOf ByteArray.empty Tab0 bt132.2.2.2.2.2.2.1).size + 1 + (rdOf ByteArray.empty Tab1 (wrap64 (bt132.2.1 - 1))).size + 1 + t141.size + 1 + t144.size + 1 + t145.size ≤ 9223372036854775807 then (some (((((((((rdOf ByteArray.empty Tab0 bt132.2.2.2.2.2.2.1) ++ (⟨#[32]⟩ : ByteArray)) ++ (rdOf ByteArray.empty Tab1 (wrap64 (bt132.2.1 - 1)))) ++ (⟨#[32]⟩ : ByteArray)) ++ t141) ++ (⟨#[32]⟩ : ByteArray)) ++ t144) ++ (⟨#[32]⟩ : ByteArray)) ++ t145)) else (none))) else (none)) else (none))) else (none)) else (none)) else (none)) else (none)) else (none)) else (none)) else (none)) else (none)) else (none)))) else (some (⟨#[]⟩ : ByteArray)))) = some r := h
 clear h
 have HG := Aside0.mk hG
 clear hG
 replace H := Option.bind_eq_some_iff.mp H
 obtain ⟨⟨t132, t133, t134, t135, t136, t137, t138, t139⟩, A20, H⟩ := H
 replace H : (if t139 = true then ((strconv_Itoa.f t134).bind fun t141 => (if t134 < 10 then (if 1 + t141.size ≤ 9223372036854775807 then (if 0 ≤ t138 then (if t138 < 7 then (if (rdOf ByteArray.empty Tab0 t138).size + 1 ≤ 9223372036854775807 then (if 0 ≤ (wrap64 (t133 - 1)) then (if (wrap64 (t133 - 1)) < 12 then (if (rdOf ByteArray.empty Tab0 t138).size + 1 + (rdOf ByteArray.empty Tab1 (wrap64 (t133 - 1))).size ≤ 9223372036854775807 then (if (rdOf ByteArray.empty Tab0 t138).size + 1 + (rdOf ByteArray.empty Tab1 (wrap64 (t133 - 1))).size + 1 ≤ 9223372036854775807 then (if (rdOf ByteArray.empty Tab0 t138).size + 1 + (rdOf ByteArray.empty Tab1 (wrap64 (t133 - 1))).size + 1 + (1 + t141.size) ≤ 9223372036854775807 then (if (rdOf ByteArray.empty Tab0 t138).size + 1 + (rdOf ByteArray.empty Tab1 (wrap64 (t133 - 1))).size + 1 + (1 + t141.size) + 1 ≤ 9223372036854775807 then ((date_clock.f t132 t133 t134 t135 t136 t137 t138).bind fun t142 => (if (rdOf ByteArray.empty Tab0 t138).size + 1 + (rdOf ByteArray.empty Tab1 (wrap64 (t133 - 1))).size + 1 + (1 + t141.size) + 1 + t142.size ≤ 9223372036854775807 then (if (rdOf ByteArray.empty Tab0 t138).size + 1 + (rdOf ByteArray.empty Tab1 (wrap64 (t133 - 1))).size + 1 + (1 + t141.size) + 1 + t142.size + 1 ≤ 9223372036854775807 then ((strconv_Itoa.f t132).bind fun t143 => (if (rdOf ByteArray.empty Tab0 t138).size + 1 + (rdOf ByteArray.empty Tab1 (wrap64 (t133 - 1))).size + 1 + (1 + t141.size) + 1 + t142.size + 1 + t143.size ≤ 9223372036854775807 then (some (((((((((rdOf ByteArray.empty Tab0 t138) ++ (⟨#[32]⟩ : ByteArray)) ++ (rdOf ByteArray.empty Tab1 (wrap64 (t133 - 1)))) ++ (⟨#[32]⟩ : ByteArray)) ++ ((⟨#[32]⟩ : ByteArray) ++ t141)) ++ (⟨#[32]⟩ : ByteArray)) ++ t142) ++ (⟨#[32]⟩ : ByteArray)) ++ t143)) else (none))) else (none)) else (none))) else (none)) else (none)) else (none)) else (none)) else (none)) else (none)) else (none)) else (none)) else (none)) else (none)) else (if 0 ≤ t138 then (if t138 < 7 then (if (rdOf ByteArray.empty Tab0 t138).size + 1 ≤ 9223372036854775807 then (if 0 ≤ (wrap64 (t133 - 1)) then (if (wrap64 (t133 - 1)) < 12 then (if (rdOf ByteArray.empty Tab0 t138).size + 1 + (rdOf ByteArray.empty Tab1 (wrap64 (t133 - 1))).size ≤ 9223372036854775807 then (if (rdOf ByteArray.empty Tab0 t138).size + 1 + (rdOf ByteArray.empty Tab1 (wrap64 (t133 - 1))).size + 1 ≤ 9223372036854775807 then (if (rdOf ByteArray.empty Tab0 t138).size + 1 + (rdOf ByteArray.empty Tab1 (wrap64 (t133 - 1))).size + 1 + t141.size ≤ 9223372036854775807 then (if (rdOf ByteArray.empty Tab0 t138).size + 1 + (rdOf ByteArray.empty Tab1 (wrap64 (t133 - 1))).size + 1 + t141.size + 1 ≤ 9223372036854775807 then ((date_clock.f t132 t133 t134 t135 t136 t137 t138).bind fun t144 => (if (rdOf ByteArray.empty Tab0 t138).size + 1 + (rdOf ByteArray.empty Tab1 (wrap64 (t133 - 1))).size + 1 + t141.size + 1 + t144.size ≤ 9223372036854775807 then (if (rdOf ByteArray.empty Tab0 t138).size + 1 + (rdOf ByteArray.empty Tab1 (wrap64 (t133 - 1))).size + 1 + t141.size + 1 + t144.size + 1 ≤ 9223372036854775807 then ((strconv_Itoa.f t132).bind fun t145 => (if (rdOf ByteArray.empty Tab0 t138).size + 1 + (rdOf ByteArray.empty Tab1 (wrap64 (t133 - 1))).size + 1 + t141.size + 1 + t144.size + 1 + t145.size ≤ 9223372036854775807 then (some (((((((((rdOf ByteArray.empty Tab0 t138) ++ (⟨#[32]⟩ : ByteArray)) ++ (rdOf ByteArray.empty Tab1 (wrap64 (t133 - 1)))) ++ (⟨#[32]⟩ : ByteArray)) ++ t141) ++ (⟨#[32]⟩ : ByteArray)) ++ t144) ++ (⟨#[32]⟩ : ByteArray)) ++ t145)) else (none))) else (none)) else (none))) else (none)) else (none)) else (none)) else (none)) else (none)) else (none)) else (none)) else (none)) else (none)))) else (some (⟨#[]⟩ : ByteArray))) = some r := H
 have A2 := Aside0.mk A20
 clear A20
 by_cases c3 : t139 = true
 ·subst c3
  have H1 : ((strconv_Itoa.f t134).bind fun t141 => (if t134 < 10 then (if 1 + t141.size ≤ 9223372036854775807 then (if 0 ≤ t138 then (if t138 < 7 then (if (rdOf ByteArray.empty Tab0 t138).size + 1 ≤ 9223372036854775807 then (if 0 ≤ (wrap64 (t133 - 1)) then (if (wrap64 (t133 - 1)) < 12 then (if (rdOf ByteArray.empty Tab0 t138).size + 1 + (rdOf ByteArray.empty Tab1 (wrap64 (t133 - 1))).size ≤ 9223372036854775807 then (if (rdOf ByteArray.empty Tab0 t138).size + 1 + (rdOf ByteArray.empty Tab1 (wrap64 (t133 - 1))).size + 1 ≤ 9223372036854775807 then (if (rdOf ByteArray.empty Tab0 t138).size + 1 + (rdOf ByteArray.empty Tab1 (wrap64 (t133 - 1))).size + 1 + (1 + t141.size) ≤ 9223372036854775807 then (if (rdOf ByteArray.empty Tab0 t138).size + 1 + (rdOf ByteArray.empty Tab1 (wrap64 (t133 - 1))).size + 1 + (1 + t141.size) + 1 ≤ 9223372036854775807 then ((date_clock.f t132 t133 t134 t135 t136 t137 t138).bind fun t142 => (if (rdOf ByteArray.empty Tab0 t138).size + 1 + (rdOf ByteArray.empty Tab1 (wrap64 (t133 - 1))).size + 1 + (1 + t141.size) + 1 + t142.size ≤ 9223372036854775807 then (if (rdOf ByteArray.empty Tab0 t138).size + 1 + (rdOf ByteArray.empty Tab1 (wrap64 (t133 - 1))).size + 1 + (1 + t141.size) + 1 + t142.size + 1 ≤ 9223372036854775807 then ((strconv_Itoa.f t132).bind fun t143 => (if (rdOf ByteArray.empty Tab0 t138).size + 1 + (rdOf ByteArray.empty Tab1 (wrap64 (t133 - 1))).size + 1 + (1 + t141.size) + 1 + t142.size + 1 + t143.size ≤ 9223372036854775807 then (some (((((((((rdOf ByteArray.empty Tab0 t138) ++ (⟨#[32]⟩ : ByteArray)) ++ (rdOf ByteArray.empty Tab1 (wrap64 (t133 - 1)))) ++ (⟨#[32]⟩ : ByteArray)) ++ ((⟨#[32]⟩ : ByteArray) ++ t141)) ++ (⟨#[32]⟩ : ByteArray)) ++ t142) ++ (⟨#[32]⟩ : ByteArray)) ++ t143)) else (none))) else (none)) else (none))) else (none)) else (none)) else (none)) else (none)) else (none)) else (none)) else (none)) else (none)) else (none)) else (none)) else (if 0 ≤ t138 then (if t138 < 7 then (if (rdOf ByteArray.empty Tab0 t138).size + 1 ≤ 9223372036854775807 then (if 0 ≤ (wrap64 (t133 - 1)) then (if (wrap64 (t133 - 1)) < 12 then (if (rdOf ByteArray.empty Tab0 t138).size + 1 + (rdOf ByteArray.empty Tab1 (wrap64 (t133 - 1))).size ≤ 9223372036854775807 then (if (rdOf ByteArray.empty Tab0 t138).size + 1 + (rdOf ByteArray.empty Tab1 (wrap64 (t133 - 1))).size + 1 ≤ 9223372036854775807 then (if (rdOf ByteArray.empty Tab0 t138).size + 1 + (rdOf ByteArray.empty Tab1 (wrap64 (t133 - 1))).size + 1 + t141.size ≤ 9223372036854775807 then (if (rdOf ByteArray.empty Tab0 t138).size + 1 + (rdOf ByteArray.empty Tab1 (wrap64 (t133 - 1))).size + 1 + t141.size + 1 ≤ 9223372036854775807 then ((date_clock.f t132 t133 t134 t135 t136 t137 t138).bind fun t144 => (if (rdOf ByteArray.empty Tab0 t138).size + 1 + (rdOf ByteArray.empty Tab1 (wrap64 (t133 - 1))).size + 1 + t141.size + 1 + t144.size ≤ 9223372036854775807 then (if (rdOf ByteArray.empty Tab0 t138).size + 1 + (rdOf ByteArray.empty Tab1 (wrap64 (t133 - 1))).size + 1 + t141.size + 1 + t144.size + 1 ≤ 9223372036854775807 then ((strconv_Itoa.f t132).bind fun t145 => (if (rdOf ByteArray.empty Tab0 t138).size + 1 + (rdOf ByteArray.empty Tab1 (wrap64 (t133 - 1))).size + 1 + t141.size + 1 + t144.size + 1 + t145.size ≤ 9223372036854775807 then (some (((((((((rdOf ByteArray.empty Tab0 t138) ++ (⟨#[32]⟩ : ByteArray)) ++ (rdOf ByteArray.empty Tab1 (wrap64 (t133 - 1)))) ++ (⟨#[32]⟩ : ByteArray)) ++ t141) ++ (⟨#[32]⟩ : ByteArray)) ++ t144) ++ (⟨#[32]⟩ : ByteArray)) ++ t145)) else (none))) else (none)) else (none))) else (none)) else (none)) else (none)) else (none)) else (none)) else (none)) else (none)) else (none)) else (none)))) = some r := by rw [if_pos rfl] at H; exact H
  clear H
  have H := H1
  clear H1
  replace H := Option.bind_eq_some_iff.mp H
  obtain ⟨t141, A40, H⟩ := H
  replace H : (if t134 < 10 then (if 1 + t141.size ≤ 9223372036854775807 then (if 0 ≤ t138 then (if t138 < 7 then (if (rdOf ByteArray.empty Tab0 t138).size + 1 ≤ 9223372036854775807 then (if 0 ≤ (wrap64 (t133 - 1)) then (if (wrap64 (t133 - 1)) < 12 then (if (rdOf ByteArray.empty Tab0 t138).size + 1 + (rdOf ByteArray.empty Tab1 (wrap64 (t133 - 1))).size ≤ 9223372036854775807 then (if (rdOf ByteArray.empty Tab0 t138).size + 1 + (rdOf ByteArray.empty Tab1 (wrap64 (t133 - 1))).size + 1 ≤ 9223372036854775807 then (if (rdOf ByteArray.empty Tab0 t138).size + 1 + (rdOf ByteArray.empty Tab1 (wrap64 (t133 - 1))).size + 1 + (1 + t141.size) ≤ 9223372036854775807 then (if (rdOf ByteArray.empty Tab0 t138).size + 1 + (rdOf ByteArray.empty Tab1 (wrap64 (t133 - 1))).size + 1 + (1 + t141.size) + 1 ≤ 9223372036854775807 then ((date_clock.f t132 t133 t134 t135 t136 t137 t138).bind fun t142 => (if (rdOf ByteArray.empty Tab0 t138).size + 1 + (rdOf ByteArray.empty Tab1 (wrap64 (t133 - 1))).size + 1 + (1 + t141.size) + 1 + t142.size ≤ 9223372036854775807 then (if (rdOf ByteArray.empty Tab0 t138).size + 1 + (rdOf ByteArray.empty Tab1 (wrap64 (t133 - 1))).size + 1 + (1 + t141.size) + 1 + t142.size + 1 ≤ 9223372036854775807 then ((strconv_Itoa.f t132).bind fun t143 => (if (rdOf ByteArray.empty Tab0 t138).size + 1 + (rdOf ByteArray.empty Tab1 (wrap64 (t133 - 1))).size + 1 + (1 + t141.size) + 1 + t142.size + 1 + t143.size ≤ 9223372036854775807 then (some (((((((((rdOf ByteArray.empty Tab0 t138) ++ (⟨#[32]⟩ : ByteArray)) ++ (rdOf ByteArray.empty Tab1 (wrap64 (t133 - 1)))) ++ (⟨#[32]⟩ : ByteArray)) ++ ((⟨#[32]⟩ : ByteArray) ++ t141)) ++ (⟨#[32]⟩ : ByteArray)) ++ t142) ++ (⟨#[32]⟩ : ByteArray)) ++ t143)) else (none))) else (none)) else (none))) else (none)) else (none)) else (none)) else (none)) else (none)) else (none)) else (none)) else (none)) else (none)) else (none)) else (if 0 ≤ t138 then (if t138 < 7 then (if (rdOf ByteArray.empty Tab0 t138).size + 1 ≤ 9223372036854775807 then (if 0 ≤ (wrap64 (t133 - 1)) then (if (wrap64 (t133 - 1)) < 12 then (if (rdOf ByteArray.empty Tab0 t138).size + 1 + (rdOf ByteArray.empty Tab1 (wrap64 (t133 - 1))).size ≤ 9223372036854775807 then (if (rdOf ByteArray.empty Tab0 t138).size + 1 + (rdOf ByteArray.empty Tab1 (wrap64 (t133 - 1))).size + 1 ≤ 9223372036854775807 then (if (rdOf ByteArray.empty Tab0 t138).size + 1 + (rdOf ByteArray.empty Tab1 (wrap64 (t133 - 1))).size + 1 + t141.size ≤ 9223372036854775807 then (if (rdOf ByteArray.empty Tab0 t138).size + 1 + (rdOf ByteArray.empty Tab1 (wrap64 (t133 - 1))).size + 1 + t141.size + 1 ≤ 9223372036854775807 then ((date_clock.f t132 t133 t134 t135 t136 t137 t138).bind fun t144 => (if (rdOf ByteArray.empty Tab0 t138).size + 1 + (rdOf ByteArray.empty Tab1 (wrap64 (t133 - 1))).size + 1 + t141.size + 1 + t144.size ≤ 9223372036854775807 then (if (rdOf ByteArray.empty Tab0 t138).size + 1 + (rdOf ByteArray.empty Tab1 (wrap64 (t133 - 1))).size + 1 + t141.size + 1 + t144.size + 1 ≤ 9223372036854775807 then ((strconv_Itoa.f t132).bind fun t145 => (if (rdOf ByteArray.empty Tab0 t138).size + 1 + (rdOf ByteArray.empty Tab1 (wrap64 (t133 - 1))).size + 1 + t141.size + 1 + t144.size + 1 + t145.size ≤ 9223372036854775807 then (some (((((((((rdOf ByteArray.empty Tab0 t138) ++ (⟨#[32]⟩ : ByteArray)) ++ (rdOf ByteArray.empty Tab1 (wrap64 (t133 - 1)))) ++ (⟨#[32]⟩ : ByteArray)) ++ t141) ++ (⟨#[32]⟩ : ByteArray)) ++ t144) ++ (⟨#[32]⟩ : ByteArray)) ++ t145)) else (none))) else (none)) else (none))) else (none)) else (none)) else (none)) else (none)) else (none)) else (none)) else (none)) else (none)) else (none))) = some r := H
  have A4 := Aside0.mk A40
  clear A40
  by_cases c5 : t134 < 10
  ·rw [if_pos c5] at H
   have c5b0 : decide (t134 < 10) = true := decide_eq_true c5
   clear c5
   by_cases c6 : 1 + t141.size ≤ 9223372036854775807
   ·rw [if_pos c6] at H
    have c6b0 := eq_true c6
    have c6b1 : decide (1 + t141.size ≤ 9223372036854775807) = true := decide_eq_true c6
    try have c6b2 : (9223372036854775807 < 1 + t141.size) = False := eq_false (Nat.not_lt.2 c6)
    by_cases c7 : 0 ≤ t138
    ·rw [if_pos c7] at H
     have c7b0 : decide (0 ≤ t138) = true := decide_eq_true c7
     clear c7
     by_cases c8 : t138 < 7
     ·rw [if_pos c8] at H
      have c8b0 : decide (t138 < 7) = true := decide_eq_true c8
      clear c8
      by_cases c10 : (rdOf ByteArray.empty Tab0 t138).size + 1 ≤ 9223372036854775807
      ·rw [if_pos c10] at H
       have c10b0 := eq_true c10
       have c10b1 : decide ((rdOf ByteArray.empty Tab0 t138).size + 1 ≤ 9223372036854775807) = true := decide_eq_true c10
       try have c10b2 : (9223372036854775807 < (rdOf ByteArray.empty Tab0 t138).size + 1) = False := eq_false (Nat.not_lt.2 c10)
       obtain ⟨ji11, hji11⟩ : ∃ j_ : Int, (wrap64 (t133 - 1)) = j_ := ⟨_, rfl⟩
       replace H : (if 0 ≤ (ji11) then (if (ji11) < 12 then (if (rdOf ByteArray.empty Tab0 t138).size + 1 + (rdOf ByteArray.empty Tab1 (ji11)).size ≤ 9223372036854775807 then (if (rdOf ByteArray.empty Tab0 t138).size + 1 + (rdOf ByteArray.empty Tab1 (ji11)).size + 1 ≤ 9223372036854775807 then (if (rdOf ByteArray.empty Tab0 t138).size + 1 + (rdOf ByteArray.empty Tab1 (ji11)).size + 1 + (1 + t141.size) ≤ 9223372036854775807 then (if (rdOf ByteArray.empty Tab0 t138).size + 1 + (rdOf ByteArray.empty Tab1 (ji11)).size + 1 + (1 + t141.size) + 1 ≤ 9223372036854775807 then ((date_clock.f t132 t133 t134 t135 t136 t137 t138).bind fun t142 => (if (rdOf ByteArray.empty Tab0 t138).size + 1 + (rdOf ByteArray.empty Tab1 (ji11)).size + 1 + (1 + t141.size) + 1 + t142.size ≤ 9223372036854775807 then (if (rdOf ByteArray.empty Tab0 t138).size + 1 + (rdOf ByteArray.empty Tab1 (ji11)).size + 1 + (1 + t141.size) + 1 + t142.size + 1 ≤ 9223372036854775807 then ((strconv_Itoa.f t132).bind fun t143 => (if (rdOf ByteArray.empty Tab0 t138).size + 1 + (rdOf ByteArray.empty Tab1 (ji11)).size + 1 + (1 + t141.size) + 1 + t142.size + 1 + t143.size ≤ 9223372036854775807 then (some (((((((((rdOf ByteArray.empty Tab0 t138) ++ (⟨#[32]⟩ : ByteArray)) ++ (rdOf ByteArray.empty Tab1 (ji11))) ++ (⟨#[32]⟩ : ByteArray)) ++ ((⟨#[32]⟩ : ByteArray) ++ t141)) ++ (⟨#[32]⟩ : ByteArray)) ++ t142) ++ (⟨#[32]⟩ : ByteArray)) ++ t143)) else (none))) else (none)) else (none))) else (none)) else (none)) else (none)) else (none)) else (none)) else (none)) = some r := by first | (rw [hji11] at H; exact H) | (simp only [hji11] at H ⊢; exact H)
       (try rw [hji11] at A2)
       (try rw [hji11] at A4)
       have hji11w : (IntKind.i64.wrap (t133 - 1)) = ji11 := (i64_w _).trans hji11
       by_cases c12 : 0 ≤ (ji11)
       ·rw [if_pos c12] at H
        have c12b0 : decide (0 ≤ (ji11)) = true := decide_eq_true c12
        clear c12
        by_cases c13 : (ji11) < 12
        ·rw [if_pos c13] at H
         have c13b0 : decide ((ji11) < 12) = true := decide_eq_true c13
         clear c13
         by_cases c15 : (rdOf ByteArray.empty Tab0 t138).size + 1 + (rdOf ByteArray.empty Tab1 (ji11)).size ≤ 9223372036854775807
         ·rw [if_pos c15] at H
          have c15b0 := eq_true c15
          have c15b1 : decide ((rdOf ByteArray.empty Tab0 t138).size + 1 + (rdOf ByteArray.empty Tab1 (ji11)).size ≤ 9223372036854775807) = true := decide_eq_true c15
          try have c15b2 : (9223372036854775807 < (rdOf ByteArray.empty Tab0 t138).size + 1 + (rdOf ByteArray.empty Tab1 (ji11)).size) = False := eq_false (Nat.not_lt.2 c15)
          by_cases c16 : (rdOf ByteArray.empty Tab0 t138).size + 1 + (rdOf ByteArray.empty Tab1 (ji11)).size + 1 ≤ 9223372036854775807
          ·rw [if_pos c16] at H
           have c16b0 := eq_true c16
           have c16b1 : decide ((rdOf ByteArray.empty Tab0 t138).size + 1 + (rdOf ByteArray.empty Tab1 (ji11)).size + 1 ≤ 9223372036854775807) = true := decide_eq_true c16
           try have c16b2 : (9223372036854775807 < (rdOf ByteArray.empty Tab0 t138).size + 1 + (rdOf ByteArray.empty Tab1 (ji11)).size + 1) = False := eq_false (Nat.not_lt.2 c16)
           by_cases c17 : (rdOf ByteArray.empty Tab0 t138).size + 1 + (rdOf ByteArray.empty Tab1 (ji11)).size + 1 + (1 + t141.size) ≤ 9223372036854775807
           ·rw [if_pos c17] at H
            have c17b0 := eq_true c17
            have c17b1 : decide ((rdOf ByteArray.empty Tab0 t138).size + 1 + (rdOf ByteArray.empty Tab1 (ji11)).size + 1 + (1 + t141.size) ≤ 9223372036854775807) = true := decide_eq_true c17
            try have c17b2 : (9223372036854775807 < (rdOf ByteArray.empty Tab0 t138).size + 1 + (rdOf ByteArray.empty Tab1 (ji11)).size + 1 + (1 + t141.size)) = False := eq_false (Nat.not_lt.2 c17)
            by_cases c18 : (rdOf ByteArray.empty Tab0 t138).size + 1 + (rdOf ByteArray.empty Tab1 (ji11)).size + 1 + (1 + t141.size) + 1 ≤ 9223372036854775807
            ·rw [if_pos c18] at H
             have c18b0 := eq_true c18
             have c18b1 : decide ((rdOf ByteArray.empty Tab0 t138).size + 1 + (rdOf ByteArray.empty Tab1 (ji11)).size + 1 + (1 + t141.size) + 1 ≤ 9223372036854775807) = true := decide_eq_true c18
             try have c18b2 : (9223372036854775807 < (rdOf ByteArray.empty Tab0 t138).size + 1 + (rdOf ByteArray.empty Tab1 (ji11)).size + 1 + (1 + t141.size) + 1) = False := eq_false (Nat.not_lt.2 c18)
             replace H := Option.bind_eq_some_iff.mp H
             obtain ⟨t142, A190, H⟩ := H
             replace H : (if (rdOf ByteArray.empty Tab0 t138).size + 1 + (rdOf ByteArray.empty Tab1 (ji11)).size + 1 + (1 + t141.size) + 1 + t142.size ≤ 9223372036854775807 then (if (rdOf ByteArray.empty Tab0 t138).size + 1 + (rdOf ByteArray.empty Tab1 (ji11)).size + 1 + (1 + t141.size) + 1 + t142.size + 1 ≤ 9223372036854775807 then ((strconv_Itoa.f t132).bind fun t143 => (if (rdOf ByteArray.empty Tab0 t138).size + 1 + (rdOf ByteArray.empty Tab1 (ji11)).size + 1 + (1 + t141.size) + 1 + t142.size + 1 + t143.size ≤ 9223372036854775807 then (some (((((((((rdOf ByteArray.empty Tab0 t138) ++ (⟨#[32]⟩ : ByteArray)) ++ (rdOf ByteArray.empty Tab1 (ji11))) ++ (⟨#[32]⟩ : ByteArray)) ++ ((⟨#[32]⟩ : ByteArray) ++ t141)) ++ (⟨#[32]⟩ : ByteArray)) ++ t142) ++ (⟨#[32]⟩ : ByteArray)) ++ t143)) else (none))) else (none)) else (none)) = some r := H
             have A19 := Aside0.mk A190
             clear A190
             by_cases c20 : (rdOf ByteArray.empty Tab0 t138).size + 1 + (rdOf ByteArray.empty Tab1 (ji11)).size + 1 + (1 + t141.size) + 1 + t142.size ≤ 9223372036854775807
             ·rw [if_pos c20] at H
              have c20b0 := eq_true c20
              have c20b1 : decide ((rdOf ByteArray.empty Tab0 t138).size + 1 + (rdOf ByteArray.empty Tab1 (ji11)).size + 1 + (1 + t141.size) + 1 + t142.size ≤ 9223372036854775807) = true := decide_eq_true c20
              try have c20b2 : (9223372036854775807 < (rdOf ByteArray.empty Tab0 t138).size + 1 + (rdOf ByteArray.empty Tab1 (ji11)).size + 1 + (1 + t141.size) + 1 + t142.size) = False := eq_false (Nat.not_lt.2 c20)
              by_cases c21 : (rdOf ByteArray.empty Tab0 t138).size + 1 + (rdOf ByteArray.empty Tab1 (ji11)).size + 1 + (1 + t141.size) + 1 + t142.size + 1 ≤ 9223372036854775807
              ·rw [if_pos c21] at H
               have c21b0 := eq_true c21
               have c21b1 : decide ((rdOf ByteArray.empty Tab0 t138).size + 1 + (rdOf ByteArray.empty Tab1 (ji11)).size + 1 + (1 + t141.size) + 1 + t142.size + 1 ≤ 9223372036854775807) = true := decide_eq_true c21
               try have c21b2 : (9223372036854775807 < (rdOf ByteArray.empty Tab0 t138).size + 1 + (rdOf ByteArray.empty Tab1 (ji11)).size + 1 + (1 + t141.size) + 1 + t142.size + 1) = False := eq_false (Nat.not_lt.2 c21)
               replace H := Option.bind_eq_some_iff.mp H
               obtain ⟨t143, A220, H⟩ := H
               replace H : (if (rdOf ByteArray.empty Tab0 t138).size + 1 + (rdOf ByteArray.empty Tab1 (ji11)).size + 1 + (1 + t141.size) + 1 + t142.size + 1 + t143.size ≤ 9223372036854775807 then (some (((((((((rdOf ByteArray.empty Tab0 t138) ++ (⟨#[32]⟩ : ByteArray)) ++ (rdOf ByteArray.empty Tab1 (ji11))) ++ (⟨#[32]⟩ : ByteArray)) ++ ((⟨#[32]⟩ : ByteArray) ++ t141)) ++ (⟨#[32]⟩ : ByteArray)) ++ t142) ++ (⟨#[32]⟩ : ByteArray)) ++ t143)) else (none)) = some r := H
               have A22 := Aside0.mk A220
               clear A220
               by_cases c23 : (rdOf ByteArray.empty Tab0 t138).size + 1 + (rdOf ByteArray.empty Tab1 (ji11)).size + 1 + (1 + t141.size) + 1 + t142.size + 1 + t143.size ≤ 9223372036854775807
               ·rw [if_pos c23] at H
                have c23b0 := eq_true c23
                have c23b1 : decide ((rdOf ByteArray.empty Tab0 t138).size + 1 + (rdOf ByteArray.empty Tab1 (ji11)).size + 1 + (1 + t141.size) + 1 + t142.size + 1 + t143.size ≤ 9223372036854775807) = true := decide_eq_true c23
                try have c23b2 : (9223372036854775807 < (rdOf ByteArray.empty Tab0 t138).size + 1 + (rdOf ByteArray.empty Tab1 (ji11)).size + 1 + (1 + t141.size) + 1 + t142.size + 1 + t143.size) = False := eq_false (Nat.not_lt.2 c23)
                obtain rfl := Option.some.inj H
                go_enter Tryd.func10, Tryd.ntmps10
                try go_wp2_with (first | ((with_reducible refine gate_callee (f := 15) rfl ?_); refine goesL_ (some 8) rfl rfl Tryd.func15 (by kernel_rfl) rfl #[.int .i64 a0] rfl (by (try simp only [List.map_toArray, List.map_cons, List.map_nil]); first | done | rfl | (simp only [List.length_drop, List.length_take]; rfl)) ?_; (with_reducible refine (date_Of.calls k a0 t132 t133 t134 t135 t136 t137 t138 true _ ?side1 A2.out).mono ?_); (case side1 => exact Amb.at HG.out (by repeat (first | (with_reducible first | exact HB.out | apply below_alloc | apply pw_below_drewN | apply below_drew1) | exact HB.out))); rintro e w24 ⟨rfl, hb⟩; refine ⟨_, rfl, ?_⟩; have n0_ := Aside0.mk (below_step (by repeat (first | (with_reducible first | exact HB.out | apply below_alloc | apply pw_below_drewN | apply below_drew1) | exact HB.out)) hb); clear HB; have HB := n0_; clear n0_; (try clear hb); (try clear hb2); (try clear hk); (try clear hi)) | ((with_reducible refine gate_dst (N := 3) rfl ?_); refine box_event ?hg (N := 3) ?hd (cs := #[.int .i64 0, .int .i64 0, .int .i64 0, .int .i64 0, .int .i64 0, .int .i64 0, .int .i64 0]) (t := 33) ?hr ?_; (case hd => rfl); (case hg => rfl); (case hr => first | (go_simp; done) | (go_simp; rfl)); intro gb140 hg w25 hbox hb; have n0_ := Aside0.mk (below_step (by repeat (first | (with_reducible first | exact HB.out | apply below_alloc | apply pw_below_drewN | apply below_drew1) | exact HB.out)) hb); have n1_ := Aside0.mk (hbox); have n2_ := Aside0.mk ((by rw [hg]; exact (below_size (by repeat (first | (with_reducible first | exact HB.out | apply below_alloc | apply pw_below_drewN | apply below_drew1) | exact HB.out))) : w.heap.size ≤ gb140)); have n3_ := Aside0.mk ((by rw [hg]; exact (below_size (by repeat (first | (with_reducible first | exact HB.out | apply below_alloc | apply pw_below_drewN | apply below_drew1) | exact HB.out))) : w.heap.size ≤ gb140)); clear HB; have HB := n0_; have BK140 := n1_; have GW140 := n2_; have GE140 := n3_; clear n0_ n1_ n2_ n3_; clear hb hbox hg; have hcz26_0 : w25.cell? ⟨gb140, 0, none⟩ = some (.int .i64 0) := (blk_cell BK140.out 0).trans rfl; have hcz26_1 : w25.cell? ⟨gb140, 1, none⟩ = some (.int .i64 0) := (blk_cell BK140.out 1).trans rfl; have hcz26_2 : w25.cell? ⟨gb140, 2, none⟩ = some (.int .i64 0) := (blk_cell BK140.out 2).trans rfl; have hcz26_3 : w25.cell? ⟨gb140, 3, none⟩ = some (.int .i64 0) := (blk_cell BK140.out 3).trans rfl; have hcz26_4 : w25.cell? ⟨gb140, 4, none⟩ = some (.int .i64 0) := (blk_cell BK140.out 4).trans rfl; have hcz26_5 : w25.cell? ⟨gb140, 5, none⟩ = some (.int .i64 0) := (blk_cell BK140.out 5).trans rfl; have hcz26_6 : w25.cell? ⟨gb140, 6, none⟩ = some (.int .i64 0) := (blk_cell BK140.out 6).trans rfl; have hfz26_0 := blk_frozen BK140.out 0; have hfz26_1 := blk_frozen BK140.out 1; have hfz26_2 := blk_frozen BK140.out 2; have hfz26_3 := blk_frozen BK140.out 3; have hfz26_4 := blk_frozen BK140.out 4; have hfz26_5 := blk_frozen BK140.out 5; have hfz26_6 := blk_frozen BK140.out 6) | ((with_reducible refine gate_callee (f := 21) rfl ?_); refine goesL_ (some 15) rfl rfl Tryd.func21 (by kernel_rfl) rfl #[.int .i64 t134] rfl (by (try simp only [List.map_toArray, List.map_cons, List.map_nil]); first | done | rfl | (simp only [List.length_drop, List.length_take]; rfl)) ?_; (with_reducible refine (strconv_Itoa.calls t134 t141 _ ?side1 A4.out).mono ?_); (case side1 => exact Amb.at HG.out (by repeat (first | (with_reducible first | exact HB.out | apply below_alloc | apply pw_below_drewN | apply below_drew1 | refine below_set ?_ GE140.out) | exact HB.out))); rintro e w27 ⟨rfl, hb⟩; refine ⟨_, rfl, ?_⟩; have n0_ := Aside0.mk (blk_below (g := gb140) (o := .cells #[.int .i64 t132, .int .i64 t133, .int .i64 t134, .int .i64 t135, .int .i64 t136, .int .i64 t137, .int .i64 t138] 33 (0, 0)) (by (with_reducible repeat (first | refine blk_drewN ?_ _ | refine blk_drew ?_ | refine blk_alloc ?_ _)); refine blk_put (cs := #[.int .i64 t132, .int .i64 t133, .int .i64 t134, .int .i64 t135, .int .i64 t136, .int .i64 t137, .int .i64 0]) ?_ 6 _ rfl; (with_reducible repeat (first | refine blk_drewN ?_ _ | refine blk_drew ?_ | refine blk_alloc ?_ _)); refine blk_put (cs := #[.int .i64 t132, .int .i64 t133, .int .i64 t134, .int .i64 t135, .int .i64 t136, .int .i64 0, .int .i64 0]) ?_ 5 _ rfl; (with_reducible repeat (first | refine blk_drewN ?_ _ | refine blk_drew ?_ | refine blk_alloc ?_ _)); refine blk_put (cs := #[.int .i64 t132, .int .i64 t133, .int .i64 t134, .int .i64 t135, .int .i64 0, .int .i64 0, .int .i64 0]) ?_ 4 _ rfl; (with_reducible repeat (first | refine blk_drewN ?_ _ | refine blk_drew ?_ | refine blk_alloc ?_ _)); refine blk_put (cs := #[.int .i64 t132, .int .i64 t133, .int .i64 t134, .int .i64 0, .int .i64 0, .int .i64 0, .int .i64 0]) ?_ 3 _ rfl; (with_reducible repeat (first | refine blk_drewN ?_ _ | refine blk_drew ?_ | refine blk_alloc ?_ _)); refine blk_put (cs := #[.int .i64 t132, .int .i64 t133, .int .i64 0, .int .i64 0, .int .i64 0, .int .i64 0, .int .i64 0]) ?_ 2 _ rfl; (with_reducible repeat (first | refine blk_drewN ?_ _ | refine blk_drew ?_ | refine blk_alloc ?_ _)); refine blk_put (cs := #[.int .i64 t132, .int .i64 0, .int .i64 0, .int .i64 0, .int .i64 0, .int .i64 0, .int .i64 0]) ?_ 1 _ rfl; (with_reducible repeat (first | refine blk_drewN ?_ _ | refine blk_drew ?_ | refine blk_alloc ?_ _)); refine blk_put (cs := #[.int .i64 0, .int .i64 0, .int .i64 0, .int .i64 0, .int .i64 0, .int .i64 0, .int .i64 0]) ?_ 0 _ rfl; (with_reducible repeat (first | refine blk_drewN ?_ _ | refine blk_drew ?_ | refine blk_alloc ?_ _)); exact BK140.out) hb); have n1_ := Aside0.mk (below_step (by repeat (first | (with_reducible first | exact HB.out | apply below_alloc | apply pw_below_drewN | apply below_drew1 | refine below_set ?_ GE140.out) | exact HB.out)) hb); clear BK140; clear HB; have BK140 := n0_; have HB := n1_; clear n0_ n1_; (try clear hb); (try clear hb2); (try clear hk); (try clear hi); have hcz28_0 : w27.cell? ⟨gb140, 0, none⟩ = some (.int .i64 t132) := (blk_cell BK140.out 0).trans rfl; have hcz28_1 : w27.cell? ⟨gb140, 1, none⟩ = some (.int .i64 t133) := (blk_cell BK140.out 1).trans rfl; have hcz28_2 : w27.cell? ⟨gb140, 2, none⟩ = some (.int .i64 t134) := (blk_cell BK140.out 2).trans rfl; have hcz28_3 : w27.cell? ⟨gb140, 3, none⟩ = some (.int .i64 t135) := (blk_cell BK140.out 3).trans rfl; have hcz28_4 : w27.cell? ⟨gb140, 4, none⟩ = some (.int .i64 t136) := (blk_cell BK140.out 4).trans rfl; have hcz28_5 : w27.cell? ⟨gb140, 5, none⟩ = some (.int .i64 t137) := (blk_cell BK140.out 5).trans rfl; have hcz28_6 : w27.cell? ⟨gb140, 6, none⟩ = some (.int .i64 t138) := (blk_cell BK140.out 6).trans rfl; have hfz28_0 := blk_frozen BK140.out 0; have hfz28_1 := blk_frozen BK140.out 1; have hfz28_2 := blk_frozen BK140.out 2; have hfz28_3 := blk_frozen BK140.out 3; have hfz28_4 := blk_frozen BK140.out 4; have hfz28_5 := blk_frozen BK140.out 5; have hfz28_6 := blk_frozen BK140.out 6))
                have n0_ := Aside0.mk (blk_drew BK140.out)
                have n1_ := Aside0.mk (below_drew1 HB.out)
                clear BK140
                clear HB
                have BK140 := n0_
                have HB := n1_
                clear n0_ n1_
                have p9 : 0 ≤ (t138 : Int) := of_decide_eq_true (by first | (with_reducible assumption) | assumption)
                have q9 : (t138 : Int) < 7 := of_decide_eq_true (by first | (with_reducible assumption) | assumption)
                have hw9_0 : w.cell? ⟨0, (t138).toNat, none⟩ = some (.string (rdOf ByteArray.empty Tab0 t138)) := HG.out.t0 t138 p9 q9
                have hx9_0 := (HB.out.cell (World.block_lt_of_cell? w _ hw9_0)).trans hw9_0
                replace p9 := eq_true p9
                replace q9 := eq_true q9
                have p14 : 0 ≤ ((ji11) : Int) := of_decide_eq_true (by first | (with_reducible assumption) | assumption)
                have q14 : ((ji11) : Int) < 12 := of_decide_eq_true (by first | (with_reducible assumption) | assumption)
                have hw14_0 : w.cell? ⟨1, ((ji11)).toNat, none⟩ = some (.string (rdOf ByteArray.empty Tab1 (ji11))) := HG.out.t1 (ji11) p14 q14
                have hx14_0 := (HB.out.cell (World.block_lt_of_cell? w _ hw14_0)).trans hw14_0
                replace p14 := eq_true p14
                replace q14 := eq_true q14
                refine start_ (n := 24) (S := fun w' => w'.cell? ⟨gb140, 0, none⟩ = some (.int .i64 t132) ∧ w'.cell? ⟨gb140, 1, none⟩ = some (.int .i64 t133) ∧ w'.cell? ⟨gb140, 2, none⟩ = some (.int .i64 t134) ∧ w'.cell? ⟨gb140, 3, none⟩ = some (.int .i64 t135) ∧ w'.cell? ⟨gb140, 4, none⟩ = some (.int .i64 t136) ∧ w'.cell? ⟨gb140, 5, none⟩ = some (.int .i64 t137) ∧ w'.cell? ⟨gb140, 6, none⟩ = some (.int .i64 t138) ∧ w'.cell? ⟨0, (t138).toNat, none⟩ = some (.string (rdOf ByteArray.empty Tab0 t138)) ∧ w'.cell? ⟨1, ((ji11)).toNat, none⟩ = some (.string (rdOf ByteArray.empty Tab1 (ji11)))) (ds := []) #[ff,ff,ff,ff,ff,ff,ff,ff,ff,ff,ff,ff,ff,ff,ff,ff,ff,ff,ff,ff,ff,ff,ff,ff] (by kernel_rfl) rfl rfl ⟨(blk_cell BK140.out 0).trans rfl, (blk_cell BK140.out 1).trans rfl, (blk_cell BK140.out 2).trans rfl, (blk_cell BK140.out 3).trans rfl, (blk_cell BK140.out 4).trans rfl, (blk_cell BK140.out 5).trans rfl, (blk_cell BK140.out 6).trans rfl, ((HB.out.cell (World.block_lt_of_cell? w _ hw9_0)).trans hw9_0), ((HB.out.cell (World.block_lt_of_cell? w _ hw14_0)).trans hw14_0)⟩ (fun hHeld => ?_); refine with_tabW date_Line.tab7 date_Line.bits7 (fun HT_ HW_ => ?_)
                generalize w27.drew = w29 at BK140 HB hx14_0 hx9_0 hHeld ⊢
                refine pure_ (i := 0) (N := some 21) (v := ?_) (a' := ?_) #[tt,ff,ff,ff,ff,ff,ff,ff,ff,ff,ff,ff,ff,ff,ff,ff,ff,ff,ff,ff,ff,ff,ff,ff] rfl rfl (any_of HT_.out (by kernel_rfl)) (fun _ _ _ h => h) (Or.inl ⟨by rfl, ?_⟩) ?_ ?_
                rotate_left
                ·intro w'
                 go_simp
                 with_reducible rfl
                rotate_left
                ·simp only [Act.put, List.setIfInBounds_toArray, List.set_cons_zero, List.set_cons_succ, i64_w, i32_w]
                 rfl
                refine pure_ (i := 5) (N := some 26) (v := ?_) (a' := ?_) #[tt,ff,ff,ff,ff,tt,ff,ff,ff,ff,ff,ff,ff,ff,ff,ff,ff,ff,ff,ff,ff,ff,ff,ff] rfl rfl (any_of HT_.out (by kernel_rfl)) (fun _ _ _ h => h) (Or.inl ⟨by rfl, ?_⟩) ?_ ?_
                rotate_left
                ·intro w'
                 go_simp
                 with_reducible rfl
                rotate_left
                ·simp only [Act.put, List.setIfInBounds_toArray, List.set_cons_zero, List.set_cons_succ, i64_w, i32_w]
                 rfl
                refine pure_ (i := 12) (N := some 33) (v := ?_) (a' := ?_) #[tt,ff,ff,ff,ff,tt,ff,ff,ff,ff,ff,ff,tt,ff,ff,ff,ff,ff,ff,ff,ff,ff,ff,ff] rfl rfl (any_of HT_.out (by kernel_rfl)) (fun _ _ _ h => h) (Or.inl ⟨by rfl, ?_⟩) ?_ ?_
                rotate_left
                ·intro w'
                 go_simp
                 with_reducible rfl
                rotate_left
                ·simp only [Act.put, List.setIfInBounds_toArray, List.set_cons_zero, List.set_cons_succ, i64_w, i32_w]
                 rfl
                refine pure_ (i := 19) (N := some 40) (v := ?_) (a' := ?_) #[tt,ff,ff,ff,ff,tt,ff,ff,ff,ff,ff,ff,tt,ff,ff,ff,ff,ff,ff,tt,ff,ff,ff,ff] rfl rfl (any_of HT_.out (by kernel_rfl)) (fun _ _ _ h => h) (Or.inl ⟨by rfl, ?_⟩) ?_ ?_
                rotate_left
                ·intro w'
                 go_simp
                 with_reducible rfl
                rotate_left
                ·simp only [Act.put, List.setIfInBounds_toArray, List.set_cons_zero, List.set_cons_succ, i64_w, i32_w]
                 rfl
                refine take_ (i := 1) (N := some 22) (v := ?_) (a' := ?_) #[tt,tt,ff,ff,ff,tt,ff,ff,ff,ff,ff,ff,tt,ff,ff,ff,ff,ff,ff,tt,ff,ff,ff,ff] rfl rfl (take_ofW HT_.out HW_.out (by kernel_rfl)) (fun _ _ _ h => h) (Or.inl ⟨by rfl, ?_⟩) hHeld ?_ ?_
                rotate_left
                ·rintro w' ⟨s0, s1, s2, s3, s4, s5, s6, s7, s8⟩
                 go_simp
                 with_reducible rfl
                rotate_left
                ·simp only [Act.put, List.setIfInBounds_toArray, List.set_cons_zero, List.set_cons_succ, i64_w, i32_w]
                 rfl
                refine pure_ (i := 2) (N := some 23) (v := ?_) (a' := ?_) #[tt,tt,tt,ff,ff,tt,ff,ff,ff,ff,ff,ff,tt,ff,ff,ff,ff,ff,ff,tt,ff,ff,ff,ff] rfl rfl (any_of HT_.out (by kernel_rfl)) (fun _ _ _ h => h) (Or.inl ⟨by rfl, ?_⟩) ?_ ?_
                rotate_left
                ·intro w'
                 go_simp
                 with_reducible rfl
                rotate_left
                ·simp only [Act.put, List.setIfInBounds_toArray, List.set_cons_zero, List.set_cons_succ, i64_w, i32_w]
                 rfl
                refine take_ (i := 3) (N := some 24) (v := ?_) (a' := ?_) #[tt,tt,tt,tt,ff,tt,ff,ff,ff,ff,ff,ff,tt,ff,ff,ff,ff,ff,ff,tt,ff,ff,ff,ff] rfl rfl (take_ofW HT_.out HW_.out (by kernel_rfl)) (fun _ _ _ h => h) (Or.inl ⟨by rfl, ?_⟩) hHeld ?_ ?_
                rotate_left
                ·rintro w' ⟨s0, s1, s2, s3, s4, s5, s6, s7, s8⟩
                 go_simp
                 with_reducible rfl
                rotate_left
                ·simp only [Act.put, List.setIfInBounds_toArray, List.set_cons_zero, List.set_cons_succ, i64_w, i32_w]
                 rfl
                refine pure_ (i := 4) (N := some 25) (v := ?_) (a' := ?_) #[tt,tt,tt,tt,tt,tt,ff,ff,ff,ff,ff,ff,tt,ff,ff,ff,ff,ff,ff,tt,ff,ff,ff,ff] rfl rfl (any_of HT_.out (by kernel_rfl)) (fun _ _ _ h => h) (Or.inl ⟨by rfl, ?_⟩) ?_ ?_
                rotate_left
                ·intro w'
                 go_simp
                 with_reducible rfl
                rotate_left
                ·simp only [Act.put, List.setIfInBounds_toArray, List.set_cons_zero, List.set_cons_succ, i64_w, i32_w]
                 rfl
                refine take_ (i := 6) (N := some 27) (v := ?_) (a' := ?_) #[tt,tt,tt,tt,tt,tt,tt,ff,ff,ff,ff,ff,tt,ff,ff,ff,ff,ff,ff,tt,ff,ff,ff,ff] rfl rfl (take_ofW HT_.out HW_.out (by kernel_rfl)) (fun _ _ _ h => h) (Or.inl ⟨by rfl, ?_⟩) hHeld ?_ ?_
                rotate_left
                ·rintro w' ⟨s0, s1, s2, s3, s4, s5, s6, s7, s8⟩
                 go_simp
                 with_reducible rfl
                rotate_left
                ·simp only [Act.put, List.setIfInBounds_toArray, List.set_cons_zero, List.set_cons_succ, i64_w, i32_w]
                 rfl
                refine pure_ (i := 7) (N := some 28) (v := ?_) (a' := ?_) #[tt,tt,tt,tt,tt,tt,tt,tt,ff,ff,ff,ff,tt,ff,ff,ff,ff,ff,ff,tt,ff,ff,ff,ff] rfl rfl (any_of HT_.out (by kernel_rfl)) (fun _ _ _ h => h) (Or.inl ⟨by rfl, ?_⟩) ?_ ?_
                rotate_left
                ·intro w'
                 go_simp
                 with_reducible rfl
                rotate_left
                ·simp only [Act.put, List.setIfInBounds_toArray, List.set_cons_zero, List.set_cons_succ, i64_w, i32_w]
                 rfl
                refine pure_ (i := 8) (N := some 29) (v := ?_) (a' := ?_) #[tt,tt,tt,tt,tt,tt,tt,tt,tt,ff,ff,ff,tt,ff,ff,ff,ff,ff,ff,tt,ff,ff,ff,ff] rfl rfl (any_of HT_.out (by kernel_rfl)) (fun _ _ _ h => h) (Or.inl ⟨by rfl, ?_⟩) ?_ ?_
                rotate_left
                ·intro w'
                 go_simp
                 with_reducible rfl
                rotate_left
                ·simp only [Act.put, List.setIfInBounds_toArray, List.set_cons_zero, List.set_cons_succ, i64_w, i32_w]
                 rfl
                refine take_ (i := 9) (N := some 30) (v := ?_) (a' := ?_) #[tt,tt,tt,tt,tt,tt,tt,tt,tt,tt,ff,ff,tt,ff,ff,ff,ff,ff,ff,tt,ff,ff,ff,ff] rfl rfl (take_ofW HT_.out HW_.out (by kernel_rfl)) (fun _ _ _ h => h) (Or.inl ⟨by rfl, ?_⟩) hHeld ?_ ?_
                rotate_left
                ·rintro w' ⟨s0, s1, s2, s3, s4, s5, s6, s7, s8⟩
                 go_simp
                 with_reducible rfl
                rotate_left
                ·simp only [Act.put, List.setIfInBounds_toArray, List.set_cons_zero, List.set_cons_succ, i64_w, i32_w]
                 rfl
                refine pure_ (i := 10) (N := some 31) (v := ?_) (a' := ?_) #[tt,tt,tt,tt,tt,tt,tt,tt,tt,tt,tt,ff,tt,ff,ff,ff,ff,ff,ff,tt,ff,ff,ff,ff] rfl rfl (any_of HT_.out (by kernel_rfl)) (fun _ _ _ h => h) (Or.inl ⟨by rfl, ?_⟩) ?_ ?_
                rotate_left
                ·intro w'
                 go_simp
                 with_reducible rfl
                rotate_left
                ·simp only [Act.put, List.setIfInBounds_toArray, List.set_cons_zero, List.set_cons_succ, i64_w, i32_w]
                 rfl
                refine pure_ (i := 11) (N := some 32) (v := ?_) (a' := ?_) #[tt,tt,tt,tt,tt,tt,tt,tt,tt,tt,tt,tt,tt,ff,ff,ff,ff,ff,ff,tt,ff,ff,ff,ff] rfl rfl (any_of HT_.out (by kernel_rfl)) (fun _ _ _ h => h) (Or.inl ⟨by rfl, ?_⟩) ?_ ?_
                rotate_left
                ·intro w'
                 go_simp
                 with_reducible rfl
                rotate_left
                ·simp only [Act.put, List.setIfInBounds_toArray, List.set_cons_zero, List.set_cons_succ, i64_w, i32_w]
                 rfl
                refine pure_ (i := 13) (N := some 34) (v := ?_) (a' := ?_) #[tt,tt,tt,tt,tt,tt,tt,tt,tt,tt,tt,tt,tt,tt,ff,ff,ff,ff,ff,tt,ff,ff,ff,ff] rfl rfl (any_of HT_.out (by kernel_rfl)) (fun _ _ _ h => h) (Or.inl ⟨by rfl, ?_⟩) ?_ ?_
                rotate_left
                ·intro w'
                 go_simp
                 with_reducible rfl
                rotate_left
                ·simp only [Act.put, List.setIfInBounds_toArray, List.set_cons_zero, List.set_cons_succ, i64_w, i32_w]
                 rfl
                refine pure_ (i := 14) (N := some 35) (v := ?_) (a' := ?_) #[tt,tt,tt,tt,tt,tt,tt,tt,tt,tt,tt,tt,tt,tt,tt,ff,ff,ff,ff,tt,ff,ff,ff,ff] rfl rfl (any_of HT_.out (by kernel_rfl)) (fun _ _ _ h => h) (Or.inl ⟨by rfl, ?_⟩) ?_ ?_
                rotate_left
                ·intro w'
                 go_simp
                 with_reducible rfl
                rotate_left
                ·simp only [Act.put, List.setIfInBounds_toArray, List.set_cons_zero, List.set_cons_succ, i64_w, i32_w]
                 rfl
                refine take_ (i := 15) (N := some 36) (v := ?_) (a' := ?_) #[tt,tt,tt,tt,tt,tt,tt,tt,tt,tt,tt,tt,tt,tt,tt,tt,ff,ff,ff,tt,ff,ff,ff,ff] rfl rfl (take_ofW HT_.out HW_.out (by kernel_rfl)) (fun _ _ _ h => h) (Or.inl ⟨by rfl, ?_⟩) hHeld ?_ ?_
                rotate_left
                ·rintro w' ⟨s0, s1, s2, s3, s4, s5, s6, s7, s8⟩
                 go_simp
                 with_reducible rfl
                rotate_left
                ·simp only [Act.put, List.setIfInBounds_toArray, List.set_cons_zero, List.set_cons_succ, i64_w, i32_w]
                 rfl
                refine take_ (i := 20) (N := some 41) (v := ?_) (a' := ?_) #[tt,tt,tt,tt,tt,tt,tt,tt,tt,tt,tt,tt,tt,tt,tt,tt,ff,ff,ff,tt,tt,ff,ff,ff] rfl rfl (take_ofW HT_.out HW_.out (by kernel_rfl)) (fun _ _ _ h => h) (Or.inl ⟨by rfl, ?_⟩) hHeld ?_ ?_
                rotate_left
                ·rintro w' ⟨s0, s1, s2, s3, s4, s5, s6, s7, s8⟩
                 go_simp
                 with_reducible rfl
                rotate_left
                ·simp only [Act.put, List.setIfInBounds_toArray, List.set_cons_zero, List.set_cons_succ, i64_w, i32_w]
                 rfl
                refine one_ (i := 16) (N := some 37) #[tt,tt,tt,tt,tt,tt,tt,tt,tt,tt,tt,tt,tt,tt,tt,tt,tt,ff,ff,tt,tt,ff,ff,ff] rfl rfl (one_of HT_.out (by kernel_rfl)) (by decide) (fun K hK => ?_)
                refine goes_ Tryd.func22 (by kernel_rfl) rfl #[.agg #[.int .i64 t132, .int .i64 t133, .int .i64 t134, .int .i64 t135, .int .i64 t136, .int .i64 t137, .int .i64 t138]] (by rfl) rfl rfl (by (try simp only [List.map_toArray, List.map_cons, List.map_nil]); first | done | rfl | (simp only [List.length_drop, List.length_take]; rfl)) ?_
                with_reducible refine (date_clock.calls t132 t133 t134 t135 t136 t137 t138 t142 _ A19.out).mono ?_
                rintro e w30 ⟨rfl, hb⟩
                refine ⟨_, rfl, ?_⟩
                have n0_ := Aside0.mk (blk_below (g := gb140) (o := .cells #[.int .i64 t132, .int .i64 t133, .int .i64 t134, .int .i64 t135, .int .i64 t136, .int .i64 t137, .int .i64 t138] 33 (0, 0)) (by (with_reducible repeat (first | refine blk_drewN ?_ _ | refine blk_drew ?_ | refine blk_alloc ?_ _)); exact BK140.out) hb)
                have n1_ := Aside0.mk (below_step (by repeat (first | (with_reducible first | exact HB.out | apply below_alloc | apply pw_below_drewN | apply below_drew1 | refine below_set ?_ GE140.out) | exact HB.out)) hb)
                clear BK140
                clear HB
                have BK140 := n0_
                have HB := n1_
                clear n0_ n1_
                (try clear hb)
                (try clear hb2)
                (try clear hk)
                (try clear hi)
                refine hK.out _ _ ⟨(blk_cell BK140.out 0).trans rfl, (blk_cell BK140.out 1).trans rfl, (blk_cell BK140.out 2).trans rfl, (blk_cell BK140.out 3).trans rfl, (blk_cell BK140.out 4).trans rfl, (blk_cell BK140.out 5).trans rfl, (blk_cell BK140.out 6).trans rfl, ((HB.out.cell (World.block_lt_of_cell? w _ hw9_0)).trans hw9_0), ((HB.out.cell (World.block_lt_of_cell? w _ hw14_0)).trans hw14_0)⟩ (fun hHeld => ?_)
                clear hK K
                refine norm_ (a' := ?_) ?_ ?_
                rotate_left
                ·show Act.put _ (some 37) _ = _
                 simp only [Act.put, List.setIfInBounds_toArray, List.set_cons_zero, List.set_cons_succ, i64_w, i32_w]
                 rfl
                refine pure_ (i := 17) (N := some 38) (v := ?_) (a' := ?_) #[tt,tt,tt,tt,tt,tt,tt,tt,tt,tt,tt,tt,tt,tt,tt,tt,tt,tt,ff,tt,tt,ff,ff,ff] rfl rfl (any_of HT_.out (by kernel_rfl)) (fun _ _ _ h => h) (Or.inl ⟨by rfl, ?_⟩) ?_ ?_
                rotate_left
                ·intro w'
                 go_simp
                 with_reducible rfl
                rotate_left
                ·simp only [Act.put, List.setIfInBounds_toArray, List.set_cons_zero, List.set_cons_succ, i64_w, i32_w]
                 rfl
                refine pure_ (i := 18) (N := some 39) (v := ?_) (a' := ?_) #[tt,tt,tt,tt,tt,tt,tt,tt,tt,tt,tt,tt,tt,tt,tt,tt,tt,tt,tt,tt,tt,ff,ff,ff] rfl rfl (any_of HT_.out (by kernel_rfl)) (fun _ _ _ h => h) (Or.inl ⟨by rfl, ?_⟩) ?_ ?_
                rotate_left
                ·intro w'
                 go_simp
                 with_reducible rfl
                rotate_left
                ·simp only [Act.put, List.setIfInBounds_toArray, List.set_cons_zero, List.set_cons_succ, i64_w, i32_w]
                 rfl
                refine one_ (i := 21) (N := some 42) #[tt,tt,tt,tt,tt,tt,tt,tt,tt,tt,tt,tt,tt,tt,tt,tt,tt,tt,tt,tt,tt,tt,ff,ff] rfl rfl (one_of HT_.out (by kernel_rfl)) (by decide) (fun K hK => ?_)
                refine goes_ Tryd.func21 (by kernel_rfl) rfl #[.int .i64 t132] (by rfl) rfl rfl (by (try simp only [List.map_toArray, List.map_cons, List.map_nil]); first | done | rfl | (simp only [List.length_drop, List.length_take]; rfl)) ?_
                with_reducible refine (strconv_Itoa.calls t132 t143 _ ?side1 A22.out).mono ?_
                (case side1 => exact Amb.at HG.out (by repeat (first | (with_reducible first | exact HB.out | apply below_alloc | apply pw_below_drewN | apply below_drew1 | refine below_set ?_ GE140.out) | exact HB.out)))
                rintro e w31 ⟨rfl, hb⟩
                refine ⟨_, rfl, ?_⟩
                have n0_ := Aside0.mk (blk_below (g := gb140) (o := .cells #[.int .i64 t132, .int .i64 t133, .int .i64 t134, .int .i64 t135, .int .i64 t136, .int .i64 t137, .int .i64 t138] 33 (0, 0)) (by (with_reducible repeat (first | refine blk_drewN ?_ _ | refine blk_drew ?_ | refine blk_alloc ?_ _)); exact BK140.out) hb)
                have n1_ := Aside0.mk (below_step (by repeat (first | (with_reducible first | exact HB.out | apply below_alloc | apply pw_below_drewN | apply below_drew1 | refine below_set ?_ GE140.out) | exact HB.out)) hb)
                clear BK140
                clear HB
                have BK140 := n0_
                have HB := n1_
                clear n0_ n1_
                (try clear hb)
                (try clear hb2)
                (try clear hk)
                (try clear hi)
                refine hK.out _ _ ⟨(blk_cell BK140.out 0).trans rfl, (blk_cell BK140.out 1).trans rfl, (blk_cell BK140.out 2).trans rfl, (blk_cell BK140.out 3).trans rfl, (blk_cell BK140.out 4).trans rfl, (blk_cell BK140.out 5).trans rfl, (blk_cell BK140.out 6).trans rfl, ((HB.out.cell (World.block_lt_of_cell? w _ hw9_0)).trans hw9_0), ((HB.out.cell (World.block_lt_of_cell? w _ hw14_0)).trans hw14_0)⟩ (fun hHeld => ?_)
                clear hK K
                refine norm_ (a' := ?_) ?_ ?_
                rotate_left
                ·show Act.put _ (some 42) _ = _
                 simp only [Act.put, List.setIfInBounds_toArray, List.set_cons_zero, List.set_cons_succ, i64_w, i32_w]
                 rfl
                refine pure_ (i := 22) (N := some 43) (v := ?_) (a' := ?_) #[tt,tt,tt,tt,tt,tt,tt,tt,tt,tt,tt,tt,tt,tt,tt,tt,tt,tt,tt,tt,tt,tt,tt,ff] rfl rfl (any_of HT_.out (by kernel_rfl)) (fun _ _ _ h => h) (Or.inl ⟨by rfl, ?_⟩) ?_ ?_
                rotate_left
                ·intro w'
                 go_simp
                 with_reducible rfl
                rotate_left
                ·simp only [Act.put, List.setIfInBounds_toArray, List.set_cons_zero, List.set_cons_succ, i64_w, i32_w]
                 rfl
                refine pure_ (i := 23) (N := some 2) (v := ?_) (a' := ?_) #[tt,tt,tt,tt,tt,tt,tt,tt,tt,tt,tt,tt,tt,tt,tt,tt,tt,tt,tt,tt,tt,tt,tt,tt] rfl rfl (any_of HT_.out (by kernel_rfl)) (fun _ _ _ h => h) (Or.inl ⟨by rfl, ?_⟩) ?_ ?_
                rotate_left
                ·intro w'
                 go_simp
                 with_reducible rfl
                rotate_left
                ·simp only [Act.put, List.setIfInBounds_toArray, List.set_cons_zero, List.set_cons_succ, i64_w, i32_w]
                 rfl
                refine done_ (done_of HT_.out (by kernel_rfl)) ?_
                try go_wp2
                go_ret
                exact ⟨by first | rfl | (simp [errW_none, errW_some] <;> rfl) | (simp only [← hji11]; first | rfl | (simp [errW_none, errW_some] <;> rfl)) | (simp [*, errW_none, errW_some] <;> rfl), by repeat (first | (with_reducible first | exact HB.out | apply below_alloc | apply pw_below_drewN | apply below_drew1 | refine below_set ?_ GE140.out) | exact HB.out)⟩
               ·rw [if_neg c23] at H
                exact absurd H (by simp)
              ·rw [if_neg c21] at H
               exact absurd H (by simp)
             ·rw [if_neg c20] at H
              exact absurd H (by simp)
            ·rw [if_neg c18] at H
             exact absurd H (by simp)
           ·rw [if_neg c17] at H
            exact absurd H (by simp)
          ·rw [if_neg c16] at H
           exact absurd H (by simp)
         ·rw [if_neg c15] at H
          exact absurd H (by simp)
        ·rw [if_neg c13] at H
         exact absurd H (by simp)
       ·rw [if_neg c12] at H
        exact absurd H (by simp)
      ·rw [if_neg c10] at H
       exact absurd H (by simp)
     ·rw [if_neg c8] at H
      exact absurd H (by simp)
    ·rw [if_neg c7] at H
     exact absurd H (by simp)
   ·rw [if_neg c6] at H
    exact absurd H (by simp)
  ·rw [if_neg c5] at H
   have c5b0 : decide (t134 < 10) = false := decide_eq_false c5
   clear c5
   by_cases c32 : 0 ≤ t138
   ·rw [if_pos c32] at H
    have c32b0 : decide (0 ≤ t138) = true := decide_eq_true c32
    clear c32
    by_cases c33 : t138 < 7
    ·rw [if_pos c33] at H
     have c33b0 : decide (t138 < 7) = true := decide_eq_true c33
     clear c33
     by_cases c35 : (rdOf ByteArray.empty Tab0 t138).size + 1 ≤ 9223372036854775807
     ·rw [if_pos c35] at H
      have c35b0 := eq_true c35
      have c35b1 : decide ((rdOf ByteArray.empty Tab0 t138).size + 1 ≤ 9223372036854775807) = true := decide_eq_true c35
      try have c35b2 : (9223372036854775807 < (rdOf ByteArray.empty Tab0 t138).size + 1) = False := eq_false (Nat.not_lt.2 c35)
      obtain ⟨ji36, hji36⟩ : ∃ j_ : Int, (wrap64 (t133 - 1)) = j_ := ⟨_, rfl⟩
      replace H : (if 0 ≤ (ji36) then (if (ji36) < 12 then (if (rdOf ByteArray.empty Tab0 t138).size + 1 + (rdOf ByteArray.empty Tab1 (ji36)).size ≤ 9223372036854775807 then (if (rdOf ByteArray.empty Tab0 t138).size + 1 + (rdOf ByteArray.empty Tab1 (ji36)).size + 1 ≤ 9223372036854775807 then (if (rdOf ByteArray.empty Tab0 t138).size + 1 + (rdOf ByteArray.empty Tab1 (ji36)).size + 1 + t141.size ≤ 9223372036854775807 then (if (rdOf ByteArray.empty Tab0 t138).size + 1 + (rdOf ByteArray.empty Tab1 (ji36)).size + 1 + t141.size + 1 ≤ 9223372036854775807 then ((date_clock.f t132 t133 t134 t135 t136 t137 t138).bind fun t144 => (if (rdOf ByteArray.empty Tab0 t138).size + 1 + (rdOf ByteArray.empty Tab1 (ji36)).size + 1 + t141.size + 1 + t144.size ≤ 9223372036854775807 then (if (rdOf ByteArray.empty Tab0 t138).size + 1 + (rdOf ByteArray.empty Tab1 (ji36)).size + 1 + t141.size + 1 + t144.size + 1 ≤ 9223372036854775807 then ((strconv_Itoa.f t132).bind fun t145 => (if (rdOf ByteArray.empty Tab0 t138).size + 1 + (rdOf ByteArray.empty Tab1 (ji36)).size + 1 + t141.size + 1 + t144.size + 1 + t145.size ≤ 9223372036854775807 then (some (((((((((rdOf ByteArray.empty Tab0 t138) ++ (⟨#[32]⟩ : ByteArray)) ++ (rdOf ByteArray.empty Tab1 (ji36))) ++ (⟨#[32]⟩ : ByteArray)) ++ t141) ++ (⟨#[32]⟩ : ByteArray)) ++ t144) ++ (⟨#[32]⟩ : ByteArray)) ++ t145)) else (none))) else (none)) else (none))) else (none)) else (none)) else (none)) else (none)) else (none)) else (none)) = some r := by first | (rw [hji36] at H; exact H) | (simp only [hji36] at H ⊢; exact H)
      (try rw [hji36] at A2)
      (try rw [hji36] at A4)
      have hji36w : (IntKind.i64.wrap (t133 - 1)) = ji36 := (i64_w _).trans hji36
      by_cases c37 : 0 ≤ (ji36)
      ·rw [if_pos c37] at H
       have c37b0 : decide (0 ≤ (ji36)) = true := decide_eq_true c37
       clear c37
       by_cases c38 : (ji36) < 12
       ·rw [if_pos c38] at H
        have c38b0 : decide ((ji36) < 12) = true := decide_eq_true c38
        clear c38
        by_cases c40 : (rdOf ByteArray.empty Tab0 t138).size + 1 + (rdOf ByteArray.empty Tab1 (ji36)).size ≤ 9223372036854775807
        ·rw [if_pos c40] at H
         have c40b0 := eq_true c40
         have c40b1 : decide ((rdOf ByteArray.empty Tab0 t138).size + 1 + (rdOf ByteArray.empty Tab1 (ji36)).size ≤ 9223372036854775807) = true := decide_eq_true c40
         try have c40b2 : (9223372036854775807 < (rdOf ByteArray.empty Tab0 t138).size + 1 + (rdOf ByteArray.empty Tab1 (ji36)).size) = False := eq_false (Nat.not_lt.2 c40)
         by_cases c41 : (rdOf ByteArray.empty Tab0 t138).size + 1 + (rdOf ByteArray.empty Tab1 (ji36)).size + 1 ≤ 9223372036854775807
         ·rw [if_pos c41] at H
          have c41b0 := eq_true c41
          have c41b1 : decide ((rdOf ByteArray.empty Tab0 t138).size + 1 + (rdOf ByteArray.empty Tab1 (ji36)).size + 1 ≤ 9223372036854775807) = true := decide_eq_true c41
          try have c41b2 : (9223372036854775807 < (rdOf ByteArray.empty Tab0 t138).size + 1 + (rdOf ByteArray.empty Tab1 (ji36)).size + 1) = False := eq_false (Nat.not_lt.2 c41)
          by_cases c42 : (rdOf ByteArray.empty Tab0 t138).size + 1 + (rdOf ByteArray.empty Tab1 (ji36)).size + 1 + t141.size ≤ 9223372036854775807
          ·rw [if_pos c42] at H
           have c42b0 := eq_true c42
           have c42b1 : decide ((rdOf ByteArray.empty Tab0 t138).size + 1 + (rdOf ByteArray.empty Tab1 (ji36)).size + 1 + t141.size ≤ 9223372036854775807) = true := decide_eq_true c42
           try have c42b2 : (9223372036854775807 < (rdOf ByteArray.empty Tab0 t138).size + 1 + (rdOf ByteArray.empty Tab1 (ji36)).size + 1 + t141.size) = False := eq_false (Nat.not_lt.2 c42)
           by_cases c43 : (rdOf ByteArray.empty Tab0 t138).size + 1 + (rdOf ByteArray.empty Tab1 (ji36)).size + 1 + t141.size + 1 ≤ 9223372036854775807
           ·rw [if_pos c43] at H
            have c43b0 := eq_true c43
            have c43b1 : decide ((rdOf ByteArray.empty Tab0 t138).size + 1 + (rdOf ByteArray.empty Tab1 (ji36)).size + 1 + t141.size + 1 ≤ 9223372036854775807) = true := decide_eq_true c43
            try have c43b2 : (9223372036854775807 < (rdOf ByteArray.empty Tab0 t138).size + 1 + (rdOf ByteArray.empty Tab1 (ji36)).size + 1 + t141.size + 1) = False := eq_false (Nat.not_lt.2 c43)
            replace H := Option.bind_eq_some_iff.mp H
            obtain ⟨t144, A440, H⟩ := H
            replace H : (if (rdOf ByteArray.empty Tab0 t138).size + 1 + (rdOf ByteArray.empty Tab1 (ji36)).size + 1 + t141.size + 1 + t144.size ≤ 9223372036854775807 then (if (rdOf ByteArray.empty Tab0 t138).size + 1 + (rdOf ByteArray.empty Tab1 (ji36)).size + 1 + t141.size + 1 + t144.size + 1 ≤ 9223372036854775807 then ((strconv_Itoa.f t132).bind fun t145 => (if (rdOf ByteArray.empty Tab0 t138).size + 1 + (rdOf ByteArray.empty Tab1 (ji36)).size + 1 + t141.size + 1 + t144.size + 1 + t145.size ≤ 9223372036854775807 then (some (((((((((rdOf ByteArray.empty Tab0 t138) ++ (⟨#[32]⟩ : ByteArray)) ++ (rdOf ByteArray.empty Tab1 (ji36))) ++ (⟨#[32]⟩ : ByteArray)) ++ t141) ++ (⟨#[32]⟩ : ByteArray)) ++ t144) ++ (⟨#[32]⟩ : ByteArray)) ++ t145)) else (none))) else (none)) else (none)) = some r := H
            have A44 := Aside0.mk A440
            clear A440
            by_cases c45 : (rdOf ByteArray.empty Tab0 t138).size + 1 + (rdOf ByteArray.empty Tab1 (ji36)).size + 1 + t141.size + 1 + t144.size ≤ 9223372036854775807
            ·rw [if_pos c45] at H
             have c45b0 := eq_true c45
             have c45b1 : decide ((rdOf ByteArray.empty Tab0 t138).size + 1 + (rdOf ByteArray.empty Tab1 (ji36)).size + 1 + t141.size + 1 + t144.size ≤ 9223372036854775807) = true := decide_eq_true c45
             try have c45b2 : (9223372036854775807 < (rdOf ByteArray.empty Tab0 t138).size + 1 + (rdOf ByteArray.empty Tab1 (ji36)).size + 1 + t141.size + 1 + t144.size) = False := eq_false (Nat.not_lt.2 c45)
             by_cases c46 : (rdOf ByteArray.empty Tab0 t138).size + 1 + (rdOf ByteArray.empty Tab1 (ji36)).size + 1 + t141.size + 1 + t144.size + 1 ≤ 9223372036854775807
             ·rw [if_pos c46] at H
              have c46b0 := eq_true c46
              have c46b1 : decide ((rdOf ByteArray.empty Tab0 t138).size + 1 + (rdOf ByteArray.empty Tab1 (ji36)).size + 1 + t141.size + 1 + t144.size + 1 ≤ 9223372036854775807) = true := decide_eq_true c46
              try have c46b2 : (9223372036854775807 < (rdOf ByteArray.empty Tab0 t138).size + 1 + (rdOf ByteArray.empty Tab1 (ji36)).size + 1 + t141.size + 1 + t144.size + 1) = False := eq_false (Nat.not_lt.2 c46)
              replace H := Option.bind_eq_some_iff.mp H
              obtain ⟨t145, A470, H⟩ := H
              replace H : (if (rdOf ByteArray.empty Tab0 t138).size + 1 + (rdOf ByteArray.empty Tab1 (ji36)).size + 1 + t141.size + 1 + t144.size + 1 + t145.size ≤ 9223372036854775807 then (some (((((((((rdOf ByteArray.empty Tab0 t138) ++ (⟨#[32]⟩ : ByteArray)) ++ (rdOf ByteArray.empty Tab1 (ji36))) ++ (⟨#[32]⟩ : ByteArray)) ++ t141) ++ (⟨#[32]⟩ : ByteArray)) ++ t144) ++ (⟨#[32]⟩ : ByteArray)) ++ t145)) else (none)) = some r := H
              have A47 := Aside0.mk A470
              clear A470
              by_cases c48 : (rdOf ByteArray.empty Tab0 t138).size + 1 + (rdOf ByteArray.empty Tab1 (ji36)).size + 1 + t141.size + 1 + t144.size + 1 + t145.size ≤ 9223372036854775807
              ·rw [if_pos c48] at H
               have c48b0 := eq_true c48
               have c48b1 : decide ((rdOf ByteArray.empty Tab0 t138).size + 1 + (rdOf ByteArray.empty Tab1 (ji36)).size + 1 + t141.size + 1 + t144.size + 1 + t145.size ≤ 9223372036854775807) = true := decide_eq_true c48
               try have c48b2 : (9223372036854775807 < (rdOf ByteArray.empty Tab0 t138).size + 1 + (rdOf ByteArray.empty Tab1 (ji36)).size + 1 + t141.size + 1 + t144.size + 1 + t145.size) = False := eq_false (Nat.not_lt.2 c48)
               obtain rfl := Option.some.inj H
               go_enter Tryd.func10, Tryd.ntmps10
               try go_wp2_with (first | ((with_reducible refine gate_callee (f := 15) rfl ?_); refine goesL_ (some 8) rfl rfl Tryd.func15 (by kernel_rfl) rfl #[.int .i64 a0] rfl (by (try simp only [List.map_toArray, List.map_cons, List.map_nil]); first | done | rfl | (simp only [List.length_drop, List.length_take]; rfl)) ?_; (with_reducible refine (date_Of.calls k a0 t132 t133 t134 t135 t136 t137 t138 true _ ?side1 A2.out).mono ?_); (case side1 => exact Amb.at HG.out (by repeat (first | (with_reducible first | exact HB.out | apply below_alloc | apply pw_below_drewN | apply below_drew1) | exact HB.out))); rintro e w49 ⟨rfl, hb⟩; refine ⟨_, rfl, ?_⟩; have n0_ := Aside0.mk (below_step (by repeat (first | (with_reducible first | exact HB.out | apply below_alloc | apply pw_below_drewN | apply below_drew1) | exact HB.out)) hb); clear HB; have HB := n0_; clear n0_; (try clear hb); (try clear hb2); (try clear hk); (try clear hi)) | ((with_reducible refine gate_dst (N := 3) rfl ?_); refine box_event ?hg (N := 3) ?hd (cs := #[.int .i64 0, .int .i64 0, .int .i64 0, .int .i64 0, .int .i64 0, .int .i64 0, .int .i64 0]) (t := 33) ?hr ?_; (case hd => rfl); (case hg => rfl); (case hr => first | (go_simp; done) | (go_simp; rfl)); intro gb140 hg w50 hbox hb; have n0_ := Aside0.mk (below_step (by repeat (first | (with_reducible first | exact HB.out | apply below_alloc | apply pw_below_drewN | apply below_drew1) | exact HB.out)) hb); have n1_ := Aside0.mk (hbox); have n2_ := Aside0.mk ((by rw [hg]; exact (below_size (by repeat (first | (with_reducible first | exact HB.out | apply below_alloc | apply pw_below_drewN | apply below_drew1) | exact HB.out))) : w.heap.size ≤ gb140)); have n3_ := Aside0.mk ((by rw [hg]; exact (below_size (by repeat (first | (with_reducible first | exact HB.out | apply below_alloc | apply pw_below_drewN | apply below_drew1) | exact HB.out))) : w.heap.size ≤ gb140)); clear HB; have HB := n0_; have BK140 := n1_; have GW140 := n2_; have GE140 := n3_; clear n0_ n1_ n2_ n3_; clear hb hbox hg; have hcz51_0 : w50.cell? ⟨gb140, 0, none⟩ = some (.int .i64 0) := (blk_cell BK140.out 0).trans rfl; have hcz51_1 : w50.cell? ⟨gb140, 1, none⟩ = some (.int .i64 0) := (blk_cell BK140.out 1).trans rfl; have hcz51_2 : w50.cell? ⟨gb140, 2, none⟩ = some (.int .i64 0) := (blk_cell BK140.out 2).trans rfl; have hcz51_3 : w50.cell? ⟨gb140, 3, none⟩ = some (.int .i64 0) := (blk_cell BK140.out 3).trans rfl; have hcz51_4 : w50.cell? ⟨gb140, 4, none⟩ = some (.int .i64 0) := (blk_cell BK140.out 4).trans rfl; have hcz51_5 : w50.cell? ⟨gb140, 5, none⟩ = some (.int .i64 0) := (blk_cell BK140.out 5).trans rfl; have hcz51_6 : w50.cell? ⟨gb140, 6, none⟩ = some (.int .i64 0) := (blk_cell BK140.out 6).trans rfl; have hfz51_0 := blk_frozen BK140.out 0; have hfz51_1 := blk_frozen BK140.out 1; have hfz51_2 := blk_frozen BK140.out 2; have hfz51_3 := blk_frozen BK140.out 3; have hfz51_4 := blk_frozen BK140.out 4; have hfz51_5 := blk_frozen BK140.out 5; have hfz51_6 := blk_frozen BK140.out 6) | ((with_reducible refine gate_callee (f := 21) rfl ?_); refine goesL_ (some 15) rfl rfl Tryd.func21 (by kernel_rfl) rfl #[.int .i64 t134] rfl (by (try simp only [List.map_toArray, List.map_cons, List.map_nil]); first | done | rfl | (simp only [List.length_drop, List.length_take]; rfl)) ?_; (with_reducible refine (strconv_Itoa.calls t134 t141 _ ?side1 A4.out).mono ?_); (case side1 => exact Amb.at HG.out (by repeat (first | (with_reducible first | exact HB.out | apply below_alloc | apply pw_below_drewN | apply below_drew1 | refine below_set ?_ GE140.out) | exact HB.out))); rintro e w52 ⟨rfl, hb⟩; refine ⟨_, rfl, ?_⟩; have n0_ := Aside0.mk (blk_below (g := gb140) (o := .cells #[.int .i64 t132, .int .i64 t133, .int .i64 t134, .int .i64 t135, .int .i64 t136, .int .i64 t137, .int .i64 t138] 33 (0, 0)) (by (with_reducible repeat (first | refine blk_drewN ?_ _ | refine blk_drew ?_ | refine blk_alloc ?_ _)); refine blk_put (cs := #[.int .i64 t132, .int .i64 t133, .int .i64 t134, .int .i64 t135, .int .i64 t136, .int .i64 t137, .int .i64 0]) ?_ 6 _ rfl; (with_reducible repeat (first | refine blk_drewN ?_ _ | refine blk_drew ?_ | refine blk_alloc ?_ _)); refine blk_put (cs := #[.int .i64 t132, .int .i64 t133, .int .i64 t134, .int .i64 t135, .int .i64 t136, .int .i64 0, .int .i64 0]) ?_ 5 _ rfl; (with_reducible repeat (first | refine blk_drewN ?_ _ | refine blk_drew ?_ | refine blk_alloc ?_ _)); refine blk_put (cs := #[.int .i64 t132, .int .i64 t133, .int .i64 t134, .int .i64 t135, .int .i64 0, .int .i64 0, .int .i64 0]) ?_ 4 _ rfl; (with_reducible repeat (first | refine blk_drewN ?_ _ | refine blk_drew ?_ | refine blk_alloc ?_ _)); refine blk_put (cs := #[.int .i64 t132, .int .i64 t133, .int .i64 t134, .int .i64 0, .int .i64 0, .int .i64 0, .int .i64 0]) ?_ 3 _ rfl; (with_reducible repeat (first | refine blk_drewN ?_ _ | refine blk_drew ?_ | refine blk_alloc ?_ _)); refine blk_put (cs := #[.int .i64 t132, .int .i64 t133, .int .i64 0, .int .i64 0, .int .i64 0, .int .i64 0, .int .i64 0]) ?_ 2 _ rfl; (with_reducible repeat (first | refine blk_drewN ?_ _ | refine blk_drew ?_ | refine blk_alloc ?_ _)); refine blk_put (cs := #[.int .i64 t132, .int .i64 0, .int .i64 0, .int .i64 0, .int .i64 0, .int .i64 0, .int .i64 0]) ?_ 1 _ rfl; (with_reducible repeat (first | refine blk_drewN ?_ _ | refine blk_drew ?_ | refine blk_alloc ?_ _)); refine blk_put (cs := #[.int .i64 0, .int .i64 0, .int .i64 0, .int .i64 0, .int .i64 0, .int .i64 0, .int .i64 0]) ?_ 0 _ rfl; (with_reducible repeat (first | refine blk_drewN ?_ _ | refine blk_drew ?_ | refine blk_alloc ?_ _)); exact BK140.out) hb); have n1_ := Aside0.mk (below_step (by repeat (first | (with_reducible first | exact HB.out | apply below_alloc | apply pw_below_drewN | apply below_drew1 | refine below_set ?_ GE140.out) | exact HB.out)) hb); clear BK140; clear HB; have BK140 := n0_; have HB := n1_; clear n0_ n1_; (try clear hb); (try clear hb2); (try clear hk); (try clear hi); have hcz53_0 : w52.cell? ⟨gb140, 0, none⟩ = some (.int .i64 t132) := (blk_cell BK140.out 0).trans rfl; have hcz53_1 : w52.cell? ⟨gb140, 1, none⟩ = some (.int .i64 t133) := (blk_cell BK140.out 1).trans rfl; have hcz53_2 : w52.cell? ⟨gb140, 2, none⟩ = some (.int .i64 t134) := (blk_cell BK140.out 2).trans rfl; have hcz53_3 : w52.cell? ⟨gb140, 3, none⟩ = some (.int .i64 t135) := (blk_cell BK140.out 3).trans rfl; have hcz53_4 : w52.cell? ⟨gb140, 4, none⟩ = some (.int .i64 t136) := (blk_cell BK140.out 4).trans rfl; have hcz53_5 : w52.cell? ⟨gb140, 5, none⟩ = some (.int .i64 t137) := (blk_cell BK140.out 5).trans rfl; have hcz53_6 : w52.cell? ⟨gb140, 6, none⟩ = some (.int .i64 t138) := (blk_cell BK140.out 6).trans rfl; have hfz53_0 := blk_frozen BK140.out 0; have hfz53_1 := blk_frozen BK140.out 1; have hfz53_2 := blk_frozen BK140.out 2; have hfz53_3 := blk_frozen BK140.out 3; have hfz53_4 := blk_frozen BK140.out 4; have hfz53_5 := blk_frozen BK140.out 5; have hfz53_6 := blk_frozen BK140.out 6))
               have n0_ := Aside0.mk (blk_drew BK140.out)
               have n1_ := Aside0.mk (below_drew1 HB.out)
               clear BK140
               clear HB
               have BK140 := n0_
               have HB := n1_
               clear n0_ n1_
               have p34 : 0 ≤ (t138 : Int) := of_decide_eq_true (by first | (with_reducible assumption) | assumption)
               have q34 : (t138 : Int) < 7 := of_decide_eq_true (by first | (with_reducible assumption) | assumption)
               have hw34_0 : w.cell? ⟨0, (t138).toNat, none⟩ = some (.string (rdOf ByteArray.empty Tab0 t138)) := HG.out.t0 t138 p34 q34
               have hx34_0 := (HB.out.cell (World.block_lt_of_cell? w _ hw34_0)).trans hw34_0
               replace p34 := eq_true p34
               replace q34 := eq_true q34
               have p39 : 0 ≤ ((ji36) : Int) := of_decide_eq_true (by first | (with_reducible assumption) | assumption)
               have q39 : ((ji36) : Int) < 12 := of_decide_eq_true (by first | (with_reducible assumption) | assumption)
               have hw39_0 : w.cell? ⟨1, ((ji36)).toNat, none⟩ = some (.string (rdOf ByteArray.empty Tab1 (ji36))) := HG.out.t1 (ji36) p39 q39
               have hx39_0 := (HB.out.cell (World.block_lt_of_cell? w _ hw39_0)).trans hw39_0
               replace p39 := eq_true p39
               replace q39 := eq_true q39
               refine start_ (n := 24) (S := fun w' => w'.cell? ⟨gb140, 0, none⟩ = some (.int .i64 t132) ∧ w'.cell? ⟨gb140, 1, none⟩ = some (.int .i64 t133) ∧ w'.cell? ⟨gb140, 2, none⟩ = some (.int .i64 t134) ∧ w'.cell? ⟨gb140, 3, none⟩ = some (.int .i64 t135) ∧ w'.cell? ⟨gb140, 4, none⟩ = some (.int .i64 t136) ∧ w'.cell? ⟨gb140, 5, none⟩ = some (.int .i64 t137) ∧ w'.cell? ⟨gb140, 6, none⟩ = some (.int .i64 t138) ∧ w'.cell? ⟨0, (t138).toNat, none⟩ = some (.string (rdOf ByteArray.empty Tab0 t138)) ∧ w'.cell? ⟨1, ((ji36)).toNat, none⟩ = some (.string (rdOf ByteArray.empty Tab1 (ji36)))) (ds := []) #[ff,ff,ff,ff,ff,ff,ff,ff,ff,ff,ff,ff,ff,ff,ff,ff,ff,ff,ff,ff,ff,ff,ff,ff] (by kernel_rfl) rfl rfl ⟨(blk_cell BK140.out 0).trans rfl, (blk_cell BK140.out 1).trans rfl, (blk_cell BK140.out 2).trans rfl, (blk_cell BK140.out 3).trans rfl, (blk_cell BK140.out 4).trans rfl, (blk_cell BK140.out 5).trans rfl, (blk_cell BK140.out 6).trans rfl, ((HB.out.cell (World.block_lt_of_cell? w _ hw34_0)).trans hw34_0), ((HB.out.cell (World.block_lt_of_cell? w _ hw39_0)).trans hw39_0)⟩ (fun hHeld => ?_); refine with_tabW date_Line.tab7 date_Line.bits7 (fun HT_ HW_ => ?_)
               generalize w52.drew = w54 at BK140 HB hx34_0 hx39_0 hHeld ⊢
               refine pure_ (i := 0) (N := some 21) (v := ?_) (a' := ?_) #[tt,ff,ff,ff,ff,ff,ff,ff,ff,ff,ff,ff,ff,ff,ff,ff,ff,ff,ff,ff,ff,ff,ff,ff] rfl rfl (any_of HT_.out (by kernel_rfl)) (fun _ _ _ h => h) (Or.inl ⟨by rfl, ?_⟩) ?_ ?_
               rotate_left
               ·intro w'
                go_simp
                with_reducible rfl
               rotate_left
               ·simp only [Act.put, List.setIfInBounds_toArray, List.set_cons_zero, List.set_cons_succ, i64_w, i32_w]
                rfl
               refine pure_ (i := 5) (N := some 26) (v := ?_) (a' := ?_) #[tt,ff,ff,ff,ff,tt,ff,ff,ff,ff,ff,ff,ff,ff,ff,ff,ff,ff,ff,ff,ff,ff,ff,ff] rfl rfl (any_of HT_.out (by kernel_rfl)) (fun _ _ _ h => h) (Or.inl ⟨by rfl, ?_⟩) ?_ ?_
               rotate_left
               ·intro w'
                go_simp
                with_reducible rfl
               rotate_left
               ·simp only [Act.put, List.setIfInBounds_toArray, List.set_cons_zero, List.set_cons_succ, i64_w, i32_w]
                rfl
               refine pure_ (i := 12) (N := some 33) (v := ?_) (a' := ?_) #[tt,ff,ff,ff,ff,tt,ff,ff,ff,ff,ff,ff,tt,ff,ff,ff,ff,ff,ff,ff,ff,ff,ff,ff] rfl rfl (any_of HT_.out (by kernel_rfl)) (fun _ _ _ h => h) (Or.inl ⟨by rfl, ?_⟩) ?_ ?_
               rotate_left
               ·intro w'
                go_simp
                with_reducible rfl
               rotate_left
               ·simp only [Act.put, List.setIfInBounds_toArray, List.set_cons_zero, List.set_cons_succ, i64_w, i32_w]
                rfl
               refine pure_ (i := 19) (N := some 40) (v := ?_) (a' := ?_) #[tt,ff,ff,ff,ff,tt,ff,ff,ff,ff,ff,ff,tt,ff,ff,ff,ff,ff,ff,tt,ff,ff,ff,ff] rfl rfl (any_of HT_.out (by kernel_rfl)) (fun _ _ _ h => h) (Or.inl ⟨by rfl, ?_⟩) ?_ ?_
               rotate_left
               ·intro w'
                go_simp
                with_reducible rfl
               rotate_left
               ·simp only [Act.put, List.setIfInBounds_toArray, List.set_cons_zero, List.set_cons_succ, i64_w, i32_w]
                rfl
               refine take_ (i := 1) (N := some 22) (v := ?_) (a' := ?_) #[tt,tt,ff,ff,ff,tt,ff,ff,ff,ff,ff,ff,tt,ff,ff,ff,ff,ff,ff,tt,ff,ff,ff,ff] rfl rfl (take_ofW HT_.out HW_.out (by kernel_rfl)) (fun _ _ _ h => h) (Or.inl ⟨by rfl, ?_⟩) hHeld ?_ ?_
               rotate_left
               ·rintro w' ⟨s0, s1, s2, s3, s4, s5, s6, s7, s8⟩
                go_simp
                with_reducible rfl
               rotate_left
               ·simp only [Act.put, List.setIfInBounds_toArray, List.set_cons_zero, List.set_cons_succ, i64_w, i32_w]
                rfl
               refine pure_ (i := 2) (N := some 23) (v := ?_) (a' := ?_) #[tt,tt,tt,ff,ff,tt,ff,ff,ff,ff,ff,ff,tt,ff,ff,ff,ff,ff,ff,tt,ff,ff,ff,ff] rfl rfl (any_of HT_.out (by kernel_rfl)) (fun _ _ _ h => h) (Or.inl ⟨by rfl, ?_⟩) ?_ ?_
               rotate_left
               ·intro w'
                go_simp
                with_reducible rfl
               rotate_left
               ·simp only [Act.put, List.setIfInBounds_toArray, List.set_cons_zero, List.set_cons_succ, i64_w, i32_w]
                rfl
               refine take_ (i := 3) (N := some 24) (v := ?_) (a' := ?_) #[tt,tt,tt,tt,ff,tt,ff,ff,ff,ff,ff,ff,tt,ff,ff,ff,ff,ff,ff,tt,ff,ff,ff,ff] rfl rfl (take_ofW HT_.out HW_.out (by kernel_rfl)) (fun _ _ _ h => h) (Or.inl ⟨by rfl, ?_⟩) hHeld ?_ ?_
               rotate_left
               ·rintro w' ⟨s0, s1, s2, s3, s4, s5, s6, s7, s8⟩
                go_simp
                with_reducible rfl
               rotate_left
               ·simp only [Act.put, List.setIfInBounds_toArray, List.set_cons_zero, List.set_cons_succ, i64_w, i32_w]
                rfl
               refine pure_ (i := 4) (N := some 25) (v := ?_) (a' := ?_) #[tt,tt,tt,tt,tt,tt,ff,ff,ff,ff,ff,ff,tt,ff,ff,ff,ff,ff,ff,tt,ff,ff,ff,ff] rfl rfl (any_of HT_.out (by kernel_rfl)) (fun _ _ _ h => h) (Or.inl ⟨by rfl, ?_⟩) ?_ ?_
               rotate_left
               ·intro w'
                go_simp
                with_reducible rfl
               rotate_left
               ·simp only [Act.put, List.setIfInBounds_toArray, List.set_cons_zero, List.set_cons_succ, i64_w, i32_w]
                rfl
               refine take_ (i := 6) (N := some 27) (v := ?_) (a' := ?_) #[tt,tt,tt,tt,tt,tt,tt,ff,ff,ff,ff,ff,tt,ff,ff,ff,ff,ff,ff,tt,ff,ff,ff,ff] rfl rfl (take_ofW HT_.out HW_.out (by kernel_rfl)) (fun _ _ _ h => h) (Or.inl ⟨by rfl, ?_⟩) hHeld ?_ ?_
               rotate_left
               ·rintro w' ⟨s0, s1, s2, s3, s4, s5, s6, s7, s8⟩
                go_simp
                with_reducible rfl
               rotate_left
               ·simp only [Act.put, List.setIfInBounds_toArray, List.set_cons_zero, List.set_cons_succ, i64_w, i32_w]
                rfl
               refine pure_ (i := 7) (N := some 28) (v := ?_) (a' := ?_) #[tt,tt,tt,tt,tt,tt,tt,tt,ff,ff,ff,ff,tt,ff,ff,ff,ff,ff,ff,tt,ff,ff,ff,ff] rfl rfl (any_of HT_.out (by kernel_rfl)) (fun _ _ _ h => h) (Or.inl ⟨by rfl, ?_⟩) ?_ ?_
               rotate_left
               ·intro w'
                go_simp
                with_reducible rfl
               rotate_left
               ·simp only [Act.put, List.setIfInBounds_toArray, List.set_cons_zero, List.set_cons_succ, i64_w, i32_w]
                rfl
               refine pure_ (i := 8) (N := some 29) (v := ?_) (a' := ?_) #[tt,tt,tt,tt,tt,tt,tt,tt,tt,ff,ff,ff,tt,ff,ff,ff,ff,ff,ff,tt,ff,ff,ff,ff] rfl rfl (any_of HT_.out (by kernel_rfl)) (fun _ _ _ h => h) (Or.inl ⟨by rfl, ?_⟩) ?_ ?_
               rotate_left
               ·intro w'
                go_simp
                with_reducible rfl
               rotate_left
               ·simp only [Act.put, List.setIfInBounds_toArray, List.set_cons_zero, List.set_cons_succ, i64_w, i32_w]
                rfl
               refine take_ (i := 9) (N := some 30) (v := ?_) (a' := ?_) #[tt,tt,tt,tt,tt,tt,tt,tt,tt,tt,ff,ff,tt,ff,ff,ff,ff,ff,ff,tt,ff,ff,ff,ff] rfl rfl (take_ofW HT_.out HW_.out (by kernel_rfl)) (fun _ _ _ h => h) (Or.inl ⟨by rfl, ?_⟩) hHeld ?_ ?_
               rotate_left
               ·rintro w' ⟨s0, s1, s2, s3, s4, s5, s6, s7, s8⟩
                go_simp
                with_reducible rfl
               rotate_left
               ·simp only [Act.put, List.setIfInBounds_toArray, List.set_cons_zero, List.set_cons_succ, i64_w, i32_w]
                rfl
               refine pure_ (i := 10) (N := some 31) (v := ?_) (a' := ?_) #[tt,tt,tt,tt,tt,tt,tt,tt,tt,tt,tt,ff,tt,ff,ff,ff,ff,ff,ff,tt,ff,ff,ff,ff] rfl rfl (any_of HT_.out (by kernel_rfl)) (fun _ _ _ h => h) (Or.inl ⟨by rfl, ?_⟩) ?_ ?_
               rotate_left
               ·intro w'
                go_simp
                with_reducible rfl
               rotate_left
               ·simp only [Act.put, List.setIfInBounds_toArray, List.set_cons_zero, List.set_cons_succ, i64_w, i32_w]
                rfl
               refine pure_ (i := 11) (N := some 32) (v := ?_) (a' := ?_) #[tt,tt,tt,tt,tt,tt,tt,tt,tt,tt,tt,tt,tt,ff,ff,ff,ff,ff,ff,tt,ff,ff,ff,ff] rfl rfl (any_of HT_.out (by kernel_rfl)) (fun _ _ _ h => h) (Or.inl ⟨by rfl, ?_⟩) ?_ ?_
               rotate_left
               ·intro w'
                go_simp
                with_reducible rfl
               rotate_left
               ·simp only [Act.put, List.setIfInBounds_toArray, List.set_cons_zero, List.set_cons_succ, i64_w, i32_w]
                rfl
               refine pure_ (i := 13) (N := some 34) (v := ?_) (a' := ?_) #[tt,tt,tt,tt,tt,tt,tt,tt,tt,tt,tt,tt,tt,tt,ff,ff,ff,ff,ff,tt,ff,ff,ff,ff] rfl rfl (any_of HT_.out (by kernel_rfl)) (fun _ _ _ h => h) (Or.inl ⟨by rfl, ?_⟩) ?_ ?_
               rotate_left
               ·intro w'
                go_simp
                with_reducible rfl
               rotate_left
               ·simp only [Act.put, List.setIfInBounds_toArray, List.set_cons_zero, List.set_cons_succ, i64_w, i32_w]
                rfl
               refine pure_ (i := 14) (N := some 35) (v := ?_) (a' := ?_) #[tt,tt,tt,tt,tt,tt,tt,tt,tt,tt,tt,tt,tt,tt,tt,ff,ff,ff,ff,tt,ff,ff,ff,ff] rfl rfl (any_of HT_.out (by kernel_rfl)) (fun _ _ _ h => h) (Or.inl ⟨by rfl, ?_⟩) ?_ ?_
               rotate_left
               ·intro w'
                go_simp
                with_reducible rfl
               rotate_left
               ·simp only [Act.put, List.setIfInBounds_toArray, List.set_cons_zero, List.set_cons_succ, i64_w, i32_w]
                rfl
               refine take_ (i := 15) (N := some 36) (v := ?_) (a' := ?_) #[tt,tt,tt,tt,tt,tt,tt,tt,tt,tt,tt,tt,tt,tt,tt,tt,ff,ff,ff,tt,ff,ff,ff,ff] rfl rfl (take_ofW HT_.out HW_.out (by kernel_rfl)) (fun _ _ _ h => h) (Or.inl ⟨by rfl, ?_⟩) hHeld ?_ ?_
               rotate_left
               ·rintro w' ⟨s0, s1, s2, s3, s4, s5, s6, s7, s8⟩
                go_simp
                with_reducible rfl
               rotate_left
               ·simp only [Act.put, List.setIfInBounds_toArray, List.set_cons_zero, List.set_cons_succ, i64_w, i32_w]
                rfl
               refine take_ (i := 20) (N := some 41) (v := ?_) (a' := ?_) #[tt,tt,tt,tt,tt,tt,tt,tt,tt,tt,tt,tt,tt,tt,tt,tt,ff,ff,ff,tt,tt,ff,ff,ff] rfl rfl (take_ofW HT_.out HW_.out (by kernel_rfl)) (fun _ _ _ h => h) (Or.inl ⟨by rfl, ?_⟩) hHeld ?_ ?_
               rotate_left
               ·rintro w' ⟨s0, s1, s2, s3, s4, s5, s6, s7, s8⟩
                go_simp
                with_reducible rfl
               rotate_left
               ·simp only [Act.put, List.setIfInBounds_toArray, List.set_cons_zero, List.set_cons_succ, i64_w, i32_w]
                rfl
               refine one_ (i := 16) (N := some 37) #[tt,tt,tt,tt,tt,tt,tt,tt,tt,tt,tt,tt,tt,tt,tt,tt,tt,ff,ff,tt,tt,ff,ff,ff] rfl rfl (one_of HT_.out (by kernel_rfl)) (by decide) (fun K hK => ?_)
               refine goes_ Tryd.func22 (by kernel_rfl) rfl #[.agg #[.int .i64 t132, .int .i64 t133, .int .i64 t134, .int .i64 t135, .int .i64 t136, .int .i64 t137, .int .i64 t138]] (by rfl) rfl rfl (by (try simp only [List.map_toArray, List.map_cons, List.map_nil]); first | done | rfl | (simp only [List.length_drop, List.length_take]; rfl)) ?_
               with_reducible refine (date_clock.calls t132 t133 t134 t135 t136 t137 t138 t144 _ A44.out).mono ?_
               rintro e w55 ⟨rfl, hb⟩
               refine ⟨_, rfl, ?_⟩
               have n0_ := Aside0.mk (blk_below (g := gb140) (o := .cells #[.int .i64 t132, .int .i64 t133, .int .i64 t134, .int .i64 t135, .int .i64 t136, .int .i64 t137, .int .i64 t138] 33 (0, 0)) (by (with_reducible repeat (first | refine blk_drewN ?_ _ | refine blk_drew ?_ | refine blk_alloc ?_ _)); exact BK140.out) hb)
               have n1_ := Aside0.mk (below_step (by repeat (first | (with_reducible first | exact HB.out | apply below_alloc | apply pw_below_drewN | apply below_drew1 | refine below_set ?_ GE140.out) | exact HB.out)) hb)
               clear BK140
               clear HB
               have BK140 := n0_
               have HB := n1_
               clear n0_ n1_
               (try clear hb)
               (try clear hb2)
               (try clear hk)
               (try clear hi)
               refine hK.out _ _ ⟨(blk_cell BK140.out 0).trans rfl, (blk_cell BK140.out 1).trans rfl, (blk_cell BK140.out 2).trans rfl, (blk_cell BK140.out 3).trans rfl, (blk_cell BK140.out 4).trans rfl, (blk_cell BK140.out 5).trans rfl, (blk_cell BK140.out 6).trans rfl, ((HB.out.cell (World.block_lt_of_cell? w _ hw34_0)).trans hw34_0), ((HB.out.cell (World.block_lt_of_cell? w _ hw39_0)).trans hw39_0)⟩ (fun hHeld => ?_)
               clear hK K
               refine norm_ (a' := ?_) ?_ ?_
               rotate_left
               ·show Act.put _ (some 37) _ = _
                simp only [Act.put, List.setIfInBounds_toArray, List.set_cons_zero, List.set_cons_succ, i64_w, i32_w]
                rfl
               refine pure_ (i := 17) (N := some 38) (v := ?_) (a' := ?_) #[tt,tt,tt,tt,tt,tt,tt,tt,tt,tt,tt,tt,tt,tt,tt,tt,tt,tt,ff,tt,tt,ff,ff,ff] rfl rfl (any_of HT_.out (by kernel_rfl)) (fun _ _ _ h => h) (Or.inl ⟨by rfl, ?_⟩) ?_ ?_
               rotate_left
               ·intro w'
                go_simp
                with_reducible rfl
               rotate_left
               ·simp only [Act.put, List.setIfInBounds_toArray, List.set_cons_zero, List.set_cons_succ, i64_w, i32_w]
                rfl
               refine pure_ (i := 18) (N := some 39) (v := ?_) (a' := ?_) #[tt,tt,tt,tt,tt,tt,tt,tt,tt,tt,tt,tt,tt,tt,tt,tt,tt,tt,tt,tt,tt,ff,ff,ff] rfl rfl (any_of HT_.out (by kernel_rfl)) (fun _ _ _ h => h) (Or.inl ⟨by rfl, ?_⟩) ?_ ?_
               rotate_left
               ·intro w'
                go_simp
                with_reducible rfl
               rotate_left
               ·simp only [Act.put, List.setIfInBounds_toArray, List.set_cons_zero, List.set_cons_succ, i64_w, i32_w]
                rfl
               refine one_ (i := 21) (N := some 42) #[tt,tt,tt,tt,tt,tt,tt,tt,tt,tt,tt,tt,tt,tt,tt,tt,tt,tt,tt,tt,tt,tt,ff,ff] rfl rfl (one_of HT_.out (by kernel_rfl)) (by decide) (fun K hK => ?_)
               refine goes_ Tryd.func21 (by kernel_rfl) rfl #[.int .i64 t132] (by rfl) rfl rfl (by (try simp only [List.map_toArray, List.map_cons, List.map_nil]); first | done | rfl | (simp only [List.length_drop, List.length_take]; rfl)) ?_
               with_reducible refine (strconv_Itoa.calls t132 t145 _ ?side1 A47.out).mono ?_
               (case side1 => exact Amb.at HG.out (by repeat (first | (with_reducible first | exact HB.out | apply below_alloc | apply pw_below_drewN | apply below_drew1 | refine below_set ?_ GE140.out) | exact HB.out)))
               rintro e w56 ⟨rfl, hb⟩
               refine ⟨_, rfl, ?_⟩
               have n0_ := Aside0.mk (blk_below (g := gb140) (o := .cells #[.int .i64 t132, .int .i64 t133, .int .i64 t134, .int .i64 t135, .int .i64 t136, .int .i64 t137, .int .i64 t138] 33 (0, 0)) (by (with_reducible repeat (first | refine blk_drewN ?_ _ | refine blk_drew ?_ | refine blk_alloc ?_ _)); exact BK140.out) hb)
               have n1_ := Aside0.mk (below_step (by repeat (first | (with_reducible first | exact HB.out | apply below_alloc | apply pw_below_drewN | apply below_drew1 | refine below_set ?_ GE140.out) | exact HB.out)) hb)
               clear BK140
               clear HB
               have BK140 := n0_
               have HB := n1_
               clear n0_ n1_
               (try clear hb)
               (try clear hb2)
               (try clear hk)
               (try clear hi)
               refine hK.out _ _ ⟨(blk_cell BK140.out 0).trans rfl, (blk_cell BK140.out 1).trans rfl, (blk_cell BK140.out 2).trans rfl, (blk_cell BK140.out 3).trans rfl, (blk_cell BK140.out 4).trans rfl, (blk_cell BK140.out 5).trans rfl, (blk_cell BK140.out 6).trans rfl, ((HB.out.cell (World.block_lt_of_cell? w _ hw34_0)).trans hw34_0), ((HB.out.cell (World.block_lt_of_cell? w _ hw39_0)).trans hw39_0)⟩ (fun hHeld => ?_)
               clear hK K
               refine norm_ (a' := ?_) ?_ ?_
               rotate_left
               ·show Act.put _ (some 42) _ = _
                simp only [Act.put, List.setIfInBounds_toArray, List.set_cons_zero, List.set_cons_succ, i64_w, i32_w]
                rfl
               refine pure_ (i := 22) (N := some 43) (v := ?_) (a' := ?_) #[tt,tt,tt,tt,tt,tt,tt,tt,tt,tt,tt,tt,tt,tt,tt,tt,tt,tt,tt,tt,tt,tt,tt,ff] rfl rfl (any_of HT_.out (by kernel_rfl)) (fun _ _ _ h => h) (Or.inl ⟨by rfl, ?_⟩) ?_ ?_
               rotate_left
               ·intro w'
                go_simp
                with_reducible rfl
               rotate_left
               ·simp only [Act.put, List.setIfInBounds_toArray, List.set_cons_zero, List.set_cons_succ, i64_w, i32_w]
                rfl
               refine pure_ (i := 23) (N := some 2) (v := ?_) (a' := ?_) #[tt,tt,tt,tt,tt,tt,tt,tt,tt,tt,tt,tt,tt,tt,tt,tt,tt,tt,tt,tt,tt,tt,tt,tt] rfl rfl (any_of HT_.out (by kernel_rfl)) (fun _ _ _ h => h) (Or.inl ⟨by rfl, ?_⟩) ?_ ?_
               rotate_left
               ·intro w'
                go_simp
                with_reducible rfl
               rotate_left
               ·simp only [Act.put, List.setIfInBounds_toArray, List.set_cons_zero, List.set_cons_succ, i64_w, i32_w]
                rfl
               refine done_ (done_of HT_.out (by kernel_rfl)) ?_
               try go_wp2
               go_ret
               exact ⟨by first | rfl | (simp [errW_none, errW_some] <;> rfl) | (simp only [← hji36]; first | rfl | (simp [errW_none, errW_some] <;> rfl)) | (simp [*, errW_none, errW_some] <;> rfl), by repeat (first | (with_reducible first | exact HB.out | apply below_alloc | apply pw_below_drewN | apply below_drew1 | refine below_set ?_ GE140.out) | exact HB.out)⟩
              ·rw [if_neg c48] at H
               exact absurd H (by simp)
             ·rw [if_neg c46] at H
              exact absurd H (by simp)
            ·rw [if_neg c45] at H
             exact absurd H (by simp)
           ·rw [if_neg c43] at H
            exact absurd H (by simp)
          ·rw [if_neg c42] at H
           exact absurd H (by simp)
         ·rw [if_neg c41] at H
          exact absurd H (by simp)
        ·rw [if_neg c40] at H
         exact absurd H (by simp)
       ·rw [if_neg c38] at H
        exact absurd H (by simp)
      ·rw [if_neg c37] at H
       exact absurd H (by simp)
     ·rw [if_neg c35] at H
      exact absurd H (by simp)
    ·rw [if_neg c33] at H
     exact absurd H (by simp)
   ·rw [if_neg c32] at H
    exact absurd H (by simp)
 ·replace c3 := Bool.eq_false_iff.mpr c3
  subst c3
  have H1 : (some (⟨#[]⟩ : ByteArray)) = some r := by rw [if_neg (show ¬ (false = true) by decide)] at H; exact H
  clear H
  have H := H1
  clear H1
  obtain rfl := Option.some.inj H
  go_enter Tryd.func10, Tryd.ntmps10
  go_wp2_with (first | ((with_reducible refine gate_callee (f := 15) rfl ?_); refine goesL_ (some 8) rfl rfl Tryd.func15 (by kernel_rfl) rfl #[.int .i64 a0] rfl (by (try simp only [List.map_toArray, List.map_cons, List.map_nil]); first | done | rfl | (simp only [List.length_drop, List.length_take]; rfl)) ?_; (with_reducible refine (date_Of.calls k a0 t132 t133 t134 t135 t136 t137 t138 false _ ?side1 A2.out).mono ?_); (case side1 => exact Amb.at HG.out (by repeat (first | (with_reducible first | exact HB.out | apply below_alloc | apply pw_below_drewN | apply below_drew1) | exact HB.out))); rintro e w57 ⟨rfl, hb⟩; refine ⟨_, rfl, ?_⟩; have n0_ := Aside0.mk (below_step (by repeat (first | (with_reducible first | exact HB.out | apply below_alloc | apply pw_below_drewN | apply below_drew1) | exact HB.out)) hb); clear HB; have HB := n0_; clear n0_; (try clear hb); (try clear hb2); (try clear hk); (try clear hi)) | ((with_reducible refine gate_dst (N := 3) rfl ?_); refine box_event ?hg (N := 3) ?hd (cs := #[.int .i64 0, .int .i64 0, .int .i64 0, .int .i64 0, .int .i64 0, .int .i64 0, .int .i64 0]) (t := 33) ?hr ?_; (case hd => rfl); (case hg => rfl); (case hr => first | (go_simp; done) | (go_simp; rfl)); intro gb140 hg w58 hbox hb; have n0_ := Aside0.mk (below_step (by repeat (first | (with_reducible first | exact HB.out | apply below_alloc | apply pw_below_drewN | apply below_drew1) | exact HB.out)) hb); have n1_ := Aside0.mk (hbox); have n2_ := Aside0.mk ((by rw [hg]; exact (below_size (by repeat (first | (with_reducible first | exact HB.out | apply below_alloc | apply pw_below_drewN | apply below_drew1) | exact HB.out))) : w.heap.size ≤ gb140)); have n3_ := Aside0.mk ((by rw [hg]; exact (below_size (by repeat (first | (with_reducible first | exact HB.out | apply below_alloc | apply pw_below_drewN | apply below_drew1) | exact HB.out))) : w.heap.size ≤ gb140)); clear HB; have HB := n0_; have BK140 := n1_; have GW140 := n2_; have GE140 := n3_; clear n0_ n1_ n2_ n3_; clear hb hbox hg; have hcz59_0 : w58.cell? ⟨gb140, 0, none⟩ = some (.int .i64 0) := (blk_cell BK140.out 0).trans rfl; have hcz59_1 : w58.cell? ⟨gb140, 1, none⟩ = some (.int .i64 0) := (blk_cell BK140.out 1).trans rfl; have hcz59_2 : w58.cell? ⟨gb140, 2, none⟩ = some (.int .i64 0) := (blk_cell BK140.out 2).trans rfl; have hcz59_3 : w58.cell? ⟨gb140, 3, none⟩ = some (.int .i64 0) := (blk_cell BK140.out 3).trans rfl; have hcz59_4 : w58.cell? ⟨gb140, 4, none⟩ = some (.int .i64 0) := (blk_cell BK140.out 4).trans rfl; have hcz59_5 : w58.cell? ⟨gb140, 5, none⟩ = some (.int .i64 0) := (blk_cell BK140.out 5).trans rfl; have hcz59_6 : w58.cell? ⟨gb140, 6, none⟩ = some (.int .i64 0) := (blk_cell BK140.out 6).trans rfl; have hfz59_0 := blk_frozen BK140.out 0; have hfz59_1 := blk_frozen BK140.out 1; have hfz59_2 := blk_frozen BK140.out 2; have hfz59_3 := blk_frozen BK140.out 3; have hfz59_4 := blk_frozen BK140.out 4; have hfz59_5 := blk_frozen BK140.out 5; have hfz59_6 := blk_frozen BK140.out 6))
  go_ret
  exact ⟨by first | rfl | (simp [errW_none, errW_some] <;> rfl) | (simp [*, errW_none, errW_some] <;> rfl), by repeat (first | (with_reducible first | exact HB.out | apply below_alloc | apply pw_below_drewN | apply below_drew1 | refine below_set ?_ GE140.out) | exact HB.out)⟩

/-! ### date_within: function 41 -/
def date_within.f (a0 : Int) (a1 : Int) (a2 : Int) : Option (Bool) := if a0 ≥ a1 then (some (decide (a0 ≤ a2))) else (some false)
set_option maxHeartbeats 8000000 in
set_option maxRecDepth 100000 in
theorem date_within.calls (a0 : Int) (a1 : Int) (a2 : Int) (r : Bool) (w : World) (h : date_within.f a0 a1 a2 = some r) :
  Calls Tryd.prog 41 #[.int .i64 a0, .int .i64 a1, .int .i64 a2] w fun e w' => e = .returned (.bool r) ∧ Drawn0 w w' := by
 have H : (if a0 ≥ a1 then (some (decide (a0 ≤ a2))) else (some false)) = some r := h
 clear h
 by_cases c4 : a0 ≥ a1
 ·rw [if_pos c4] at H
  have c4b0 : decide (a1 ≤ a0) = true := decide_eq_true c4
  clear c4
  obtain rfl := Option.some.inj H
  go_enter Tryd.func41, Tryd.ntmps41
  go_wp2
  go_ret
  exact ⟨by first | rfl | (simp; done) | (simp [*]; done), by repeat (first | exact Drawn0.refl _ | apply Drawn0.step)⟩
 ·rw [if_neg c4] at H
  have c4b0 : decide (a1 ≤ a0) = false := decide_eq_false c4
  clear c4
  obtain rfl := Option.some.inj H
  go_enter Tryd.func41, Tryd.ntmps41
  go_wp2
  go_ret
  exact ⟨by first | rfl | (simp; done) | (simp [*]; done), by repeat (first | exact Drawn0.refl _ | apply Drawn0.step)⟩

/-! ### date_long: function 42 -/
def date_long.f (a0 : Int) (a1 : Int) : Option (Int) := if a1 = 12 then (some 31) else ((date_gone.f a0 (wrap64 (a1 + 1))).bind fun t146 => ((date_gone.f a0 a1).bind fun t147 => (some (wrap64 (t146 - t147)))))
set_option maxHeartbeats 8000000 in
set_option maxRecDepth 100000 in
theorem date_long.calls (a0 : Int) (a1 : Int) (r : Int) (w : World) (hG : Amb w) (h : date_long.f a0 a1 = some r) :
  Calls Tryd.prog 42 #[.int .i64 a0, .int .i64 a1] w fun e w' => e = .returned (.int .i64 r) ∧ Drawn0 w w' := by
 have H : (if a1 = 12 then (some 31) else ((date_gone.f a0 (wrap64 (a1 + 1))).bind fun t146 => ((date_gone.f a0 a1).bind fun t147 => (some (wrap64 (t146 - t147)))))) = some r := h
 clear h
 have HG := Aside0.mk hG
 clear hG
 by_cases c3 : a1 = 12
 ·rw [if_pos c3] at H
  have c3b0 : (a1 == 12) = true := beq_iff_eq.mpr c3
  have c3b1 : (a1 != 12) = false := bne_eq_false_iff_eq.mpr c3
  clear c3
  obtain rfl := Option.some.inj H
  go_enter Tryd.func42, Tryd.ntmps42
  go_wp2
  go_ret
  exact ⟨by first | rfl | (simp; done) | (simp [*]; done), by repeat (first | exact Drawn0.refl _ | apply Drawn0.step)⟩
 ·rw [if_neg c3] at H
  have c3b0 : (a1 == 12) = false := beq_eq_false_iff_ne.mpr c3
  have c3b1 : (a1 != 12) = true := bne_iff_ne.mpr c3
  replace H := Option.bind_eq_some_iff.mp H
  obtain ⟨t146, A40, H⟩ := H
  replace H : ((date_gone.f a0 a1).bind fun t147 => (some (wrap64 (t146 - t147)))) = some r := H
  have A4 := Aside0.mk A40
  clear A40
  replace H := Option.bind_eq_some_iff.mp H
  obtain ⟨t147, A50, H⟩ := H
  replace H : (some (wrap64 (t146 - t147))) = some r := H
  have A5 := Aside0.mk A50
  clear A50
  obtain rfl := Option.some.inj H
  go_enter Tryd.func42, Tryd.ntmps42
  go_wp2_with (first | ((with_reducible refine gate_callee (f := 44) rfl ?_); refine goesL_ (some 10) rfl rfl Tryd.func44 (by kernel_rfl) rfl #[.int .i64 a0, .int .i64 (wrap64 (a1 + 1))] rfl (by (try simp only [List.map_toArray, List.map_cons, List.map_nil]); first | done | rfl | (simp only [List.length_drop, List.length_take]; rfl)) ?_; (with_reducible refine (date_gone.calls a0 (wrap64 (a1 + 1)) t146 _ ?side1 A4.out).mono ?_); (case side1 => exact Amb.drawn HG.out (by repeat (first | exact Drawn0.refl _ | apply Drawn0.step))); rintro e w' ⟨rfl, ⟨nd, rfl⟩⟩; refine ⟨_, rfl, ?_⟩) | ((with_reducible refine gate_callee (f := 44) rfl ?_); refine goesL_ (some 13) rfl rfl Tryd.func44 (by kernel_rfl) rfl #[.int .i64 a0, .int .i64 a1] rfl (by (try simp only [List.map_toArray, List.map_cons, List.map_nil]); first | done | rfl | (simp only [List.length_drop, List.length_take]; rfl)) ?_; (with_reducible refine (date_gone.calls a0 a1 t147 _ ?side1 A5.out).mono ?_); (case side1 => exact Amb.drawn HG.out (by repeat (first | exact Drawn0.refl _ | apply Drawn0.step))); rintro e w' ⟨rfl, ⟨nd, rfl⟩⟩; refine ⟨_, rfl, ?_⟩))
  go_ret
  exact ⟨by first | rfl | (simp; done) | (simp [*]; done), by repeat (first | exact Drawn0.refl _ | apply Drawn0.step)⟩

end Go.Proofs.YtocdojegoakmoaaDoor.Z
