-- Written by a program of this session (wip/myprint) out of the translation, for YtocdojegoakmoaaDoor.
import Derived.Test.YtocdojegoakmoaaDoorZ0
import Derived.Test.YtocdojegoakmoaaDoorZ10
import Derived.Test.YtocdojegoakmoaaDoorZ11
import Derived.Test.YtocdojegoakmoaaDoorZ12
import Derived.Test.YtocdojegoakmoaaDoorZ13
namespace Go.Proofs.YtocdojegoakmoaaDoor.Z
open Go.RowKit Go.Proofs.YtocdojegoakmoaaDoorW.PrintWords Go.Proofs.YtocdojegoakmoaaDoorW.PrintLast Go.Proofs.YtocdojegoakmoaaDoorW.PrintMore
attribute [local go_sem] max2_int min2_int max_two min_two max_three min_three max_four min_four   -- for this text's walks alone
set_option linter.unusedVariables false
set_option linter.unusedSimpArgs false

/-! ### bulletinref22_Read: function 14 -/
mutual
def bulletinref22_Read.j1 : Nat → List ByteArray → Int → Option (Int × Int)
 | 0, _, _ => none
 | k + 1, x4, x5 => if (x4.length : Int) = 5 then (if 0 < (x4.length : Int) then ((bulletinref22_digits.f k (rdOf ByteArray.empty x4 0) 1 2).bind fun t254 => (if 2 < (x4.length : Int) then ((bulletinref22_digits.f k (rdOf ByteArray.empty x4 2) 4 5).bind fun t256 => (bulletinref22_Read.l1 k x4 x5 1 t256 0 t254 0 0 0 0)) else (none))) else (none)) else (some (0, 3))
def bulletinref22_Read.l1 : Nat → List ByteArray → Int → Int → Int → Int → Int → Int → Int → Int → Int → Option (Int × Int)
 | 0, _, _, _, _, _, _, _, _, _, _ => none
 | k + 1, x4, x5, x8, x258000, x258001, x258002, x258003, x258004, x258005, x258006 => if x8 ≤ 12 then (if 1 < (x4.length : Int) then ((bulletinref06_Fold.f k (rdOf ByteArray.empty x4 1)).bind fun t259 => ((bulletinref22_Month.f x8).bind fun t260 => ((bulletinref06_Fold.f k t260).bind fun t261 => (if t259.toList = t261.toList then (bulletinref22_Read.l1 k x4 x5 (wrap64 (x8 + 1)) x258000 x8 x258002 x258003 x258004 x258005 x258006) else (bulletinref22_Read.l1 k x4 x5 (wrap64 (x8 + 1)) x258000 x258001 x258002 x258003 x258004 x258005 x258006))))) else (none)) else (if 3 < (x4.length : Int) then ((bulletinref13_Split.f k (rdOf ByteArray.empty x4 3) 58).bind fun t263 => (if (t263.length : Int) = 2 then (if t263.length < 8796093022208 then (bulletinref22_Read.j3 k x4 x5 (t263 ++ [(⟨#[48, 48]⟩ : ByteArray)]) x258000 x258001 x258002 x258003 x258004 x258005 x258006) else (none)) else (bulletinref22_Read.j3 k x4 x5 t263 x258000 x258001 x258002 x258003 x258004 x258005 x258006))) else (none))
def bulletinref22_Read.j3 : Nat → List ByteArray → Int → List ByteArray → Int → Int → Int → Int → Int → Int → Int → Option (Int × Int)
 | 0, _, _, _, _, _, _, _, _, _, _ => none
 | k + 1, x4, x5, x9, x258000, x258001, x258002, x258003, x258004, x258005, x258006 => if (x9.length : Int) = 3 then (if x258002 < 0 then (bulletinref22_Read.j4 k x4 x5 x9 true x258000 x258001 x258002 x258003 x258004 x258005 x258006) else (if x258000 < 0 then (bulletinref22_Read.j4 k x4 x5 x9 true x258000 x258001 x258002 x258003 x258004 x258005 x258006) else (bulletinref22_Read.j4 k x4 x5 x9 (x258001 == 0) x258000 x258001 x258002 x258003 x258004 x258005 x258006))) else (bulletinref22_Read.j4 k x4 x5 x9 true x258000 x258001 x258002 x258003 x258004 x258005 x258006)
def bulletinref22_Read.j4 : Nat → List ByteArray → Int → List ByteArray → Bool → Int → Int → Int → Int → Int → Int → Int → Option (Int × Int)
 | 0, _, _, _, _, _, _, _, _, _, _, _ => none
 | k + 1, x4, x5, x9, x91, x258000, x258001, x258002, x258003, x258004, x258005, x258006 => if x91 = true then (some (0, 3)) else (if 0 < (x9.length : Int) then ((bulletinref22_digits.f k (rdOf ByteArray.empty x9 0) 2 2).bind fun t270 => (if 1 < (x9.length : Int) then ((bulletinref22_digits.f k (rdOf ByteArray.empty x9 1) 2 2).bind fun t272 => (if 2 < (x9.length : Int) then ((bulletinref22_digits.f k (rdOf ByteArray.empty x9 2) 2 2).bind fun t274 => (if t270 < 0 then (bulletinref22_Read.j5 k x4 x5 true x258000 x258001 x258002 t270 t272 t274 x258006) else (if t272 < 0 then (bulletinref22_Read.j5 k x4 x5 true x258000 x258001 x258002 t270 t272 t274 x258006) else (bulletinref22_Read.j5 k x4 x5 (decide (t274 < 0)) x258000 x258001 x258002 t270 t272 t274 x258006)))) else (none))) else (none))) else (none))
def bulletinref22_Read.j5 : Nat → List ByteArray → Int → Bool → Int → Int → Int → Int → Int → Int → Int → Option (Int × Int)
 | 0, _, _, _, _, _, _, _, _, _, _ => none
 | k + 1, x4, x5, x119, x258000, x258001, x258002, x258003, x258004, x258005, x258006 => if x119 = true then (some (0, 3)) else (if 4 < (x4.length : Int) then ((bulletinref06_Fold.f k (rdOf ByteArray.empty x4 4)).bind fun t276 => (if t276.toList = ([103, 109, 116] : List UInt8) then (bulletinref22_Read.j6 k x5 (rdOf ByteArray.empty x4 4) 0 false x258000 x258001 x258002 x258003 x258004 x258005 x258006) else (if t276.toList = ([117, 116] : List UInt8) then (bulletinref22_Read.j6 k x5 (rdOf ByteArray.empty x4 4) 0 false x258000 x258001 x258002 x258003 x258004 x258005 x258006) else (if t276.toList = ([117, 116, 99] : List UInt8) then (bulletinref22_Read.j6 k x5 (rdOf ByteArray.empty x4 4) 0 false x258000 x258001 x258002 x258003 x258004 x258005 x258006) else (bulletinref22_Read.j6 k x5 (rdOf ByteArray.empty x4 4) 0 (t276.toList != ([122] : List UInt8)) x258000 x258001 x258002 x258003 x258004 x258005 x258006))))) else (none))
def bulletinref22_Read.j6 : Nat → Int → ByteArray → Int → Bool → Int → Int → Int → Int → Int → Int → Int → Option (Int × Int)
 | 0, _, _, _, _, _, _, _, _, _, _, _ => none
 | k + 1, x5, x10, x12, x138, x258000, x258001, x258002, x258003, x258004, x258005, x258006 => if x138 = true then (if (x10.size : Int) = 5 then (if 0 < (x10.size : Int) then (if (bt x10 0) = 43 then (if 1 ≤ (x10.size : Int) then ((bulletinref22_digits.f k (x10.extract 1 x10.size) 4 4).bind fun t277 => (if t277 < 0 then (bulletinref22_Read.j7 k x5 x10 true x258000 x258001 x258002 x258003 x258004 x258005 x258006) else (if 3 ≤ (x10.size : Int) then ((bulletinref22_digits.f k (x10.extract 3 x10.size) 2 2).bind fun t278 => (bulletinref22_Read.j7 k x5 x10 (decide (t278 > 59)) x258000 x258001 x258002 x258003 x258004 x258005 x258006)) else (none)))) else (none)) else (if (bt x10 0) = 45 then (if 1 ≤ (x10.size : Int) then ((bulletinref22_digits.f k (x10.extract 1 x10.size) 4 4).bind fun t279 => (if t279 < 0 then (bulletinref22_Read.j7 k x5 x10 true x258000 x258001 x258002 x258003 x258004 x258005 x258006) else (if 3 ≤ (x10.size : Int) then ((bulletinref22_digits.f k (x10.extract 3 x10.size) 2 2).bind fun t280 => (bulletinref22_Read.j7 k x5 x10 (decide (t280 > 59)) x258000 x258001 x258002 x258003 x258004 x258005 x258006)) else (none)))) else (none)) else (bulletinref22_Read.j7 k x5 x10 true x258000 x258001 x258002 x258003 x258004 x258005 x258006))) else (none)) else (bulletinref22_Read.j7 k x5 x10 true x258000 x258001 x258002 x258003 x258004 x258005 x258006)) else (bulletinref22_Read.j8 k x5 x12 x258000 x258001 x258002 x258003 x258004 x258005 x258006)
def bulletinref22_Read.j8 : Nat → Int → Int → Int → Int → Int → Int → Int → Int → Int → Option (Int × Int)
 | 0, _, _, _, _, _, _, _, _, _ => none
 | k + 1, x5, x12, x258000, x258001, x258002, x258003, x258004, x258005, x258006 => (bulletinref22_Number.f k x258000 x258001 x258002 x258003 x258004 x258005 x258006).bind fun bt283 => (if bt283.2 = 0 then (if x5 ≥ 0 then (bulletinref22_Read.j9 k x12 bt283.1 ((Int.tmod (wrap64 ((wrap64 (Int.tdiv bt283.1 86400)) + 4)) 7) != x5)) else (bulletinref22_Read.j9 k x12 bt283.1 false)) else (some (0, bt283.2)))
def bulletinref22_Read.j9 : Nat → Int → Int → Bool → Option (Int × Int)
 | 0, _, _, _ => none
 | k + 1, x12, x13, x195 => if x195 = true then (some (0, 3)) else ((bulletinref22_Moment.f (wrap64 (x13 - x12))).bind fun t285 => (if t285 = true then (some (wrap64 (x13 - x12), 0)) else (some (0, 1))))
def bulletinref22_Read.j7 : Nat → Int → ByteArray → Bool → Int → Int → Int → Int → Int → Int → Int → Option (Int × Int)
 | 0, _, _, _, _, _, _, _, _, _, _ => none
 | k + 1, x5, x10, x163, x258000, x258001, x258002, x258003, x258004, x258005, x258006 => if x163 = true then (some (0, 3)) else (if 1 ≤ 3 then (if 3 ≤ (x10.size : Int) then ((bulletinref22_digits.f k (x10.extract 1 3) 2 2).bind fun t281 => ((bulletinref22_digits.f k (x10.extract 3 x10.size) 2 2).bind fun t282 => (if 0 < (x10.size : Int) then (if (bt x10 0) = 45 then (bulletinref22_Read.j8 k x5 (wrap64 (-(wrap64 ((wrap64 (3600 * t281)) + (wrap64 (60 * t282)))))) x258000 x258001 x258002 x258003 x258004 x258005 x258006) else (bulletinref22_Read.j8 k x5 (wrap64 ((wrap64 (3600 * t281)) + (wrap64 (60 * t282)))) x258000 x258001 x258002 x258003 x258004 x258005 x258006)) else (none)))) else (none)) else (none))
def bulletinref22_Read.l0 : Nat → List ByteArray → Int → Int → Option (Int × Int)
 | 0, _, _, _ => none
 | k + 1, x4, x5, x6 => if x6 < 7 then (if 0 < (x4.length : Int) then ((bulletinref06_Fold.f k (rdOf ByteArray.empty x4 0)).bind fun t250 => ((bulletinref22_Week.f x6).bind fun t251 => (if t251.size + 1 ≤ 9223372036854775807 then ((bulletinref06_Fold.f k (t251 ++ (⟨#[44]⟩ : ByteArray))).bind fun t252 => (if t250.toList = t252.toList then (bulletinref22_Read.l0 k x4 x6 (wrap64 (x6 + 1))) else (bulletinref22_Read.l0 k x4 x5 (wrap64 (x6 + 1))))) else (none)))) else (none)) else (if x5 < 0 then (some (0, 3)) else (if 1 ≤ (x4.length : Int) then (bulletinref22_Read.j1 k (x4.drop (1 : Int).toNat) x5) else (none)))
end
def bulletinref22_Read.f (k : Nat) (a0 : ByteArray) : Option (Int × Int) := (bulletinref06_Words.f k a0).bind fun t243 => (if (t243.length : Int) = 6 then (bulletinref22_Read.l0 k t243 (-1) 0) else (bulletinref22_Read.j1 k t243 (-1)))
theorem bulletinref22_Read.mono_l : ∀ k, (∀ y0 y1, LeO (bulletinref22_Read.j1 k y0 y1) (bulletinref22_Read.j1 (k + 1) y0 y1)) ∧ (∀ y0 y1 y2 y3 y4 y5 y6 y7 y8 y9, LeO (bulletinref22_Read.l1 k y0 y1 y2 y3 y4 y5 y6 y7 y8 y9) (bulletinref22_Read.l1 (k + 1) y0 y1 y2 y3 y4 y5 y6 y7 y8 y9)) ∧ (∀ y0 y1 y2 y3 y4 y5 y6 y7 y8 y9, LeO (bulletinref22_Read.j3 k y0 y1 y2 y3 y4 y5 y6 y7 y8 y9) (bulletinref22_Read.j3 (k + 1) y0 y1 y2 y3 y4 y5 y6 y7 y8 y9)) ∧ (∀ y0 y1 y2 y3 y4 y5 y6 y7 y8 y9 y10, LeO (bulletinref22_Read.j4 k y0 y1 y2 y3 y4 y5 y6 y7 y8 y9 y10) (bulletinref22_Read.j4 (k + 1) y0 y1 y2 y3 y4 y5 y6 y7 y8 y9 y10)) ∧ (∀ y0 y1 y2 y3 y4 y5 y6 y7 y8 y9, LeO (bulletinref22_Read.j5 k y0 y1 y2 y3 y4 y5 y6 y7 y8 y9) (bulletinref22_Read.j5 (k + 1) y0 y1 y2 y3 y4 y5 y6 y7 y8 y9)) ∧ (∀ y0 y1 y2 y3 y4 y5 y6 y7 y8 y9 y10, LeO (bulletinref22_Read.j6 k y0 y1 y2 y3 y4 y5 y6 y7 y8 y9 y10) (bulletinref22_Read.j6 (k + 1) y0 y1 y2 y3 y4 y5 y6 y7 y8 y9 y10)) ∧ (∀ y0 y1 y2 y3 y4 y5 y6 y7 y8, LeO (bulletinref22_Read.j8 k y0 y1 y2 y3 y4 y5 y6 y7 y8) (bulletinref22_Read.j8 (k + 1) y0 y1 y2 y3 y4 y5 y6 y7 y8)) ∧ (∀ y0 y1 y2, LeO (bulletinref22_Read.j9 k y0 y1 y2) (bulletinref22_Read.j9 (k + 1) y0 y1 y2)) ∧ (∀ y0 y1 y2 y3 y4 y5 y6 y7 y8 y9, LeO (bulletinref22_Read.j7 k y0 y1 y2 y3 y4 y5 y6 y7 y8 y9) (bulletinref22_Read.j7 (k + 1) y0 y1 y2 y3 y4 y5 y6 y7 y8 y9)) ∧ (∀ y0 y1 y2, LeO (bulletinref22_Read.l0 k y0 y1 y2) (bulletinref22_Read.l0 (k + 1) y0 y1 y2))
 | 0 => ⟨fun _ _ r h => by simp [bulletinref22_Read.j1] at h, fun _ _ _ _ _ _ _ _ _ _ r h => by simp [bulletinref22_Read.l1] at h, fun _ _ _ _ _ _ _ _ _ _ r h => by simp [bulletinref22_Read.j3] at h, fun _ _ _ _ _ _ _ _ _ _ _ r h => by simp [bulletinref22_Read.j4] at h, fun _ _ _ _ _ _ _ _ _ _ r h => by simp [bulletinref22_Read.j5] at h, fun _ _ _ _ _ _ _ _ _ _ _ r h => by simp [bulletinref22_Read.j6] at h, fun _ _ _ _ _ _ _ _ _ r h => by simp [bulletinref22_Read.j8] at h, fun _ _ _ r h => by simp [bulletinref22_Read.j9] at h, fun _ _ _ _ _ _ _ _ _ _ r h => by simp [bulletinref22_Read.j7] at h, fun _ _ _ r h => by simp [bulletinref22_Read.l0] at h⟩
 | k + 1 => by
  obtain ⟨ih0, ih1, ih2, ih3, ih4, ih5, ih6, ih7, ih8, ih9⟩ := bulletinref22_Read.mono_l k
  refine ⟨?_, ?_, ?_, ?_, ?_, ?_, ?_, ?_, ?_, ?_⟩
  ·intro y0 y1
   unfold bulletinref22_Read.j1
   repeat' first
   | (with_reducible exact ih0 _ _)
   | (with_reducible exact ih1 _ _ _ _ _ _ _ _ _ _)
   | (with_reducible exact ih2 _ _ _ _ _ _ _ _ _ _)
   | (with_reducible exact ih3 _ _ _ _ _ _ _ _ _ _ _)
   | (with_reducible exact ih4 _ _ _ _ _ _ _ _ _ _)
   | (with_reducible exact ih5 _ _ _ _ _ _ _ _ _ _ _)
   | (with_reducible exact ih6 _ _ _ _ _ _ _ _ _)
   | (with_reducible exact ih7 _ _ _)
   | (with_reducible exact ih8 _ _ _ _ _ _ _ _ _ _)
   | (with_reducible exact ih9 _ _ _)
   | (with_reducible exact bulletinref06_Fold.mono _ _)
   | (with_reducible exact bulletinref06_Words.mono _ _)
   | (with_reducible exact bulletinref13_Split.mono _ _ _)
   | (with_reducible exact bulletinref22_Number.mono _ _ _ _ _ _ _ _)
   | (with_reducible exact bulletinref22_digits.mono _ _ _ _)
   | (with_reducible exact LeO.refl _)
   | (with_reducible exact LeO.none _)
   | (with_reducible refine LeO.ite ?_ ?_)
   | (with_reducible refine LeO.bind ?_ (fun _ => ?_))
   | exact ih0 _ _
   | exact ih1 _ _ _ _ _ _ _ _ _ _
   | exact ih2 _ _ _ _ _ _ _ _ _ _
   | exact ih3 _ _ _ _ _ _ _ _ _ _ _
   | exact ih4 _ _ _ _ _ _ _ _ _ _
   | exact ih5 _ _ _ _ _ _ _ _ _ _ _
   | exact ih6 _ _ _ _ _ _ _ _ _
   | exact ih7 _ _ _
   | exact ih8 _ _ _ _ _ _ _ _ _ _
   | exact ih9 _ _ _
   | exact bulletinref06_Fold.mono _ _
   | exact bulletinref06_Words.mono _ _
   | exact bulletinref13_Split.mono _ _ _
   | exact bulletinref22_Number.mono _ _ _ _ _ _ _ _
   | exact bulletinref22_digits.mono _ _ _ _
   | exact LeO.none _
   | refine LeO.ite ?_ ?_
   | refine LeO.bind ?_ (fun _ => ?_)
  ·intro y0 y1 y2 y3 y4 y5 y6 y7 y8 y9
   unfold bulletinref22_Read.l1
   repeat' first
   | (with_reducible exact ih0 _ _)
   | (with_reducible exact ih1 _ _ _ _ _ _ _ _ _ _)
   | (with_reducible exact ih2 _ _ _ _ _ _ _ _ _ _)
   | (with_reducible exact ih3 _ _ _ _ _ _ _ _ _ _ _)
   | (with_reducible exact ih4 _ _ _ _ _ _ _ _ _ _)
   | (with_reducible exact ih5 _ _ _ _ _ _ _ _ _ _ _)
   | (with_reducible exact ih6 _ _ _ _ _ _ _ _ _)
   | (with_reducible exact ih7 _ _ _)
   | (with_reducible exact ih8 _ _ _ _ _ _ _ _ _ _)
   | (with_reducible exact ih9 _ _ _)
   | (with_reducible exact bulletinref06_Fold.mono _ _)
   | (with_reducible exact bulletinref06_Words.mono _ _)
   | (with_reducible exact bulletinref13_Split.mono _ _ _)
   | (with_reducible exact bulletinref22_Number.mono _ _ _ _ _ _ _ _)
   | (with_reducible exact bulletinref22_digits.mono _ _ _ _)
   | (with_reducible exact LeO.refl _)
   | (with_reducible exact LeO.none _)
   | (with_reducible refine LeO.ite ?_ ?_)
   | (with_reducible refine LeO.bind ?_ (fun _ => ?_))
   | exact ih0 _ _
   | exact ih1 _ _ _ _ _ _ _ _ _ _
   | exact ih2 _ _ _ _ _ _ _ _ _ _
   | exact ih3 _ _ _ _ _ _ _ _ _ _ _
   | exact ih4 _ _ _ _ _ _ _ _ _ _
   | exact ih5 _ _ _ _ _ _ _ _ _ _ _
   | exact ih6 _ _ _ _ _ _ _ _ _
   | exact ih7 _ _ _
   | exact ih8 _ _ _ _ _ _ _ _ _ _
   | exact ih9 _ _ _
   | exact bulletinref06_Fold.mono _ _
   | exact bulletinref06_Words.mono _ _
   | exact bulletinref13_Split.mono _ _ _
   | exact bulletinref22_Number.mono _ _ _ _ _ _ _ _
   | exact bulletinref22_digits.mono _ _ _ _
   | exact LeO.none _
   | refine LeO.ite ?_ ?_
   | refine LeO.bind ?_ (fun _ => ?_)
  ·intro y0 y1 y2 y3 y4 y5 y6 y7 y8 y9
   unfold bulletinref22_Read.j3
   repeat' first
   | (with_reducible exact ih0 _ _)
   | (with_reducible exact ih1 _ _ _ _ _ _ _ _ _ _)
   | (with_reducible exact ih2 _ _ _ _ _ _ _ _ _ _)
   | (with_reducible exact ih3 _ _ _ _ _ _ _ _ _ _ _)
   | (with_reducible exact ih4 _ _ _ _ _ _ _ _ _ _)
   | (with_reducible exact ih5 _ _ _ _ _ _ _ _ _ _ _)
   | (with_reducible exact ih6 _ _ _ _ _ _ _ _ _)
   | (with_reducible exact ih7 _ _ _)
   | (with_reducible exact ih8 _ _ _ _ _ _ _ _ _ _)
   | (with_reducible exact ih9 _ _ _)
   | (with_reducible exact bulletinref06_Fold.mono _ _)
   | (with_reducible exact bulletinref06_Words.mono _ _)
   | (with_reducible exact bulletinref13_Split.mono _ _ _)
   | (with_reducible exact bulletinref22_Number.mono _ _ _ _ _ _ _ _)
   | (with_reducible exact bulletinref22_digits.mono _ _ _ _)
   | (with_reducible exact LeO.refl _)
   | (with_reducible exact LeO.none _)
   | (with_reducible refine LeO.ite ?_ ?_)
   | (with_reducible refine LeO.bind ?_ (fun _ => ?_))
   | exact ih0 _ _
   | exact ih1 _ _ _ _ _ _ _ _ _ _
   | exact ih2 _ _ _ _ _ _ _ _ _ _
   | exact ih3 _ _ _ _ _ _ _ _ _ _ _
   | exact ih4 _ _ _ _ _ _ _ _ _ _
   | exact ih5 _ _ _ _ _ _ _ _ _ _ _
   | exact ih6 _ _ _ _ _ _ _ _ _
   | exact ih7 _ _ _
   | exact ih8 _ _ _ _ _ _ _ _ _ _
   | exact ih9 _ _ _
   | exact bulletinref06_Fold.mono _ _
   | exact bulletinref06_Words.mono _ _
   | exact bulletinref13_Split.mono _ _ _
   | exact bulletinref22_Number.mono _ _ _ _ _ _ _ _
   | exact bulletinref22_digits.mono _ _ _ _
   | exact LeO.none _
   | refine LeO.ite ?_ ?_
   | refine LeO.bind ?_ (fun _ => ?_)
  ·intro y0 y1 y2 y3 y4 y5 y6 y7 y8 y9 y10
   unfold bulletinref22_Read.j4
   repeat' first
   | (with_reducible exact ih0 _ _)
   | (with_reducible exact ih1 _ _ _ _ _ _ _ _ _ _)
   | (with_reducible exact ih2 _ _ _ _ _ _ _ _ _ _)
   | (with_reducible exact ih3 _ _ _ _ _ _ _ _ _ _ _)
   | (with_reducible exact ih4 _ _ _ _ _ _ _ _ _ _)
   | (with_reducible exact ih5 _ _ _ _ _ _ _ _ _ _ _)
   | (with_reducible exact ih6 _ _ _ _ _ _ _ _ _)
   | (with_reducible exact ih7 _ _ _)
   | (with_reducible exact ih8 _ _ _ _ _ _ _ _ _ _)
   | (with_reducible exact ih9 _ _ _)
   | (with_reducible exact bulletinref06_Fold.mono _ _)
   | (with_reducible exact bulletinref06_Words.mono _ _)
   | (with_reducible exact bulletinref13_Split.mono _ _ _)
   | (with_reducible exact bulletinref22_Number.mono _ _ _ _ _ _ _ _)
   | (with_reducible exact bulletinref22_digits.mono _ _ _ _)
   | (with_reducible exact LeO.refl _)
   | (with_reducible exact LeO.none _)
   | (with_reducible refine LeO.ite ?_ ?_)
   | (with_reducible refine LeO.bind ?_ (fun _ => ?_))
   | exact ih0 _ _
   | exact ih1 _ _ _ _ _ _ _ _ _ _
   | exact ih2 _ _ _ _ _ _ _ _ _ _
   | exact ih3 _ _ _ _ _ _ _ _ _ _ _
   | exact ih4 _ _ _ _ _ _ _ _ _ _
   | exact ih5 _ _ _ _ _ _ _ _ _ _ _
   | exact ih6 _ _ _ _ _ _ _ _ _
   | exact ih7 _ _ _
   | exact ih8 _ _ _ _ _ _ _ _ _ _
   | exact ih9 _ _ _
   | exact bulletinref06_Fold.mono _ _
   | exact bulletinref06_Words.mono _ _
   | exact bulletinref13_Split.mono _ _ _
   | exact bulletinref22_Number.mono _ _ _ _ _ _ _ _
   | exact bulletinref22_digits.mono _ _ _ _
   | exact LeO.none _
   | refine LeO.ite ?_ ?_
   | refine LeO.bind ?_ (fun _ => ?_)
  ·intro y0 y1 y2 y3 y4 y5 y6 y7 y8 y9
   unfold bulletinref22_Read.j5
   repeat' first
   | (with_reducible exact ih0 _ _)
   | (with_reducible exact ih1 _ _ _ _ _ _ _ _ _ _)
   | (with_reducible exact ih2 _ _ _ _ _ _ _ _ _ _)
   | (with_reducible exact ih3 _ _ _ _ _ _ _ _ _ _ _)
   | (with_reducible exact ih4 _ _ _ _ _ _ _ _ _ _)
   | (with_reducible exact ih5 _ _ _ _ _ _ _ _ _ _ _)
   | (with_reducible exact ih6 _ _ _ _ _ _ _ _ _)
   | (with_reducible exact ih7 _ _ _)
   | (with_reducible exact ih8 _ _ _ _ _ _ _ _ _ _)
   | (with_reducible exact ih9 _ _ _)
   | (with_reducible exact bulletinref06_Fold.mono _ _)
   | (with_reducible exact bulletinref06_Words.mono _ _)
   | (with_reducible exact bulletinref13_Split.mono _ _ _)
   | (with_reducible exact bulletinref22_Number.mono _ _ _ _ _ _ _ _)
   | (with_reducible exact bulletinref22_digits.mono _ _ _ _)
   | (with_reducible exact LeO.refl _)
   | (with_reducible exact LeO.none _)
   | (with_reducible refine LeO.ite ?_ ?_)
   | (with_reducible refine LeO.bind ?_ (fun _ => ?_))
   | exact ih0 _ _
   | exact ih1 _ _ _ _ _ _ _ _ _ _
   | exact ih2 _ _ _ _ _ _ _ _ _ _
   | exact ih3 _ _ _ _ _ _ _ _ _ _ _
   | exact ih4 _ _ _ _ _ _ _ _ _ _
   | exact ih5 _ _ _ _ _ _ _ _ _ _ _
   | exact ih6 _ _ _ _ _ _ _ _ _
   | exact ih7 _ _ _
   | exact ih8 _ _ _ _ _ _ _ _ _ _
   | exact ih9 _ _ _
   | exact bulletinref06_Fold.mono _ _
   | exact bulletinref06_Words.mono _ _
   | exact bulletinref13_Split.mono _ _ _
   | exact bulletinref22_Number.mono _ _ _ _ _ _ _ _
   | exact bulletinref22_digits.mono _ _ _ _
   | exact LeO.none _
   | refine LeO.ite ?_ ?_
   | refine LeO.bind ?_ (fun _ => ?_)
  ·intro y0 y1 y2 y3 y4 y5 y6 y7 y8 y9 y10
   unfold bulletinref22_Read.j6
   repeat' first
   | (with_reducible exact ih0 _ _)
   | (with_reducible exact ih1 _ _ _ _ _ _ _ _ _ _)
   | (with_reducible exact ih2 _ _ _ _ _ _ _ _ _ _)
   | (with_reducible exact ih3 _ _ _ _ _ _ _ _ _ _ _)
   | (with_reducible exact ih4 _ _ _ _ _ _ _ _ _ _)
   | (with_reducible exact ih5 _ _ _ _ _ _ _ _ _ _ _)
   | (with_reducible exact ih6 _ _ _ _ _ _ _ _ _)
   | (with_reducible exact ih7 _ _ _)
   | (with_reducible exact ih8 _ _ _ _ _ _ _ _ _ _)
   | (with_reducible exact ih9 _ _ _)
   | (with_reducible exact bulletinref06_Fold.mono _ _)
   | (with_reducible exact bulletinref06_Words.mono _ _)
   | (with_reducible exact bulletinref13_Split.mono _ _ _)
   | (with_reducible exact bulletinref22_Number.mono _ _ _ _ _ _ _ _)
   | (with_reducible exact bulletinref22_digits.mono _ _ _ _)
   | (with_reducible exact LeO.refl _)
   | (with_reducible exact LeO.none _)
   | (with_reducible refine LeO.ite ?_ ?_)
   | (with_reducible refine LeO.bind ?_ (fun _ => ?_))
   | exact ih0 _ _
   | exact ih1 _ _ _ _ _ _ _ _ _ _
   | exact ih2 _ _ _ _ _ _ _ _ _ _
   | exact ih3 _ _ _ _ _ _ _ _ _ _ _
   | exact ih4 _ _ _ _ _ _ _ _ _ _
   | exact ih5 _ _ _ _ _ _ _ _ _ _ _
   | exact ih6 _ _ _ _ _ _ _ _ _
   | exact ih7 _ _ _
   | exact ih8 _ _ _ _ _ _ _ _ _ _
   | exact ih9 _ _ _
   | exact bulletinref06_Fold.mono _ _
   | exact bulletinref06_Words.mono _ _
   | exact bulletinref13_Split.mono _ _ _
   | exact bulletinref22_Number.mono _ _ _ _ _ _ _ _
   | exact bulletinref22_digits.mono _ _ _ _
   | exact LeO.none _
   | refine LeO.ite ?_ ?_
   | refine LeO.bind ?_ (fun _ => ?_)
  ·intro y0 y1 y2 y3 y4 y5 y6 y7 y8
   unfold bulletinref22_Read.j8
   repeat' first
   | (with_reducible exact ih0 _ _)
   | (with_reducible exact ih1 _ _ _ _ _ _ _ _ _ _)
   | (with_reducible exact ih2 _ _ _ _ _ _ _ _ _ _)
   | (with_reducible exact ih3 _ _ _ _ _ _ _ _ _ _ _)
   | (with_reducible exact ih4 _ _ _ _ _ _ _ _ _ _)
   | (with_reducible exact ih5 _ _ _ _ _ _ _ _ _ _ _)
   | (with_reducible exact ih6 _ _ _ _ _ _ _ _ _)
   | (with_reducible exact ih7 _ _ _)
   | (with_reducible exact ih8 _ _ _ _ _ _ _ _ _ _)
   | (with_reducible exact ih9 _ _ _)
   | (with_reducible exact bulletinref06_Fold.mono _ _)
   | (with_reducible exact bulletinref06_Words.mono _ _)
   | (with_reducible exact bulletinref13_Split.mono _ _ _)
   | (with_reducible exact bulletinref22_Number.mono _ _ _ _ _ _ _ _)
   | (with_reducible exact bulletinref22_digits.mono _ _ _ _)
   | (with_reducible exact LeO.refl _)
   | (with_reducible exact LeO.none _)
   | (with_reducible refine LeO.ite ?_ ?_)
   | (with_reducible refine LeO.bind ?_ (fun _ => ?_))
   | exact ih0 _ _
   | exact ih1 _ _ _ _ _ _ _ _ _ _
   | exact ih2 _ _ _ _ _ _ _ _ _ _
   | exact ih3 _ _ _ _ _ _ _ _ _ _ _
   | exact ih4 _ _ _ _ _ _ _ _ _ _
   | exact ih5 _ _ _ _ _ _ _ _ _ _ _
   | exact ih6 _ _ _ _ _ _ _ _ _
   | exact ih7 _ _ _
   | exact ih8 _ _ _ _ _ _ _ _ _ _
   | exact ih9 _ _ _
   | exact bulletinref06_Fold.mono _ _
   | exact bulletinref06_Words.mono _ _
   | exact bulletinref13_Split.mono _ _ _
   | exact bulletinref22_Number.mono _ _ _ _ _ _ _ _
   | exact bulletinref22_digits.mono _ _ _ _
   | exact LeO.none _
   | refine LeO.ite ?_ ?_
   | refine LeO.bind ?_ (fun _ => ?_)
  ·intro y0 y1 y2
   unfold bulletinref22_Read.j9
   repeat' first
   | (with_reducible exact ih0 _ _)
   | (with_reducible exact ih1 _ _ _ _ _ _ _ _ _ _)
   | (with_reducible exact ih2 _ _ _ _ _ _ _ _ _ _)
   | (with_reducible exact ih3 _ _ _ _ _ _ _ _ _ _ _)
   | (with_reducible exact ih4 _ _ _ _ _ _ _ _ _ _)
   | (with_reducible exact ih5 _ _ _ _ _ _ _ _ _ _ _)
   | (with_reducible exact ih6 _ _ _ _ _ _ _ _ _)
   | (with_reducible exact ih7 _ _ _)
   | (with_reducible exact ih8 _ _ _ _ _ _ _ _ _ _)
   | (with_reducible exact ih9 _ _ _)
   | (with_reducible exact bulletinref06_Fold.mono _ _)
   | (with_reducible exact bulletinref06_Words.mono _ _)
   | (with_reducible exact bulletinref13_Split.mono _ _ _)
   | (with_reducible exact bulletinref22_Number.mono _ _ _ _ _ _ _ _)
   | (with_reducible exact bulletinref22_digits.mono _ _ _ _)
   | (with_reducible exact LeO.refl _)
   | (with_reducible exact LeO.none _)
   | (with_reducible refine LeO.ite ?_ ?_)
   | (with_reducible refine LeO.bind ?_ (fun _ => ?_))
   | exact ih0 _ _
   | exact ih1 _ _ _ _ _ _ _ _ _ _
   | exact ih2 _ _ _ _ _ _ _ _ _ _
   | exact ih3 _ _ _ _ _ _ _ _ _ _ _
   | exact ih4 _ _ _ _ _ _ _ _ _ _
   | exact ih5 _ _ _ _ _ _ _ _ _ _ _
   | exact ih6 _ _ _ _ _ _ _ _ _
   | exact ih7 _ _ _
   | exact ih8 _ _ _ _ _ _ _ _ _ _
   | exact ih9 _ _ _
   | exact bulletinref06_Fold.mono _ _
   | exact bulletinref06_Words.mono _ _
   | exact bulletinref13_Split.mono _ _ _
   | exact bulletinref22_Number.mono _ _ _ _ _ _ _ _
   | exact bulletinref22_digits.mono _ _ _ _
   | exact LeO.none _
   | refine LeO.ite ?_ ?_
   | refine LeO.bind ?_ (fun _ => ?_)
  ·intro y0 y1 y2 y3 y4 y5 y6 y7 y8 y9
   unfold bulletinref22_Read.j7
   repeat' first
   | (with_reducible exact ih0 _ _)
   | (with_reducible exact ih1 _ _ _ _ _ _ _ _ _ _)
   | (with_reducible exact ih2 _ _ _ _ _ _ _ _ _ _)
   | (with_reducible exact ih3 _ _ _ _ _ _ _ _ _ _ _)
   | (with_reducible exact ih4 _ _ _ _ _ _ _ _ _ _)
   | (with_reducible exact ih5 _ _ _ _ _ _ _ _ _ _ _)
   | (with_reducible exact ih6 _ _ _ _ _ _ _ _ _)
   | (with_reducible exact ih7 _ _ _)
   | (with_reducible exact ih8 _ _ _ _ _ _ _ _ _ _)
   | (with_reducible exact ih9 _ _ _)
   | (with_reducible exact bulletinref06_Fold.mono _ _)
   | (with_reducible exact bulletinref06_Words.mono _ _)
   | (with_reducible exact bulletinref13_Split.mono _ _ _)
   | (with_reducible exact bulletinref22_Number.mono _ _ _ _ _ _ _ _)
   | (with_reducible exact bulletinref22_digits.mono _ _ _ _)
   | (with_reducible exact LeO.refl _)
   | (with_reducible exact LeO.none _)
   | (with_reducible refine LeO.ite ?_ ?_)
   | (with_reducible refine LeO.bind ?_ (fun _ => ?_))
   | exact ih0 _ _
   | exact ih1 _ _ _ _ _ _ _ _ _ _
   | exact ih2 _ _ _ _ _ _ _ _ _ _
   | exact ih3 _ _ _ _ _ _ _ _ _ _ _
   | exact ih4 _ _ _ _ _ _ _ _ _ _
   | exact ih5 _ _ _ _ _ _ _ _ _ _ _
   | exact ih6 _ _ _ _ _ _ _ _ _
   | exact ih7 _ _ _
   | exact ih8 _ _ _ _ _ _ _ _ _ _
   | exact ih9 _ _ _
   | exact bulletinref06_Fold.mono _ _
   | exact bulletinref06_Words.mono _ _
   | exact bulletinref13_Split.mono _ _ _
   | exact bulletinref22_Number.mono _ _ _ _ _ _ _ _
   | exact bulletinref22_digits.mono _ _ _ _
   | exact LeO.none _
   | refine LeO.ite ?_ ?_
   | refine LeO.bind ?_ (fun _ => ?_)
  ·intro y0 y1 y2
   unfold bulletinref22_Read.l0
   repeat' first
   | (with_reducible exact ih0 _ _)
   | (with_reducible exact ih1 _ _ _ _ _ _ _ _ _ _)
   | (with_reducible exact ih2 _ _ _ _ _ _ _ _ _ _)
   | (with_reducible exact ih3 _ _ _ _ _ _ _ _ _ _ _)
   | (with_reducible exact ih4 _ _ _ _ _ _ _ _ _ _)
   | (with_reducible exact ih5 _ _ _ _ _ _ _ _ _ _ _)
   | (with_reducible exact ih6 _ _ _ _ _ _ _ _ _)
   | (with_reducible exact ih7 _ _ _)
   | (with_reducible exact ih8 _ _ _ _ _ _ _ _ _ _)
   | (with_reducible exact ih9 _ _ _)
   | (with_reducible exact bulletinref06_Fold.mono _ _)
   | (with_reducible exact bulletinref06_Words.mono _ _)
   | (with_reducible exact bulletinref13_Split.mono _ _ _)
   | (with_reducible exact bulletinref22_Number.mono _ _ _ _ _ _ _ _)
   | (with_reducible exact bulletinref22_digits.mono _ _ _ _)
   | (with_reducible exact LeO.refl _)
   | (with_reducible exact LeO.none _)
   | (with_reducible refine LeO.ite ?_ ?_)
   | (with_reducible refine LeO.bind ?_ (fun _ => ?_))
   | exact ih0 _ _
   | exact ih1 _ _ _ _ _ _ _ _ _ _
   | exact ih2 _ _ _ _ _ _ _ _ _ _
   | exact ih3 _ _ _ _ _ _ _ _ _ _ _
   | exact ih4 _ _ _ _ _ _ _ _ _ _
   | exact ih5 _ _ _ _ _ _ _ _ _ _ _
   | exact ih6 _ _ _ _ _ _ _ _ _
   | exact ih7 _ _ _
   | exact ih8 _ _ _ _ _ _ _ _ _ _
   | exact ih9 _ _ _
   | exact bulletinref06_Fold.mono _ _
   | exact bulletinref06_Words.mono _ _
   | exact bulletinref13_Split.mono _ _ _
   | exact bulletinref22_Number.mono _ _ _ _ _ _ _ _
   | exact bulletinref22_digits.mono _ _ _ _
   | exact LeO.none _
   | refine LeO.ite ?_ ?_
   | refine LeO.bind ?_ (fun _ => ?_)
theorem bulletinref22_Read.mono : ∀ a0 k, LeO (bulletinref22_Read.f k a0) (bulletinref22_Read.f (k + 1) a0) := by
 intro a0 k
 obtain ⟨ih0, ih1, ih2, ih3, ih4, ih5, ih6, ih7, ih8, ih9⟩ := bulletinref22_Read.mono_l k
 unfold bulletinref22_Read.f
 repeat' first
   | (with_reducible exact ih0 _ _)
   | (with_reducible exact ih1 _ _ _ _ _ _ _ _ _ _)
   | (with_reducible exact ih2 _ _ _ _ _ _ _ _ _ _)
   | (with_reducible exact ih3 _ _ _ _ _ _ _ _ _ _ _)
   | (with_reducible exact ih4 _ _ _ _ _ _ _ _ _ _)
   | (with_reducible exact ih5 _ _ _ _ _ _ _ _ _ _ _)
   | (with_reducible exact ih6 _ _ _ _ _ _ _ _ _)
   | (with_reducible exact ih7 _ _ _)
   | (with_reducible exact ih8 _ _ _ _ _ _ _ _ _ _)
   | (with_reducible exact ih9 _ _ _)
   | (with_reducible exact bulletinref06_Fold.mono _ _)
   | (with_reducible exact bulletinref06_Words.mono _ _)
   | (with_reducible exact bulletinref13_Split.mono _ _ _)
   | (with_reducible exact bulletinref22_Number.mono _ _ _ _ _ _ _ _)
   | (with_reducible exact bulletinref22_digits.mono _ _ _ _)
   | (with_reducible exact LeO.refl _)
   | (with_reducible exact LeO.none _)
   | (with_reducible refine LeO.ite ?_ ?_)
   | (with_reducible refine LeO.bind ?_ (fun _ => ?_))
   | exact ih0 _ _
   | exact ih1 _ _ _ _ _ _ _ _ _ _
   | exact ih2 _ _ _ _ _ _ _ _ _ _
   | exact ih3 _ _ _ _ _ _ _ _ _ _ _
   | exact ih4 _ _ _ _ _ _ _ _ _ _
   | exact ih5 _ _ _ _ _ _ _ _ _ _ _
   | exact ih6 _ _ _ _ _ _ _ _ _
   | exact ih7 _ _ _
   | exact ih8 _ _ _ _ _ _ _ _ _ _
   | exact ih9 _ _ _
   | exact bulletinref06_Fold.mono _ _
   | exact bulletinref06_Words.mono _ _
   | exact bulletinref13_Split.mono _ _ _
   | exact bulletinref22_Number.mono _ _ _ _ _ _ _ _
   | exact bulletinref22_digits.mono _ _ _ _
   | exact LeO.none _
   | refine LeO.ite ?_ ?_
   | refine LeO.bind ?_ (fun _ => ?_)
def bulletinref22_Read.T14 : Bool × List (List Nat × List Nat) := (true, [([], []), ([0], [0]), ([1], [1]), ([2], [2]), ([], []), ([4], [4]), ([5], [5]), ([6, 3], [6]), ([3, 7], [3, 7]), ([], []), ([9, 8, 7, 0, 1, 2, 3, 4, 5, 6, 7, 8, 9], [8, 9])])
def bulletinref22_Read.B14 : List Nat := [0, 1, 3, 7, 0, 16, 48, 127, 255, 0, 1023]
theorem bulletinref22_Read.tab14 : rtab .any (opsOf Tryd.f14 14) = bulletinref22_Read.T14 := by kernel_rfl
theorem bulletinref22_Read.bits14 : waitsOk bulletinref22_Read.T14.2 bulletinref22_Read.B14 = true := by kernel_rfl
def bulletinref22_Read.T36 : Bool × List (List Nat × List Nat) := (true, [([], []), ([0], [0]), ([1], [1]), ([2], [2]), ([], []), ([4], [4]), ([5, 2], [5]), ([6], [6]), ([3, 7], [3, 7]), ([8, 6, 0, 1, 2, 3, 4, 5, 6, 7, 8], [8])])
def bulletinref22_Read.B36 : List Nat := [0, 1, 3, 7, 0, 16, 55, 119, 255, 511]
theorem bulletinref22_Read.tab36 : rtab .any (opsOf Tryd.f14 36) = bulletinref22_Read.T36 := by kernel_rfl
theorem bulletinref22_Read.bits36 : waitsOk bulletinref22_Read.T36.2 bulletinref22_Read.B36 = true := by kernel_rfl
set_option maxHeartbeats 8000000 in
set_option maxRecDepth 100000 in
theorem bulletinref22_Read.calls (k : Nat) (a0 : ByteArray) (r1 : Int) (r2 : Int) (w : World) (h : bulletinref22_Read.f k a0 = some (r1, r2)) :
  Calls Tryd.prog 14 #[.string a0] w fun e w' => e = .returned (.tuple #[.int .i64 r1, .int .i64 r2]) ∧ Below w.heap.size w w' := by
 have hu32 := Tryd.underlying32
 have HB := Aside0.mk (Below.refl w.heap.size w)
 have H : ((bulletinref06_Words.f k a0).bind fun t243 => (if (t243.length : Int) = 6 then (bulletinref22_Read.l0 k t243 (-1) 0) else (bulletinref22_Read.j1 k t243 (-1)))) = some (r1, r2) := h
 clear h
 replace H := Option.bind_eq_some_iff.mp H
 obtain ⟨t243, A20, H⟩ := H
 replace H : (if (t243.length : Int) = 6 then (bulletinref22_Read.l0 k t243 (-1) 0) else (bulletinref22_Read.j1 k t243 (-1))) = some (r1, r2) := H
 have A2 := Aside0.mk A20
 clear A20
 have HC3 := Aside0.mk H
 clear H
 go_enter Tryd.func14, Tryd.ntmps14
 go_upto_if 19 with (first | ((with_reducible refine gate_callee (f := 35) rfl ?_); refine goesL_ (some 16) rfl rfl Tryd.func35 (by kernel_rfl) rfl #[.string a0] rfl (by (try simp only [List.map_toArray, List.map_cons, List.map_nil]); first | done | rfl | (simp only [List.length_drop, List.length_take]; rfl)) ?_; (with_reducible refine (bulletinref06_Words.calls k a0 t243 _ A2.out).mono ?_); rintro e w4 ⟨v244, rfl, ho0, hb⟩; refine ⟨_, rfl, ?_⟩; have n0_ := Aside0.mk (Kd.R_lower ho0 (below_size (by repeat (first | (with_reducible first | exact HB.out | apply below_alloc | apply pw_below_drewN | apply below_drew1) | exact HB.out)))); have n1_ := Aside0.mk (below_step (by repeat (first | (with_reducible first | exact HB.out | apply below_alloc | apply pw_below_drewN | apply below_drew1) | exact HB.out)) hb); clear HB; have HO245 := n0_; have HB := n1_; clear n0_ n1_; (try clear hb); (try clear hb2); (try clear hk); (try clear hi); (try clear ho0); obtain ⟨Ao5, co5, eo5⟩ := Kd.R_slice HO245.out; subst eo5))
 (try simp only [Act.put, List.setIfInBounds_toArray, List.set_cons_zero, List.set_cons_succ])
 go_cut [4, 5] (fun v4 v5 wc => ∃ (kq : Nat) (x4_2 : List ByteArray) (x5_2 : Int), v5 = .int .i64 x5_2 ∧ Aside0 (bulletinref22_Read.j1 kq x4_2 x5_2 = some (r1, r2)) ∧ Aside0 (kq ≤ k) ∧ Aside0 (Kd.Q Kd.string 9 wc w.heap.size (fun _ => True) v4 x4_2) ∧ Aside0 (Below w.heap.size w wc))
 case first => as_aux_lemma =>
  have H := HC3.out
  clear HC3
  by_cases c6 : (t243.length : Int) = 6
  ·rw [if_pos c6] at H
   have c6b0 : ((t243.length : Int) == 6) = true := beq_iff_eq.mpr c6
   have c6b1 : ((t243.length : Int) != 6) = false := bne_eq_false_iff_eq.mpr c6
   clear c6
   (first | rw [c6b0] | (simp only [i64_w, i32_w]; rw [c6b0]) | skip)
   have H' := Aside0.mk H
   clear H
   go_wp2
   go_loopg [5, 6] k (fun kq v5 v6 w' => ∃ (x5_1 : Int) (x6_1 : Int), v5 = .int .i64 x5_1 ∧ v6 = .int .i64 x6_1 ∧ Aside0 (bulletinref22_Read.l0 kq t243 x5_1 x6_1 = some (r1, r2)) ∧ Aside0 (kq ≤ k) ∧ Aside0 (Kd.Q Kd.string 9 w' w.heap.size (fun _ => True) (.slice Ao5 t243.length co5) t243) ∧ Aside0 (Below w.heap.size w w'))
   case atStart => exact ⟨((-1)), (0), (by first | rfl | (simp; done) | (simp [*]; done)), (by first | rfl | (simp; done) | (simp [*]; done)), H', ⟨Nat.le_refl _⟩, ⟨Kd.Q_of_R (by (with_reducible repeat (first | apply Kd.R_alloc | apply Kd.R_drewN | apply Kd.R_drew)); exact HO245.out)⟩, ⟨by repeat (first | (with_reducible first | exact HB.out | apply below_alloc | apply pw_below_drewN | apply below_drew1) | exact HB.out)⟩⟩
   case round => as_aux_lemma =>
    clear H'
    try clear c1
    try clear p2
    try clear c3
    try clear c6
    try clear c6b0
    try clear c6b1
    obtain ⟨x5_1, x6_1, rfl, rfl, HA, HK1, HO_4, HB⟩ := hrel
    cases gk with
    | zero => exact absurd HA.out (by simp [bulletinref22_Read.l0])
    | succ k1 =>
     have H := HA.out
     clear HA
     simp only [bulletinref22_Read.l0] at H
     by_cases c7 : x6_1 < 7
     ·rw [if_pos c7] at H
      have c7b0 : decide (x6_1 < 7) = true := decide_eq_true c7
      clear c7
      by_cases c8 : 0 < (t243.length : Int)
      ·rw [if_pos c8] at H
       have c8b0 : decide (0 < (t243.length : Int)) = true := decide_eq_true c8
       have c8b1 : decide (0 < t243.length) = true := decide_eq_true (by omega)
       clear c8
       replace H := Option.bind_eq_some_iff.mp H
       obtain ⟨t250, A90, H⟩ := H
       replace H : ((bulletinref22_Week.f x6_1).bind fun t251 => (if t251.size + 1 ≤ 9223372036854775807 then ((bulletinref06_Fold.f k1 (t251 ++ (⟨#[44]⟩ : ByteArray))).bind fun t252 => (if t250.toList = t252.toList then (bulletinref22_Read.l0 k1 t243 x6_1 (wrap64 (x6_1 + 1))) else (bulletinref22_Read.l0 k1 t243 x5_1 (wrap64 (x6_1 + 1))))) else (none))) = some (r1, r2) := H
       have A9 := Aside0.mk A90
       clear A90
       replace H := Option.bind_eq_some_iff.mp H
       obtain ⟨t251, A100, H⟩ := H
       replace H : (if t251.size + 1 ≤ 9223372036854775807 then ((bulletinref06_Fold.f k1 (t251 ++ (⟨#[44]⟩ : ByteArray))).bind fun t252 => (if t250.toList = t252.toList then (bulletinref22_Read.l0 k1 t243 x6_1 (wrap64 (x6_1 + 1))) else (bulletinref22_Read.l0 k1 t243 x5_1 (wrap64 (x6_1 + 1))))) else (none)) = some (r1, r2) := H
       have A10 := Aside0.mk A100
       clear A100
       by_cases c11 : t251.size + 1 ≤ 9223372036854775807
       ·rw [if_pos c11] at H
        have c11b0 := eq_true c11
        have c11b1 : decide (t251.size + 1 ≤ 9223372036854775807) = true := decide_eq_true c11
        try have c11b2 : (9223372036854775807 < t251.size + 1) = False := eq_false (Nat.not_lt.2 c11)
        replace H := Option.bind_eq_some_iff.mp H
        obtain ⟨t252, A120, H⟩ := H
        replace H : (if t250.toList = t252.toList then (bulletinref22_Read.l0 k1 t243 x6_1 (wrap64 (x6_1 + 1))) else (bulletinref22_Read.l0 k1 t243 x5_1 (wrap64 (x6_1 + 1)))) = some (r1, r2) := H
        have A12 := Aside0.mk A120
        clear A120
        by_cases c13 : t250.toList = t252.toList
        ·rw [if_pos c13] at H
         have c13b0 : (t250.toList == t252.toList) = true := beq_iff_eq.mpr c13
         have c13b1 : (t250.toList != t252.toList) = false := bne_eq_false_iff_eq.mpr c13
         clear c13
         have H' := Aside0.mk H
         clear H
         have p249 : 0 ≤ (0 : Int) := (by omega)
         have q249 : 0 < (t243.length : Int) := of_decide_eq_true (by first | (with_reducible assumption) | assumption)
         obtain ⟨ad249, e249, hx249_0⟩ := Kd.at_string (Kd.Q_reads' HO_4.out).2.2 0 p249 q249
         cases e249
         have qi249 : (0 < t243.length) = True := eq_true (by omega)
         (try rw [show ((0 : Int)).toNat = 0 from rfl] at hx249_0)
         (try rw [Addr.add_zero'] at hx249_0)
         replace p249 := eq_true p249
         replace q249 := eq_true q249
         go_wp2_with (first | ((with_reducible refine gate_callee (f := 36) rfl ?_); refine goesL_ (some 27) rfl rfl Tryd.func36 (by kernel_rfl) rfl #[.string (rdOf ByteArray.empty t243 0)] rfl (by (try simp only [List.map_toArray, List.map_cons, List.map_nil]); first | done | rfl | (simp only [List.length_drop, List.length_take]; rfl)) ?_; (with_reducible refine (bulletinref06_Fold.calls k1 (rdOf ByteArray.empty t243 0) t250 _ A9.out).mono ?_); rintro e w14 ⟨rfl, hb⟩; refine ⟨_, rfl, ?_⟩; have n0_ := Aside0.mk (Kd.Q_below (by (with_reducible repeat (first | apply Kd.Q_alloc | apply Kd.Q_drewN | apply Kd.Q_drew)); exact HO_4.out) hb); have n1_ := Aside0.mk (below_step (by repeat (first | (with_reducible first | exact HB.out | apply below_alloc | apply pw_below_drewN | apply below_drew1) | exact HB.out)) hb); clear HO_4; clear HB; have HO_4 := n0_; have HB := n1_; clear n0_ n1_; (try clear hb); (try clear hb2); (try clear hk); (try clear hi)) | ((with_reducible refine gate_callee (f := 23) rfl ?_); refine goesL_ (some 29) rfl rfl Tryd.func23 (by kernel_rfl) rfl #[.int .i64 x6_1] rfl (by (try simp only [List.map_toArray, List.map_cons, List.map_nil]); first | done | rfl | (simp only [List.length_drop, List.length_take]; rfl)) ?_; (with_reducible refine (bulletinref22_Week.calls x6_1 t251 _ A10.out).mono ?_); rintro e w' ⟨rfl, ⟨nd, rfl⟩⟩; refine ⟨_, rfl, ?_⟩) | ((with_reducible refine gate_callee (f := 36) rfl ?_); refine goesL_ (some 31) rfl rfl Tryd.func36 (by kernel_rfl) rfl #[.string (t251 ++ (⟨#[44]⟩ : ByteArray))] rfl (by (try simp only [List.map_toArray, List.map_cons, List.map_nil]); first | done | rfl | (simp only [List.length_drop, List.length_take]; rfl)) ?_; (with_reducible refine (bulletinref06_Fold.calls k1 (t251 ++ (⟨#[44]⟩ : ByteArray)) t252 _ A12.out).mono ?_); rintro e w15 ⟨rfl, hb⟩; refine ⟨_, rfl, ?_⟩; have n0_ := Aside0.mk (Kd.Q_below (by (with_reducible repeat (first | apply Kd.Q_alloc | apply Kd.Q_drewN | apply Kd.Q_drew)); exact HO_4.out) hb); have n1_ := Aside0.mk (below_step (by repeat (first | (with_reducible first | exact HB.out | apply below_alloc | apply pw_below_drewN | apply below_drew1) | exact HB.out)) hb); clear HO_4; clear HB; have HO_4 := n0_; have HB := n1_; clear n0_ n1_; (try clear hb); (try clear hb2); (try clear hk); (try clear hi)))
         go_roundg k1
         case measure => have := HK1.out; omega
         case rel => exact ⟨(x6_1), (wrap64 (x6_1 + 1)), (by first | rfl | (simp; done) | (simp [*]; done)), (by first | rfl | (simp; done) | (simp [*]; done)), H', ⟨by have := HK1.out; omega⟩, ⟨by (with_reducible repeat (first | apply Kd.Q_alloc | apply Kd.Q_drewN | apply Kd.Q_drew)); exact HO_4.out⟩, ⟨by repeat (first | (with_reducible first | exact HB.out | apply below_alloc | apply pw_below_drewN | apply below_drew1) | exact HB.out)⟩⟩
        ·rw [if_neg c13] at H
         have c13b0 : (t250.toList == t252.toList) = false := beq_eq_false_iff_ne.mpr c13
         have c13b1 : (t250.toList != t252.toList) = true := bne_iff_ne.mpr c13
         have H' := Aside0.mk H
         clear H
         have p249 : 0 ≤ (0 : Int) := (by omega)
         have q249 : 0 < (t243.length : Int) := of_decide_eq_true (by first | (with_reducible assumption) | assumption)
         obtain ⟨ad249, e249, hx249_0⟩ := Kd.at_string (Kd.Q_reads' HO_4.out).2.2 0 p249 q249
         cases e249
         have qi249 : (0 < t243.length) = True := eq_true (by omega)
         (try rw [show ((0 : Int)).toNat = 0 from rfl] at hx249_0)
         (try rw [Addr.add_zero'] at hx249_0)
         replace p249 := eq_true p249
         replace q249 := eq_true q249
         go_wp2_with (first | ((with_reducible refine gate_callee (f := 36) rfl ?_); refine goesL_ (some 27) rfl rfl Tryd.func36 (by kernel_rfl) rfl #[.string (rdOf ByteArray.empty t243 0)] rfl (by (try simp only [List.map_toArray, List.map_cons, List.map_nil]); first | done | rfl | (simp only [List.length_drop, List.length_take]; rfl)) ?_; (with_reducible refine (bulletinref06_Fold.calls k1 (rdOf ByteArray.empty t243 0) t250 _ A9.out).mono ?_); rintro e w16 ⟨rfl, hb⟩; refine ⟨_, rfl, ?_⟩; have n0_ := Aside0.mk (Kd.Q_below (by (with_reducible repeat (first | apply Kd.Q_alloc | apply Kd.Q_drewN | apply Kd.Q_drew)); exact HO_4.out) hb); have n1_ := Aside0.mk (below_step (by repeat (first | (with_reducible first | exact HB.out | apply below_alloc | apply pw_below_drewN | apply below_drew1) | exact HB.out)) hb); clear HO_4; clear HB; have HO_4 := n0_; have HB := n1_; clear n0_ n1_; (try clear hb); (try clear hb2); (try clear hk); (try clear hi)) | ((with_reducible refine gate_callee (f := 23) rfl ?_); refine goesL_ (some 29) rfl rfl Tryd.func23 (by kernel_rfl) rfl #[.int .i64 x6_1] rfl (by (try simp only [List.map_toArray, List.map_cons, List.map_nil]); first | done | rfl | (simp only [List.length_drop, List.length_take]; rfl)) ?_; (with_reducible refine (bulletinref22_Week.calls x6_1 t251 _ A10.out).mono ?_); rintro e w' ⟨rfl, ⟨nd, rfl⟩⟩; refine ⟨_, rfl, ?_⟩) | ((with_reducible refine gate_callee (f := 36) rfl ?_); refine goesL_ (some 31) rfl rfl Tryd.func36 (by kernel_rfl) rfl #[.string (t251 ++ (⟨#[44]⟩ : ByteArray))] rfl (by (try simp only [List.map_toArray, List.map_cons, List.map_nil]); first | done | rfl | (simp only [List.length_drop, List.length_take]; rfl)) ?_; (with_reducible refine (bulletinref06_Fold.calls k1 (t251 ++ (⟨#[44]⟩ : ByteArray)) t252 _ A12.out).mono ?_); rintro e w17 ⟨rfl, hb⟩; refine ⟨_, rfl, ?_⟩; have n0_ := Aside0.mk (Kd.Q_below (by (with_reducible repeat (first | apply Kd.Q_alloc | apply Kd.Q_drewN | apply Kd.Q_drew)); exact HO_4.out) hb); have n1_ := Aside0.mk (below_step (by repeat (first | (with_reducible first | exact HB.out | apply below_alloc | apply pw_below_drewN | apply below_drew1) | exact HB.out)) hb); clear HO_4; clear HB; have HO_4 := n0_; have HB := n1_; clear n0_ n1_; (try clear hb); (try clear hb2); (try clear hk); (try clear hi)))
         go_roundg k1
         case measure => have := HK1.out; omega
         case rel => exact ⟨(x5_1), (wrap64 (x6_1 + 1)), (by first | rfl | (simp; done) | (simp [*]; done)), (by first | rfl | (simp; done) | (simp [*]; done)), H', ⟨by have := HK1.out; omega⟩, ⟨by (with_reducible repeat (first | apply Kd.Q_alloc | apply Kd.Q_drewN | apply Kd.Q_drew)); exact HO_4.out⟩, ⟨by repeat (first | (with_reducible first | exact HB.out | apply below_alloc | apply pw_below_drewN | apply below_drew1) | exact HB.out)⟩⟩
       ·rw [if_neg c11] at H
        exact absurd H (by simp)
      ·rw [if_neg c8] at H
       exact absurd H (by simp)
     ·rw [if_neg c7] at H
      have c7b0 : decide (x6_1 < 7) = false := decide_eq_false c7
      clear c7
      by_cases c18 : x5_1 < 0
      ·rw [if_pos c18] at H
       have c18b0 : decide (x5_1 < 0) = true := decide_eq_true c18
       clear c18
       simp only [Option.some.injEq, Prod.mk.injEq] at H
       obtain ⟨rfl, rfl⟩ := H
       go_wp2
       go_ret2
       exact ⟨by first | rfl | (simp [errW_none, errW_some] <;> rfl) | (simp [*, errW_none, errW_some] <;> rfl), by repeat (first | (with_reducible first | exact HB.out | apply below_alloc | apply pw_below_drewN | apply below_drew1) | exact HB.out)⟩
      ·rw [if_neg c18] at H
       have c18b0 : decide (x5_1 < 0) = false := decide_eq_false c18
       clear c18
       by_cases c19 : 1 ≤ (t243.length : Int)
       ·rw [if_pos c19] at H
        have c19b0 := eq_true c19
        have c19b1 : decide (1 ≤ (t243.length : Int)) = true := decide_eq_true c19
        clear c19
        obtain ⟨y246, hy246⟩ : ∃ y_ : List ByteArray, y_ = (t243.drop (1 : Int).toNat) := ⟨_, rfl⟩
        replace H : (bulletinref22_Read.j1 k1 y246 x5_1) = some (r1, r2) := by first | (rw [hy246]; with_reducible exact H) | (have H2_ := (Option.bind_some _ _).symm.trans H; rw [hy246]; with_reducible exact H2_) | (have H2_ := (Option.bind_some _ _).symm.trans H; with_reducible exact H2_) | with_reducible exact H | (rw [hy246]; exact H) | exact H
        have Ny246 := Aside0.mk hy246
        clear hy246
        have H' := Aside0.mk H
        clear H
        have q20 : (1 : Int) ≤ ((t243.length : Int) : Int) := of_decide_eq_true (by first | (with_reducible assumption) | assumption)
        obtain ⟨i020, hi020, _, hsz20, _⟩ := info_parts info9
        have hcut20 := cut_from (P := Tryd.prog) 47 9 .i64 Tryd.underlying47 hi020 1 hsz20 Ao5 t243.length co5 1 (by omega) q20
        have hr20 := Kd.Q_drop (k := (1 : Int).toNat) HO_4.out (by omega)
        obtain ⟨A20, hA20⟩ : ∃ A1, A1 = (if co5 = (1 : Int).toNat then Ao5 else (Ao5 : Option Addr).map (·.add ((1 : Int).toNat * 1))) := ⟨_, rfl⟩
        obtain ⟨c20, hc20⟩ : ∃ c1, c1 = co5 - (1 : Int).toNat := ⟨_, rfl⟩
        have hy20 : y246.length = t243.length - (1 : Int).toNat := (by rw [Ny246.out, List.length_drop])
        rw [← Ny246.out] at hr20
        rw [← hy20, ← hA20, ← hc20] at hcut20
        replace hr20 : Kd.Q Kd.string 9 wr w.heap.size (fun _ => True) (.slice A20 y246.length c20) y246 := (by rw [hA20, hc20, hy20]; exact hr20)
        have HE20 : Aside0 ((Value.slice A20 y246.length c20).ownBlock = (.slice Ao5 t243.length co5 : Value).ownBlock) := ⟨by rw [hA20]; split <;> (cases (Ao5 : Option Addr) <;> rfl)⟩
        clear hy20 hi020 hsz20 HO_4 hA20 hc20
        have HO248 := Aside0.mk hr20
        clear hr20
        replace q20 := eq_true q20
        go_wp2
        go_meet
        case rel => exact ⟨_, (y246), (x5_1), (by first | rfl | (simp; done) | (simp [*]; done)), H', ⟨by have := HK1.out; first | omega | exact Nat.le_refl _⟩, ⟨by (with_reducible repeat (first | apply Kd.Q_alloc | apply Kd.Q_drewN | apply Kd.Q_drew)); exact HO248.out⟩, ⟨by repeat (first | (with_reducible first | exact HB.out | apply below_alloc | apply pw_below_drewN | apply below_drew1) | exact HB.out)⟩⟩
       ·rw [if_neg c19] at H
        exact absurd H (by simp)
  ·rw [if_neg c6] at H
   have c6b0 : ((t243.length : Int) == 6) = false := beq_eq_false_iff_ne.mpr c6
   have c6b1 : ((t243.length : Int) != 6) = true := bne_iff_ne.mpr c6
   (first | rw [c6b0] | (simp only [i64_w, i32_w]; rw [c6b0]) | skip)
   have H' := Aside0.mk H
   clear H
   go_wp2
   go_meet
   case rel => exact ⟨_, (t243), ((-1)), (by first | rfl | (simp; done) | (simp [*]; done)), H', ⟨by first | omega | exact Nat.le_refl _⟩, ⟨Kd.Q_of_R (by (with_reducible repeat (first | apply Kd.R_alloc | apply Kd.R_drewN | apply Kd.R_drew)); exact HO245.out)⟩, ⟨by repeat (first | (with_reducible first | exact HB.out | apply below_alloc | apply pw_below_drewN | apply below_drew1) | exact HB.out)⟩⟩
 case rest => as_aux_lemma =>
  clear HC3
  try clear c1
  try clear c2
  try clear p2
  try clear q2
  try clear hx2
  try clear qi2
  try clear c3
  try clear c6
  try clear c6b0
  try clear c6b1
  try clear p6
  try clear c7
  try clear c7b0
  try clear c8
  try clear c8b0
  try clear c8b1
  try clear c11
  try clear c11b0
  try clear c11b1
  try clear c11b2
  try clear c13
  try clear c13b0
  try clear c13b1
  try clear c14
  try clear c18
  try clear c18b0
  try clear c19
  try clear c19b0
  try clear c19b1
  try clear c20
  try clear q20
  try clear hx249_0
  try clear p2
  try clear p249
  try clear q20
  try clear q249
  obtain ⟨kq, x4_2, x5_2, rfl, HA, HJ2, HO_4, HB⟩ := hcut
  cases kq with
  | zero => exact absurd HA.out (by simp [bulletinref22_Read.j1])
  | succ kj2 =>
   have H := HA.out
   clear HA
   simp only [bulletinref22_Read.j1] at H
   by_cases c21 : (x4_2.length : Int) = 5
   ·rw [if_pos c21] at H
    have c21b0 : ((x4_2.length : Int) == 5) = true := beq_iff_eq.mpr c21
    have c21b1 : ((x4_2.length : Int) != 5) = false := bne_eq_false_iff_eq.mpr c21
    clear c21
    by_cases c22 : 0 < (x4_2.length : Int)
    ·rw [if_pos c22] at H
     have c22b0 : decide (0 < (x4_2.length : Int)) = true := decide_eq_true c22
     have c22b1 : decide (0 < x4_2.length) = true := decide_eq_true (by omega)
     clear c22
     replace H := Option.bind_eq_some_iff.mp H
     obtain ⟨t254, A230, H⟩ := H
     replace H : (if 2 < (x4_2.length : Int) then ((bulletinref22_digits.f kj2 (rdOf ByteArray.empty x4_2 2) 4 5).bind fun t256 => (bulletinref22_Read.l1 kj2 x4_2 x5_2 1 t256 0 t254 0 0 0 0)) else (none)) = some (r1, r2) := H
     have A23 := Aside0.mk A230
     clear A230
     by_cases c24 : 2 < (x4_2.length : Int)
     ·rw [if_pos c24] at H
      have c24b0 : decide (2 < (x4_2.length : Int)) = true := decide_eq_true c24
      have c24b1 : decide (2 < x4_2.length) = true := decide_eq_true (by omega)
      clear c24
      replace H := Option.bind_eq_some_iff.mp H
      obtain ⟨t256, A250, H⟩ := H
      replace H : (bulletinref22_Read.l1 kj2 x4_2 x5_2 1 t256 0 t254 0 0 0 0) = some (r1, r2) := H
      have A25 := Aside0.mk A250
      clear A250
      have H' := Aside0.mk H
      clear H
      obtain ⟨Ao26, co26, eo26, _⟩ := Kd.Q_slice HO_4.out
      subst eo26
      try go_wp2
      have n0_ := Aside0.mk (Kd.Q_drew HO_4.out)
      have n1_ := Aside0.mk (below_drew1 HB.out)
      clear HO_4
      clear HB
      have HO_4 := n0_
      have HB := n1_
      clear n0_ n1_
      have p253 : 0 ≤ (0 : Int) := (by omega)
      have q253 : 0 < (x4_2.length : Int) := of_decide_eq_true (by first | (with_reducible assumption) | assumption)
      obtain ⟨ad253, e253, hx253_0⟩ := Kd.at_string (Kd.Q_reads' HO_4.out).2.2 0 p253 q253
      cases e253
      have qi253 : (0 < x4_2.length) = True := eq_true (by omega)
      (try rw [show ((0 : Int)).toNat = 0 from rfl] at hx253_0)
      (try rw [Addr.add_zero'] at hx253_0)
      replace p253 := eq_true p253
      replace q253 := eq_true q253
      have p255 : 0 ≤ (2 : Int) := (by omega)
      have q255 : 2 < (x4_2.length : Int) := of_decide_eq_true (by first | (with_reducible assumption) | assumption)
      obtain ⟨ad255, e255, hx255_0⟩ := Kd.at_string (Kd.Q_reads' HO_4.out).2.2 2 p255 q255
      obtain rfl : ad253 = ad255 := (by injection e255)
      (try simp only [show (2 : Int).toNat = 2 from rfl, Nat.reduceMul, Nat.reduceEqDiff, Go.Addr.add, ↓reduceIte] at hx255_0)
      have qi255 : (2 < x4_2.length) = True := eq_true (by omega)
      (try rw [show ((2 : Int)).toNat = 2 from rfl] at hx255_0)
      replace p255 := eq_true p255
      replace q255 := eq_true q255
      refine start_ (n := 11) (S := fun w' => w'.cell? ad253 = some (.string (rdOf ByteArray.empty x4_2 0)) ∧ w'.cell? ⟨ad253.block, ad253.off + 2, none⟩ = some (.string (rdOf ByteArray.empty x4_2 2))) (ds := []) #[ff,ff,ff,ff,ff,ff,ff,ff,ff,ff,ff] (by kernel_rfl) rfl rfl ⟨hx253_0, hx255_0⟩ (fun hHeld => ?_); refine with_tabW bulletinref22_Read.tab14 bulletinref22_Read.bits14 (fun HT_ HW_ => ?_)
      generalize wc.drew = w27 at HO_4 HB hx253_0 hx255_0 hHeld ⊢
      refine pure_ (i := 0) (N := some 41) (v := ?_) (a' := ?_) #[tt,ff,ff,ff,ff,ff,ff,ff,ff,ff,ff] rfl rfl (any_of HT_.out (by kernel_rfl)) (fun _ _ _ h => h) (Or.inl ⟨by rfl, ?_⟩) ?_ ?_
      rotate_left
      ·intro w'
       go_simp
       with_reducible rfl
      rotate_left
      ·simp only [Act.put, List.setIfInBounds_toArray, List.set_cons_zero, List.set_cons_succ, i64_w, i32_w]
       rfl
      refine pure_ (i := 1) (N := some 42) (v := ?_) (a' := ?_) #[tt,tt,ff,ff,ff,ff,ff,ff,ff,ff,ff] rfl rfl (any_of HT_.out (by kernel_rfl)) (fun _ _ _ h => h) (Or.inl ⟨by rfl, ?_⟩) ?_ ?_
      rotate_left
      ·intro w'
       go_simp
       with_reducible rfl
      rotate_left
      ·simp only [Act.put, List.setIfInBounds_toArray, List.set_cons_zero, List.set_cons_succ, i64_w, i32_w]
       rfl
      refine pure_ (i := 4) (N := some 45) (v := ?_) (a' := ?_) #[tt,tt,ff,ff,tt,ff,ff,ff,ff,ff,ff] rfl rfl (any_of HT_.out (by kernel_rfl)) (fun _ _ _ h => h) (Or.inl ⟨by rfl, ?_⟩) ?_ ?_
      rotate_left
      ·intro w'
       go_simp
       with_reducible rfl
      rotate_left
      ·simp only [Act.put, List.setIfInBounds_toArray, List.set_cons_zero, List.set_cons_succ, i64_w, i32_w]
       rfl
      refine pure_ (i := 5) (N := some 46) (v := ?_) (a' := ?_) #[tt,tt,ff,ff,tt,tt,ff,ff,ff,ff,ff] rfl rfl (any_of HT_.out (by kernel_rfl)) (fun _ _ _ h => h) (Or.inl ⟨by rfl, ?_⟩) ?_ ?_
      rotate_left
      ·intro w'
       go_simp
       with_reducible rfl
      rotate_left
      ·simp only [Act.put, List.setIfInBounds_toArray, List.set_cons_zero, List.set_cons_succ, i64_w, i32_w]
       rfl
      refine take_ (i := 2) (N := some 43) (v := ?_) (a' := ?_) #[tt,tt,tt,ff,tt,tt,ff,ff,ff,ff,ff] rfl rfl (take_ofW HT_.out HW_.out (by kernel_rfl)) (fun _ _ _ h => h) (Or.inl ⟨by rfl, ?_⟩) hHeld ?_ ?_
      rotate_left
      ·rintro w' ⟨s0, s1⟩
       go_simp
       with_reducible rfl
      rotate_left
      ·simp only [Act.put, List.setIfInBounds_toArray, List.set_cons_zero, List.set_cons_succ, i64_w, i32_w]
       rfl
      refine take_ (i := 6) (N := some 47) (v := ?_) (a' := ?_) #[tt,tt,tt,ff,tt,tt,tt,ff,ff,ff,ff] rfl rfl (take_ofW HT_.out HW_.out (by kernel_rfl)) (fun _ _ _ h => h) (Or.inl ⟨by rfl, ?_⟩) hHeld ?_ ?_
      rotate_left
      ·rintro w' ⟨s0, s1⟩
       go_simp
       with_reducible rfl
      rotate_left
      ·simp only [Act.put, List.setIfInBounds_toArray, List.set_cons_zero, List.set_cons_succ, i64_w, i32_w]
       rfl
      refine join_ (σ := Nat) 1 #[tt,tt,tt,tt,tt,tt,tt,tt,tt,tt,ff] (fun s_ => [(44, .int .i64 t254), (48, .int .i64 t256), (7, .pointer (some ⟨s_, 0, none⟩)), (49, .agg #[.int .i64 t256, .int .i64 0, .int .i64 t254, .int .i64 0, .int .i64 0, .int .i64 0, .int .i64 0])]) (fun s_ w' => (w'.cell? ad253 = some (.string (rdOf ByteArray.empty x4_2 0)) ∧ w'.cell? ⟨ad253.block, ad253.off + 2, none⟩ = some (.string (rdOf ByteArray.empty x4_2 2))) ∧ (Kd.Q Kd.string 9 w' w.heap.size (fun _ => True) (.slice (some ad253) x4_2.length co26) x4_2) ∧ (w'.heap[s_]? = some (.cells #[.int .i64 0, .int .i64 0, .int .i64 0, .int .i64 0, .int .i64 0, .int .i64 0, .int .i64 0] 32 (0, 0))) ∧ (w.heap.size ≤ s_) ∧ (w.heap.size ≤ s_) ∧ (Below w.heap.size w w')) ?_ ?_
      rotate_left
      ·intro hCont
       refine two_ (i := 3) (j := 9) (Ni := some 44) (Nj := some 7) #[tt,tt,tt,tt,tt,tt,tt,ff,ff,ff,ff] #[tt,tt,tt,ff,tt,tt,tt,ff,ff,tt,ff] rfl rfl rfl rfl (two_of HT_.out (by kernel_rfl)) (by decide) (by decide) (fun K hK => ?_) (fun K hK => ?_)
       ·skip
        refine goes_ Tryd.func37 (by kernel_rfl) rfl #[.string (rdOf ByteArray.empty x4_2 0), .int .i64 1, .int .i64 2] (by rfl) rfl rfl (by (try simp only [List.map_toArray, List.map_cons, List.map_nil]); first | done | rfl | (simp only [List.length_drop, List.length_take]; rfl)) ?_
        with_reducible refine (bulletinref22_digits.calls kj2 (rdOf ByteArray.empty x4_2 0) 1 2 t254 _ A23.out).mono ?_
        rintro e w' ⟨rfl, ⟨nd, rfl⟩⟩
        refine ⟨_, rfl, ?_⟩
        refine hK.out _ _ ⟨hHeld.1, hHeld.2⟩ (fun hHeld => ?_)
        clear hK K
        refine norm_ (a' := ?_) ?_ ?_
        rotate_left
        ·show Act.put _ (some 44) _ = _
         simp only [Act.put, List.setIfInBounds_toArray, List.set_cons_zero, List.set_cons_succ, i64_w, i32_w]
         rfl
        refine two_ (i := 7) (j := 9) (Ni := some 48) (Nj := some 7) #[tt,tt,tt,tt,tt,tt,tt,tt,ff,ff,ff] #[tt,tt,tt,tt,tt,tt,tt,ff,ff,tt,ff] rfl rfl rfl rfl (two_of HT_.out (by kernel_rfl)) (by decide) (by decide) (fun K hK => ?_) (fun K hK => ?_)
        ·skip
         refine goes_ Tryd.func37 (by kernel_rfl) rfl #[.string (rdOf ByteArray.empty x4_2 2), .int .i64 4, .int .i64 5] (by rfl) rfl rfl (by (try simp only [List.map_toArray, List.map_cons, List.map_nil]); first | done | rfl | (simp only [List.length_drop, List.length_take]; rfl)) ?_
         with_reducible refine (bulletinref22_digits.calls kj2 (rdOf ByteArray.empty x4_2 2) 4 5 t256 _ A25.out).mono ?_
         rintro e w' ⟨rfl, ⟨nd, rfl⟩⟩
         refine ⟨_, rfl, ?_⟩
         refine hK.out _ _ ⟨hHeld.1, hHeld.2⟩ (fun hHeld => ?_)
         clear hK K
         refine norm_ (a' := ?_) ?_ ?_
         rotate_left
         ·show Act.put _ (some 48) _ = _
          simp only [Act.put, List.setIfInBounds_toArray, List.set_cons_zero, List.set_cons_succ, i64_w, i32_w]
          rfl
         refine pure_ (i := 8) (N := some 49) (v := ?_) (a' := ?_) #[tt,tt,tt,tt,tt,tt,tt,tt,tt,ff,ff] rfl rfl (any_of HT_.out (by kernel_rfl)) (fun _ _ _ h => h) (Or.inl ⟨by rfl, ?_⟩) ?_ ?_
         rotate_left
         ·intro w'
          go_simp
          with_reducible rfl
         rotate_left
         ·simp only [Act.put, List.setIfInBounds_toArray, List.set_cons_zero, List.set_cons_succ, i64_w, i32_w]
          rfl
         refine one_ (i := 9) (N := some 7) #[tt,tt,tt,tt,tt,tt,tt,tt,tt,tt,ff] rfl rfl (one_of HT_.out (by kernel_rfl)) (by decide) (fun K hK => ?_)
         refine box_step ?hg (N := 7) ?hd (cs := #[.int .i64 0, .int .i64 0, .int .i64 0, .int .i64 0, .int .i64 0, .int .i64 0, .int .i64 0]) (t := 32) ?hr ?_; (case hd => rfl); (case hg => rfl); (case hr => first | (go_simp; done) | (go_simp; rfl))
         intro gb257 hg w28 hbox hb
         have HS0_ := (hb.cell (World.block_lt_of_cell? _ _ (hHeld.1))).trans (hHeld.1)
         have HS1_ := (hb.cell (World.block_lt_of_cell? _ _ (hHeld.2))).trans (hHeld.2)
         have n0_ := Aside0.mk (Kd.Q_below (by (with_reducible repeat (first | apply Kd.Q_alloc | apply Kd.Q_drewN | apply Kd.Q_drew)); exact HO_4.out) hb)
         have n1_ := Aside0.mk (below_step (by repeat (first | (with_reducible first | exact HB.out | apply below_alloc | apply pw_below_drewN | apply below_drew1) | exact HB.out)) hb)
         have n2_ := Aside0.mk (hbox)
         have n3_ := Aside0.mk ((by rw [hg]; exact (below_size (by repeat (first | (with_reducible first | exact HB.out | apply below_alloc | apply pw_below_drewN | apply below_drew1) | exact HB.out))) : w.heap.size ≤ gb257))
         have n4_ := Aside0.mk ((by rw [hg]; exact (below_size (by repeat (first | (with_reducible first | exact HB.out | apply below_alloc | apply pw_below_drewN | apply below_drew1) | exact HB.out))) : w.heap.size ≤ gb257))
         clear HO_4
         clear HB
         have HO_4 := n0_
         have HB := n1_
         have BK257 := n2_
         have GW257 := n3_
         have GE257 := n4_
         clear n0_ n1_ n2_ n3_ n4_
         clear hb hbox hg
         refine hK.out _ _ ⟨HS0_, HS1_⟩ (fun hHeld => ?_)
         clear hK K
         refine norm_ (a' := ?_) ?_ ?_
         rotate_left
         ·show Act.put _ (some 7) _ = _
          simp only [Act.put, List.setIfInBounds_toArray, List.set_cons_zero, List.set_cons_succ, i64_w, i32_w]
          rfl
         exact norm_ (by simp only [putAll, Act.put, List.setIfInBounds_toArray, List.set_cons_zero, List.set_cons_succ]) (hCont (gb257) _ ⟨hHeld, (by (with_reducible repeat (first | apply Kd.Q_alloc | apply Kd.Q_drewN | apply Kd.Q_drew)); exact HO_4.out), (by (with_reducible repeat (first | refine blk_drewN ?_ _ | refine blk_drew ?_ | refine blk_alloc ?_ _)); exact BK257.out), GW257.out, GE257.out, (by repeat (first | (with_reducible first | exact HB.out | apply below_alloc | apply pw_below_drewN | apply below_drew1 | refine below_set ?_ GE257.out) | exact HB.out))⟩)
        ·skip
         refine box_step ?hg (N := 7) ?hd (cs := #[.int .i64 0, .int .i64 0, .int .i64 0, .int .i64 0, .int .i64 0, .int .i64 0, .int .i64 0]) (t := 32) ?hr ?_; (case hd => rfl); (case hg => rfl); (case hr => first | (go_simp; done) | (go_simp; rfl))
         intro gb257 hg w28 hbox hb
         have HS0_ := (hb.cell (World.block_lt_of_cell? _ _ (hHeld.1))).trans (hHeld.1)
         have HS1_ := (hb.cell (World.block_lt_of_cell? _ _ (hHeld.2))).trans (hHeld.2)
         have n0_ := Aside0.mk (Kd.Q_below (by (with_reducible repeat (first | apply Kd.Q_alloc | apply Kd.Q_drewN | apply Kd.Q_drew)); exact HO_4.out) hb)
         have n1_ := Aside0.mk (below_step (by repeat (first | (with_reducible first | exact HB.out | apply below_alloc | apply pw_below_drewN | apply below_drew1) | exact HB.out)) hb)
         have n2_ := Aside0.mk (hbox)
         have n3_ := Aside0.mk ((by rw [hg]; exact (below_size (by repeat (first | (with_reducible first | exact HB.out | apply below_alloc | apply pw_below_drewN | apply below_drew1) | exact HB.out))) : w.heap.size ≤ gb257))
         have n4_ := Aside0.mk ((by rw [hg]; exact (below_size (by repeat (first | (with_reducible first | exact HB.out | apply below_alloc | apply pw_below_drewN | apply below_drew1) | exact HB.out))) : w.heap.size ≤ gb257))
         clear HO_4
         clear HB
         have HO_4 := n0_
         have HB := n1_
         have BK257 := n2_
         have GW257 := n3_
         have GE257 := n4_
         clear n0_ n1_ n2_ n3_ n4_
         clear hb hbox hg
         refine hK.out _ _ ⟨HS0_, HS1_⟩ (fun hHeld => ?_)
         clear hK K
         refine norm_ (a' := ?_) ?_ ?_
         rotate_left
         ·show Act.put _ (some 7) _ = _
          simp only [Act.put, List.setIfInBounds_toArray, List.set_cons_zero, List.set_cons_succ, i64_w, i32_w]
          rfl
         refine one_ (i := 7) (N := some 48) #[tt,tt,tt,tt,tt,tt,tt,tt,ff,tt,ff] rfl rfl (one_of HT_.out (by kernel_rfl)) (by decide) (fun K hK => ?_)
         refine goes_ Tryd.func37 (by kernel_rfl) rfl #[.string (rdOf ByteArray.empty x4_2 2), .int .i64 4, .int .i64 5] (by rfl) rfl rfl (by (try simp only [List.map_toArray, List.map_cons, List.map_nil]); first | done | rfl | (simp only [List.length_drop, List.length_take]; rfl)) ?_
         with_reducible refine (bulletinref22_digits.calls kj2 (rdOf ByteArray.empty x4_2 2) 4 5 t256 _ A25.out).mono ?_
         rintro e w' ⟨rfl, ⟨nd, rfl⟩⟩
         refine ⟨_, rfl, ?_⟩
         refine hK.out _ _ ⟨hHeld.1, hHeld.2⟩ (fun hHeld => ?_)
         clear hK K
         refine norm_ (a' := ?_) ?_ ?_
         rotate_left
         ·show Act.put _ (some 48) _ = _
          simp only [Act.put, List.setIfInBounds_toArray, List.set_cons_zero, List.set_cons_succ, i64_w, i32_w]
          rfl
         refine pure_ (i := 8) (N := some 49) (v := ?_) (a' := ?_) #[tt,tt,tt,tt,tt,tt,tt,tt,tt,tt,ff] rfl rfl (any_of HT_.out (by kernel_rfl)) (fun _ _ _ h => h) (Or.inl ⟨by rfl, ?_⟩) ?_ ?_
         rotate_left
         ·intro w'
          go_simp
          with_reducible rfl
         rotate_left
         ·simp only [Act.put, List.setIfInBounds_toArray, List.set_cons_zero, List.set_cons_succ, i64_w, i32_w]
          rfl
         exact norm_ (by simp only [putAll, Act.put, List.setIfInBounds_toArray, List.set_cons_zero, List.set_cons_succ]) (hCont (gb257) _ ⟨hHeld, (by (with_reducible repeat (first | apply Kd.Q_alloc | apply Kd.Q_drewN | apply Kd.Q_drew)); exact HO_4.out), (by (with_reducible repeat (first | refine blk_drewN ?_ _ | refine blk_drew ?_ | refine blk_alloc ?_ _)); exact BK257.out), GW257.out, GE257.out, (by repeat (first | (with_reducible first | exact HB.out | apply below_alloc | apply pw_below_drewN | apply below_drew1 | refine below_set ?_ GE257.out) | exact HB.out))⟩)
       ·skip
        refine box_step ?hg (N := 7) ?hd (cs := #[.int .i64 0, .int .i64 0, .int .i64 0, .int .i64 0, .int .i64 0, .int .i64 0, .int .i64 0]) (t := 32) ?hr ?_; (case hd => rfl); (case hg => rfl); (case hr => first | (go_simp; done) | (go_simp; rfl))
        intro gb257 hg w28 hbox hb
        have HS0_ := (hb.cell (World.block_lt_of_cell? _ _ (hHeld.1))).trans (hHeld.1)
        have HS1_ := (hb.cell (World.block_lt_of_cell? _ _ (hHeld.2))).trans (hHeld.2)
        have n0_ := Aside0.mk (Kd.Q_below (by (with_reducible repeat (first | apply Kd.Q_alloc | apply Kd.Q_drewN | apply Kd.Q_drew)); exact HO_4.out) hb)
        have n1_ := Aside0.mk (below_step (by repeat (first | (with_reducible first | exact HB.out | apply below_alloc | apply pw_below_drewN | apply below_drew1) | exact HB.out)) hb)
        have n2_ := Aside0.mk (hbox)
        have n3_ := Aside0.mk ((by rw [hg]; exact (below_size (by repeat (first | (with_reducible first | exact HB.out | apply below_alloc | apply pw_below_drewN | apply below_drew1) | exact HB.out))) : w.heap.size ≤ gb257))
        have n4_ := Aside0.mk ((by rw [hg]; exact (below_size (by repeat (first | (with_reducible first | exact HB.out | apply below_alloc | apply pw_below_drewN | apply below_drew1) | exact HB.out))) : w.heap.size ≤ gb257))
        clear HO_4
        clear HB
        have HO_4 := n0_
        have HB := n1_
        have BK257 := n2_
        have GW257 := n3_
        have GE257 := n4_
        clear n0_ n1_ n2_ n3_ n4_
        clear hb hbox hg
        refine hK.out _ _ ⟨HS0_, HS1_⟩ (fun hHeld => ?_)
        clear hK K
        refine norm_ (a' := ?_) ?_ ?_
        rotate_left
        ·show Act.put _ (some 7) _ = _
         simp only [Act.put, List.setIfInBounds_toArray, List.set_cons_zero, List.set_cons_succ, i64_w, i32_w]
         rfl
        refine one_ (i := 3) (N := some 44) #[tt,tt,tt,tt,tt,tt,tt,ff,ff,tt,ff] rfl rfl (one_of HT_.out (by kernel_rfl)) (by decide) (fun K hK => ?_)
        refine goes_ Tryd.func37 (by kernel_rfl) rfl #[.string (rdOf ByteArray.empty x4_2 0), .int .i64 1, .int .i64 2] (by rfl) rfl rfl (by (try simp only [List.map_toArray, List.map_cons, List.map_nil]); first | done | rfl | (simp only [List.length_drop, List.length_take]; rfl)) ?_
        with_reducible refine (bulletinref22_digits.calls kj2 (rdOf ByteArray.empty x4_2 0) 1 2 t254 _ A23.out).mono ?_
        rintro e w' ⟨rfl, ⟨nd, rfl⟩⟩
        refine ⟨_, rfl, ?_⟩
        refine hK.out _ _ ⟨hHeld.1, hHeld.2⟩ (fun hHeld => ?_)
        clear hK K
        refine norm_ (a' := ?_) ?_ ?_
        rotate_left
        ·show Act.put _ (some 44) _ = _
         simp only [Act.put, List.setIfInBounds_toArray, List.set_cons_zero, List.set_cons_succ, i64_w, i32_w]
         rfl
        refine one_ (i := 7) (N := some 48) #[tt,tt,tt,tt,tt,tt,tt,tt,ff,tt,ff] rfl rfl (one_of HT_.out (by kernel_rfl)) (by decide) (fun K hK => ?_)
        refine goes_ Tryd.func37 (by kernel_rfl) rfl #[.string (rdOf ByteArray.empty x4_2 2), .int .i64 4, .int .i64 5] (by rfl) rfl rfl (by (try simp only [List.map_toArray, List.map_cons, List.map_nil]); first | done | rfl | (simp only [List.length_drop, List.length_take]; rfl)) ?_
        with_reducible refine (bulletinref22_digits.calls kj2 (rdOf ByteArray.empty x4_2 2) 4 5 t256 _ A25.out).mono ?_
        rintro e w' ⟨rfl, ⟨nd, rfl⟩⟩
        refine ⟨_, rfl, ?_⟩
        refine hK.out _ _ ⟨hHeld.1, hHeld.2⟩ (fun hHeld => ?_)
        clear hK K
        refine norm_ (a' := ?_) ?_ ?_
        rotate_left
        ·show Act.put _ (some 48) _ = _
         simp only [Act.put, List.setIfInBounds_toArray, List.set_cons_zero, List.set_cons_succ, i64_w, i32_w]
         rfl
        refine pure_ (i := 8) (N := some 49) (v := ?_) (a' := ?_) #[tt,tt,tt,tt,tt,tt,tt,tt,tt,tt,ff] rfl rfl (any_of HT_.out (by kernel_rfl)) (fun _ _ _ h => h) (Or.inl ⟨by rfl, ?_⟩) ?_ ?_
        rotate_left
        ·intro w'
         go_simp
         with_reducible rfl
        rotate_left
        ·simp only [Act.put, List.setIfInBounds_toArray, List.set_cons_zero, List.set_cons_succ, i64_w, i32_w]
         rfl
        exact norm_ (by simp only [putAll, Act.put, List.setIfInBounds_toArray, List.set_cons_zero, List.set_cons_succ]) (hCont (gb257) _ ⟨hHeld, (by (with_reducible repeat (first | apply Kd.Q_alloc | apply Kd.Q_drewN | apply Kd.Q_drew)); exact HO_4.out), (by (with_reducible repeat (first | refine blk_drewN ?_ _ | refine blk_drew ?_ | refine blk_alloc ?_ _)); exact BK257.out), GW257.out, GE257.out, (by repeat (first | (with_reducible first | exact HB.out | apply below_alloc | apply pw_below_drewN | apply below_drew1 | refine below_set ?_ GE257.out) | exact HB.out))⟩)
      rintro gb257 w29 ⟨hS_, h0_, h1_, h2_, h3_, h4_⟩
      have n0_ : Aside0 (Kd.Q Kd.string 9 w29 w.heap.size (fun _ => True) (.slice (some ad253) x4_2.length co26) x4_2) := ⟨h0_⟩
      have n1_ : Aside0 (w29.heap[gb257]? = some (.cells #[.int .i64 0, .int .i64 0, .int .i64 0, .int .i64 0, .int .i64 0, .int .i64 0, .int .i64 0] 32 (0, 0))) := ⟨h1_⟩
      have n2_ : Aside0 (w.heap.size ≤ gb257) := ⟨h2_⟩
      have n3_ : Aside0 (w.heap.size ≤ gb257) := ⟨h3_⟩
      have n4_ : Aside0 (Below w.heap.size w w29) := ⟨h4_⟩
      clear HO_4
      clear HB
      clear h0_ h1_ h2_ h3_ h4_
      have HO_4 := n0_
      have BK257 := n1_
      have GW257 := n2_
      have GE257 := n3_
      have HB := n4_
      clear n0_ n1_ n2_ n3_ n4_
      have hHeld : w29.cell? ad253 = some (.string (rdOf ByteArray.empty x4_2 0)) ∧ w29.cell? ⟨ad253.block, ad253.off + 2, none⟩ = some (.string (rdOf ByteArray.empty x4_2 2)) := hS_
      refine norm_ (a' := ?_) ?_ ?_
      rotate_left
      ·simp only [putAll, Act.put, List.setIfInBounds_toArray, List.set_cons_zero, List.set_cons_succ]
       rfl
      refine one_ (i := 10) (N := none) #[tt,tt,tt,tt,tt,tt,tt,tt,tt,tt,tt] rfl rfl (one_of HT_.out (by kernel_rfl)) (by decide) (fun K hK => ?_)
      have hs30 : w29.cell? ⟨gb257, 0, none⟩ = some (.int .i64 0) := (blk_cell BK257.out 0).trans rfl
      have hfs30 := blk_frozen BK257.out 0
      have hs31 : w29.cell? ⟨gb257, 1, none⟩ = some (.int .i64 0) := (blk_cell BK257.out 1).trans rfl
      have hfs31 := blk_frozen BK257.out 1
      have hs32 : w29.cell? ⟨gb257, 2, none⟩ = some (.int .i64 0) := (blk_cell BK257.out 2).trans rfl
      have hfs32 := blk_frozen BK257.out 2
      have hs33 : w29.cell? ⟨gb257, 3, none⟩ = some (.int .i64 0) := (blk_cell BK257.out 3).trans rfl
      have hfs33 := blk_frozen BK257.out 3
      have hs34 : w29.cell? ⟨gb257, 4, none⟩ = some (.int .i64 0) := (blk_cell BK257.out 4).trans rfl
      have hfs34 := blk_frozen BK257.out 4
      have hs35 : w29.cell? ⟨gb257, 5, none⟩ = some (.int .i64 0) := (blk_cell BK257.out 5).trans rfl
      have hfs35 := blk_frozen BK257.out 5
      have hs36 : w29.cell? ⟨gb257, 6, none⟩ = some (.int .i64 0) := (blk_cell BK257.out 6).trans rfl
      have hfs36 := blk_frozen BK257.out 6
      refine skip_ (w1 := ?_) (by rfl) rfl ?_ ?_
      rotate_left
      ·go_simp
       rfl
      refine hK.out _ _ ⟨((cell_far (p := ⟨gb257, _, none⟩) (by first | exact Kd.own_blk (Kd.Q_ne HO_4.out BK257.out (by decide)) | (rw [add_block]; exact Kd.own_blk (Kd.Q_ne HO_4.out BK257.out (by decide))) | (show (Addr.add _ _).block ≠ _; rw [add_block]; exact Kd.own_blk (Kd.Q_ne HO_4.out BK257.out (by decide))) | (dsimp only; exact Kd.own_blk (Kd.Q_ne HO_4.out BK257.out (by decide)))) _).trans (((cell_far (p := ⟨gb257, _, none⟩) (by first | exact Kd.own_blk (Kd.Q_ne HO_4.out BK257.out (by decide)) | (rw [add_block]; exact Kd.own_blk (Kd.Q_ne HO_4.out BK257.out (by decide))) | (show (Addr.add _ _).block ≠ _; rw [add_block]; exact Kd.own_blk (Kd.Q_ne HO_4.out BK257.out (by decide))) | (dsimp only; exact Kd.own_blk (Kd.Q_ne HO_4.out BK257.out (by decide)))) _).trans (((cell_far (p := ⟨gb257, _, none⟩) (by first | exact Kd.own_blk (Kd.Q_ne HO_4.out BK257.out (by decide)) | (rw [add_block]; exact Kd.own_blk (Kd.Q_ne HO_4.out BK257.out (by decide))) | (show (Addr.add _ _).block ≠ _; rw [add_block]; exact Kd.own_blk (Kd.Q_ne HO_4.out BK257.out (by decide))) | (dsimp only; exact Kd.own_blk (Kd.Q_ne HO_4.out BK257.out (by decide)))) _).trans (((cell_far (p := ⟨gb257, _, none⟩) (by first | exact Kd.own_blk (Kd.Q_ne HO_4.out BK257.out (by decide)) | (rw [add_block]; exact Kd.own_blk (Kd.Q_ne HO_4.out BK257.out (by decide))) | (show (Addr.add _ _).block ≠ _; rw [add_block]; exact Kd.own_blk (Kd.Q_ne HO_4.out BK257.out (by decide))) | (dsimp only; exact Kd.own_blk (Kd.Q_ne HO_4.out BK257.out (by decide)))) _).trans (((cell_far (p := ⟨gb257, _, none⟩) (by first | exact Kd.own_blk (Kd.Q_ne HO_4.out BK257.out (by decide)) | (rw [add_block]; exact Kd.own_blk (Kd.Q_ne HO_4.out BK257.out (by decide))) | (show (Addr.add _ _).block ≠ _; rw [add_block]; exact Kd.own_blk (Kd.Q_ne HO_4.out BK257.out (by decide))) | (dsimp only; exact Kd.own_blk (Kd.Q_ne HO_4.out BK257.out (by decide)))) _).trans (((cell_far (p := ⟨gb257, _, none⟩) (by first | exact Kd.own_blk (Kd.Q_ne HO_4.out BK257.out (by decide)) | (rw [add_block]; exact Kd.own_blk (Kd.Q_ne HO_4.out BK257.out (by decide))) | (show (Addr.add _ _).block ≠ _; rw [add_block]; exact Kd.own_blk (Kd.Q_ne HO_4.out BK257.out (by decide))) | (dsimp only; exact Kd.own_blk (Kd.Q_ne HO_4.out BK257.out (by decide)))) _).trans (((cell_far (p := ⟨gb257, _, none⟩) (by first | exact Kd.own_blk (Kd.Q_ne HO_4.out BK257.out (by decide)) | (rw [add_block]; exact Kd.own_blk (Kd.Q_ne HO_4.out BK257.out (by decide))) | (show (Addr.add _ _).block ≠ _; rw [add_block]; exact Kd.own_blk (Kd.Q_ne HO_4.out BK257.out (by decide))) | (dsimp only; exact Kd.own_blk (Kd.Q_ne HO_4.out BK257.out (by decide)))) _).trans (hHeld.1)))))))))))))), ((cell_far (p := ⟨gb257, _, none⟩) (by first | exact Kd.own_blk (Kd.Q_ne HO_4.out BK257.out (by decide)) | (rw [add_block]; exact Kd.own_blk (Kd.Q_ne HO_4.out BK257.out (by decide))) | (show (Addr.add _ _).block ≠ _; rw [add_block]; exact Kd.own_blk (Kd.Q_ne HO_4.out BK257.out (by decide))) | (dsimp only; exact Kd.own_blk (Kd.Q_ne HO_4.out BK257.out (by decide)))) _).trans (((cell_far (p := ⟨gb257, _, none⟩) (by first | exact Kd.own_blk (Kd.Q_ne HO_4.out BK257.out (by decide)) | (rw [add_block]; exact Kd.own_blk (Kd.Q_ne HO_4.out BK257.out (by decide))) | (show (Addr.add _ _).block ≠ _; rw [add_block]; exact Kd.own_blk (Kd.Q_ne HO_4.out BK257.out (by decide))) | (dsimp only; exact Kd.own_blk (Kd.Q_ne HO_4.out BK257.out (by decide)))) _).trans (((cell_far (p := ⟨gb257, _, none⟩) (by first | exact Kd.own_blk (Kd.Q_ne HO_4.out BK257.out (by decide)) | (rw [add_block]; exact Kd.own_blk (Kd.Q_ne HO_4.out BK257.out (by decide))) | (show (Addr.add _ _).block ≠ _; rw [add_block]; exact Kd.own_blk (Kd.Q_ne HO_4.out BK257.out (by decide))) | (dsimp only; exact Kd.own_blk (Kd.Q_ne HO_4.out BK257.out (by decide)))) _).trans (((cell_far (p := ⟨gb257, _, none⟩) (by first | exact Kd.own_blk (Kd.Q_ne HO_4.out BK257.out (by decide)) | (rw [add_block]; exact Kd.own_blk (Kd.Q_ne HO_4.out BK257.out (by decide))) | (show (Addr.add _ _).block ≠ _; rw [add_block]; exact Kd.own_blk (Kd.Q_ne HO_4.out BK257.out (by decide))) | (dsimp only; exact Kd.own_blk (Kd.Q_ne HO_4.out BK257.out (by decide)))) _).trans (((cell_far (p := ⟨gb257, _, none⟩) (by first | exact Kd.own_blk (Kd.Q_ne HO_4.out BK257.out (by decide)) | (rw [add_block]; exact Kd.own_blk (Kd.Q_ne HO_4.out BK257.out (by decide))) | (show (Addr.add _ _).block ≠ _; rw [add_block]; exact Kd.own_blk (Kd.Q_ne HO_4.out BK257.out (by decide))) | (dsimp only; exact Kd.own_blk (Kd.Q_ne HO_4.out BK257.out (by decide)))) _).trans (((cell_far (p := ⟨gb257, _, none⟩) (by first | exact Kd.own_blk (Kd.Q_ne HO_4.out BK257.out (by decide)) | (rw [add_block]; exact Kd.own_blk (Kd.Q_ne HO_4.out BK257.out (by decide))) | (show (Addr.add _ _).block ≠ _; rw [add_block]; exact Kd.own_blk (Kd.Q_ne HO_4.out BK257.out (by decide))) | (dsimp only; exact Kd.own_blk (Kd.Q_ne HO_4.out BK257.out (by decide)))) _).trans (((cell_far (p := ⟨gb257, _, none⟩) (by first | exact Kd.own_blk (Kd.Q_ne HO_4.out BK257.out (by decide)) | (rw [add_block]; exact Kd.own_blk (Kd.Q_ne HO_4.out BK257.out (by decide))) | (show (Addr.add _ _).block ≠ _; rw [add_block]; exact Kd.own_blk (Kd.Q_ne HO_4.out BK257.out (by decide))) | (dsimp only; exact Kd.own_blk (Kd.Q_ne HO_4.out BK257.out (by decide)))) _).trans (hHeld.2))))))))))))))⟩ (fun hHeld => ?_)
      clear hK K
      refine done_ (done_of HT_.out (by kernel_rfl)) ?_
      try go_wp2
      go_loopg [8] kj2 (fun kq v8 w' => ∃ (x8_2 : Int) (x258001_2 : Int), v8 = .int .i64 x8_2 ∧ Aside0 (bulletinref22_Read.l1 kq x4_2 x5_2 x8_2 t256 x258001_2 t254 0 0 0 0 = some (r1, r2)) ∧ Aside0 (kq ≤ kj2) ∧ Aside0 (Kd.Q Kd.string 9 w' w.heap.size (fun _ => True) (.slice (some ad253) x4_2.length co26) x4_2) ∧ Aside0 (w'.heap[gb257]? = some (.cells #[.int .i64 t256, .int .i64 x258001_2, .int .i64 t254, .int .i64 0, .int .i64 0, .int .i64 0, .int .i64 0] 32 (0, 0))) ∧ Aside0 (Below w.heap.size w w'))
      case atStart => exact ⟨(1), (0), (by first | rfl | (simp; done) | (simp [*]; done)), H', ⟨Nat.le_refl _⟩, ⟨by (with_reducible repeat (first | apply Kd.Q_alloc | apply Kd.Q_drewN | apply Kd.Q_drew)); exact Kd.Q_mono (Kd.Q_far (p := ⟨gb257, 6, none⟩) (Kd.Q_far (p := ⟨gb257, 5, none⟩) (Kd.Q_far (p := ⟨gb257, 4, none⟩) (Kd.Q_far (p := ⟨gb257, 3, none⟩) (Kd.Q_far (p := ⟨gb257, 2, none⟩) (Kd.Q_far (p := ⟨gb257, 1, none⟩) (Kd.Q_far (p := ⟨gb257, 0, none⟩) (Kd.Q_types HO_4.out BK257.out (by decide)) (fun _ hk => hk.2) (.int .i64 t256)) (fun _ hk => hk.2) (.int .i64 0)) (fun _ hk => hk.2) (.int .i64 t254)) (fun _ hk => hk.2) (.int .i64 0)) (fun _ hk => hk.2) (.int .i64 0)) (fun _ hk => hk.2) (.int .i64 0)) (fun _ hk => hk.2) (.int .i64 0)) (fun _ hk => trivial)⟩, ⟨by (with_reducible repeat (first | refine blk_drewN ?_ _ | refine blk_drew ?_ | refine blk_alloc ?_ _)); refine blk_put (cs := #[.int .i64 t256, .int .i64 0, .int .i64 t254, .int .i64 0, .int .i64 0, .int .i64 0, .int .i64 0]) ?_ 6 _ rfl; (with_reducible repeat (first | refine blk_drewN ?_ _ | refine blk_drew ?_ | refine blk_alloc ?_ _)); refine blk_put (cs := #[.int .i64 t256, .int .i64 0, .int .i64 t254, .int .i64 0, .int .i64 0, .int .i64 0, .int .i64 0]) ?_ 5 _ rfl; (with_reducible repeat (first | refine blk_drewN ?_ _ | refine blk_drew ?_ | refine blk_alloc ?_ _)); refine blk_put (cs := #[.int .i64 t256, .int .i64 0, .int .i64 t254, .int .i64 0, .int .i64 0, .int .i64 0, .int .i64 0]) ?_ 4 _ rfl; (with_reducible repeat (first | refine blk_drewN ?_ _ | refine blk_drew ?_ | refine blk_alloc ?_ _)); refine blk_put (cs := #[.int .i64 t256, .int .i64 0, .int .i64 t254, .int .i64 0, .int .i64 0, .int .i64 0, .int .i64 0]) ?_ 3 _ rfl; (with_reducible repeat (first | refine blk_drewN ?_ _ | refine blk_drew ?_ | refine blk_alloc ?_ _)); refine blk_put (cs := #[.int .i64 t256, .int .i64 0, .int .i64 0, .int .i64 0, .int .i64 0, .int .i64 0, .int .i64 0]) ?_ 2 _ rfl; (with_reducible repeat (first | refine blk_drewN ?_ _ | refine blk_drew ?_ | refine blk_alloc ?_ _)); refine blk_put (cs := #[.int .i64 t256, .int .i64 0, .int .i64 0, .int .i64 0, .int .i64 0, .int .i64 0, .int .i64 0]) ?_ 1 _ rfl; (with_reducible repeat (first | refine blk_drewN ?_ _ | refine blk_drew ?_ | refine blk_alloc ?_ _)); refine blk_put (cs := #[.int .i64 0, .int .i64 0, .int .i64 0, .int .i64 0, .int .i64 0, .int .i64 0, .int .i64 0]) ?_ 0 _ rfl; (with_reducible repeat (first | refine blk_drewN ?_ _ | refine blk_drew ?_ | refine blk_alloc ?_ _)); exact BK257.out⟩, ⟨by repeat (first | (with_reducible first | exact HB.out | apply below_alloc | apply pw_below_drewN | apply below_drew1 | refine below_set ?_ GE257.out) | exact HB.out)⟩⟩
      case round => as_aux_lemma =>
       clear H'
       try clear c1
       try clear c2
       try clear p2
       try clear q2
       try clear hx2
       try clear qi2
       try clear c3
       try clear c6
       try clear c6b0
       try clear c6b1
       try clear p6
       try clear c7
       try clear c7b0
       try clear c8
       try clear c8b0
       try clear c8b1
       try clear c11
       try clear c11b0
       try clear c11b1
       try clear c11b2
       try clear c13
       try clear c13b0
       try clear c13b1
       try clear c14
       try clear c18
       try clear c18b0
       try clear c19
       try clear c19b0
       try clear c19b1
       try clear c20
       try clear q20
       try clear c21
       try clear c21b0
       try clear c21b1
       try clear c22
       try clear c22b0
       try clear c22b1
       try clear c23
       try clear c24
       try clear c24b0
       try clear c24b1
       try clear p24
       try clear q24
       try clear hx24
       try clear qi24
       try clear p25
       try clear q25
       try clear hx25
       try clear qi25
       try clear c35
       try clear c36
       try clear hx249_0
       try clear hx253_0
       try clear hx255_0
       try clear p2
       try clear p249
       try clear p253
       try clear p255
       try clear p6
       try clear q2
       try clear q20
       try clear q249
       try clear q253
       try clear q255
       obtain ⟨x8_2, x258001_2, rfl, HA, HK2, HO_4, BK257, HB⟩ := hrel
       cases gk with
       | zero => exact absurd HA.out (by simp [bulletinref22_Read.l1])
       | succ k2 =>
        have H := HA.out
        clear HA
        simp only [bulletinref22_Read.l1] at H
        by_cases c37 : x8_2 ≤ 12
        ·rw [if_pos c37] at H
         have c37b0 : decide (x8_2 ≤ 12) = true := decide_eq_true c37
         clear c37
         by_cases c38 : 1 < (x4_2.length : Int)
         ·rw [if_pos c38] at H
          have c38b0 : decide (1 < (x4_2.length : Int)) = true := decide_eq_true c38
          have c38b1 : decide (1 < x4_2.length) = true := decide_eq_true (by omega)
          clear c38
          replace H := Option.bind_eq_some_iff.mp H
          obtain ⟨t259, A390, H⟩ := H
          replace H : ((bulletinref22_Month.f x8_2).bind fun t260 => ((bulletinref06_Fold.f k2 t260).bind fun t261 => (if t259.toList = t261.toList then (bulletinref22_Read.l1 k2 x4_2 x5_2 (wrap64 (x8_2 + 1)) t256 x8_2 t254 0 0 0 0) else (bulletinref22_Read.l1 k2 x4_2 x5_2 (wrap64 (x8_2 + 1)) t256 x258001_2 t254 0 0 0 0)))) = some (r1, r2) := H
          have A39 := Aside0.mk A390
          clear A390
          replace H := Option.bind_eq_some_iff.mp H
          obtain ⟨t260, A400, H⟩ := H
          replace H : ((bulletinref06_Fold.f k2 t260).bind fun t261 => (if t259.toList = t261.toList then (bulletinref22_Read.l1 k2 x4_2 x5_2 (wrap64 (x8_2 + 1)) t256 x8_2 t254 0 0 0 0) else (bulletinref22_Read.l1 k2 x4_2 x5_2 (wrap64 (x8_2 + 1)) t256 x258001_2 t254 0 0 0 0))) = some (r1, r2) := H
          have A40 := Aside0.mk A400
          clear A400
          replace H := Option.bind_eq_some_iff.mp H
          obtain ⟨t261, A410, H⟩ := H
          replace H : (if t259.toList = t261.toList then (bulletinref22_Read.l1 k2 x4_2 x5_2 (wrap64 (x8_2 + 1)) t256 x8_2 t254 0 0 0 0) else (bulletinref22_Read.l1 k2 x4_2 x5_2 (wrap64 (x8_2 + 1)) t256 x258001_2 t254 0 0 0 0)) = some (r1, r2) := H
          have A41 := Aside0.mk A410
          clear A410
          by_cases c42 : t259.toList = t261.toList
          ·rw [if_pos c42] at H
           have c42b0 : (t259.toList == t261.toList) = true := beq_iff_eq.mpr c42
           have c42b1 : (t259.toList != t261.toList) = false := bne_eq_false_iff_eq.mpr c42
           clear c42
           have H' := Aside0.mk H
           clear H
           have p258 : 0 ≤ (1 : Int) := (by omega)
           have q258 : 1 < (x4_2.length : Int) := of_decide_eq_true (by first | (with_reducible assumption) | assumption)
           obtain ⟨ad258, e258, hx258_0⟩ := Kd.at_string (Kd.Q_reads' HO_4.out).2.2 1 p258 q258
           obtain rfl : ad253 = ad258 := (by injection e258)
           (try simp only [show (1 : Int).toNat = 1 from rfl, Nat.reduceMul, Nat.reduceEqDiff, Go.Addr.add, ↓reduceIte] at hx258_0)
           have qi258 : (1 < x4_2.length) = True := eq_true (by omega)
           (try rw [show ((1 : Int)).toNat = 1 from rfl] at hx258_0)
           replace p258 := eq_true p258
           replace q258 := eq_true q258
           go_wp2_with (first | ((with_reducible refine gate_callee (f := 36) rfl ?_); refine goesL_ (some 57) rfl rfl Tryd.func36 (by kernel_rfl) rfl #[.string (rdOf ByteArray.empty x4_2 1)] rfl (by (try simp only [List.map_toArray, List.map_cons, List.map_nil]); first | done | rfl | (simp only [List.length_drop, List.length_take]; rfl)) ?_; (with_reducible refine (bulletinref06_Fold.calls k2 (rdOf ByteArray.empty x4_2 1) t259 _ A39.out).mono ?_); rintro e w43 ⟨rfl, hb⟩; refine ⟨_, rfl, ?_⟩; have n0_ := Aside0.mk (Kd.Q_below (by (with_reducible repeat (first | apply Kd.Q_alloc | apply Kd.Q_drewN | apply Kd.Q_drew)); exact HO_4.out) hb); have n1_ := Aside0.mk (blk_below (g := gb257) (o := .cells #[.int .i64 t256, .int .i64 x258001_2, .int .i64 t254, .int .i64 0, .int .i64 0, .int .i64 0, .int .i64 0] 32 (0, 0)) (by (with_reducible repeat (first | refine blk_drewN ?_ _ | refine blk_drew ?_ | refine blk_alloc ?_ _)); exact BK257.out) hb); have n2_ := Aside0.mk (below_step (by repeat (first | (with_reducible first | exact HB.out | apply below_alloc | apply pw_below_drewN | apply below_drew1 | refine below_set ?_ GE257.out) | exact HB.out)) hb); clear HO_4; clear BK257; clear HB; have HO_4 := n0_; have BK257 := n1_; have HB := n2_; clear n0_ n1_ n2_; (try clear hb); (try clear hb2); (try clear hk); (try clear hi)) | ((with_reducible refine gate_callee (f := 25) rfl ?_); refine goesL_ (some 59) rfl rfl Tryd.func25 (by kernel_rfl) rfl #[.int .i64 x8_2] rfl (by (try simp only [List.map_toArray, List.map_cons, List.map_nil]); first | done | rfl | (simp only [List.length_drop, List.length_take]; rfl)) ?_; (with_reducible refine (bulletinref22_Month.calls x8_2 t260 _ A40.out).mono ?_); rintro e w' ⟨rfl, ⟨nd, rfl⟩⟩; refine ⟨_, rfl, ?_⟩; (try (rw [drewN_self w43]; generalize hq_ : World.drewN w43 _ = w43; have n0_ : Aside0 (Kd.Q Kd.string 9 w43 w.heap.size (fun _ => True) (.slice (some ad253) x4_2.length co26) x4_2) := ⟨by rw [← hq_]; exact (by (with_reducible repeat (first | apply Kd.Q_alloc | apply Kd.Q_drewN | apply Kd.Q_drew)); exact HO_4.out)⟩; have n1_ : Aside0 (w43.heap[gb257]? = some (.cells #[.int .i64 t256, .int .i64 x258001_2, .int .i64 t254, .int .i64 0, .int .i64 0, .int .i64 0, .int .i64 0] 32 (0, 0))) := ⟨by rw [← hq_]; exact (by (with_reducible repeat (first | refine blk_drewN ?_ _ | refine blk_drew ?_ | refine blk_alloc ?_ _)); exact BK257.out)⟩; have n2_ : Aside0 (Below w.heap.size w w43) := ⟨by rw [← hq_]; exact (by repeat (first | (with_reducible first | exact HB.out | apply below_alloc | apply pw_below_drewN | apply below_drew1 | refine below_set ?_ GE257.out) | exact HB.out))⟩; clear HO_4 BK257 HB hq_; have HO_4 := n0_; have BK257 := n1_; have HB := n2_; clear n0_ n1_ n2_))) | ((with_reducible refine gate_callee (f := 36) rfl ?_); refine goesL_ (some 60) rfl rfl Tryd.func36 (by kernel_rfl) rfl #[.string t260] rfl (by (try simp only [List.map_toArray, List.map_cons, List.map_nil]); first | done | rfl | (simp only [List.length_drop, List.length_take]; rfl)) ?_; (with_reducible refine (bulletinref06_Fold.calls k2 t260 t261 _ A41.out).mono ?_); rintro e w44 ⟨rfl, hb⟩; refine ⟨_, rfl, ?_⟩; have n0_ := Aside0.mk (Kd.Q_below (by (with_reducible repeat (first | apply Kd.Q_alloc | apply Kd.Q_drewN | apply Kd.Q_drew)); exact HO_4.out) hb); have n1_ := Aside0.mk (blk_below (g := gb257) (o := .cells #[.int .i64 t256, .int .i64 x258001_2, .int .i64 t254, .int .i64 0, .int .i64 0, .int .i64 0, .int .i64 0] 32 (0, 0)) (by (with_reducible repeat (first | refine blk_drewN ?_ _ | refine blk_drew ?_ | refine blk_alloc ?_ _)); exact BK257.out) hb); have n2_ := Aside0.mk (below_step (by repeat (first | (with_reducible first | exact HB.out | apply below_alloc | apply pw_below_drewN | apply below_drew1 | refine below_set ?_ GE257.out) | exact HB.out)) hb); clear HO_4; clear BK257; clear HB; have HO_4 := n0_; have BK257 := n1_; have HB := n2_; clear n0_ n1_ n2_; (try clear hb); (try clear hb2); (try clear hk); (try clear hi); have hcz45_0 : w44.cell? ⟨gb257, 0, none⟩ = some (.int .i64 t256) := (blk_cell BK257.out 0).trans rfl; have hcz45_1 : w44.cell? ⟨gb257, 1, none⟩ = some (.int .i64 x258001_2) := (blk_cell BK257.out 1).trans rfl; have hcz45_2 : w44.cell? ⟨gb257, 2, none⟩ = some (.int .i64 t254) := (blk_cell BK257.out 2).trans rfl; have hcz45_3 : w44.cell? ⟨gb257, 3, none⟩ = some (.int .i64 0) := (blk_cell BK257.out 3).trans rfl; have hcz45_4 : w44.cell? ⟨gb257, 4, none⟩ = some (.int .i64 0) := (blk_cell BK257.out 4).trans rfl; have hcz45_5 : w44.cell? ⟨gb257, 5, none⟩ = some (.int .i64 0) := (blk_cell BK257.out 5).trans rfl; have hcz45_6 : w44.cell? ⟨gb257, 6, none⟩ = some (.int .i64 0) := (blk_cell BK257.out 6).trans rfl; have hfz45_0 := blk_frozen BK257.out 0; have hfz45_1 := blk_frozen BK257.out 1; have hfz45_2 := blk_frozen BK257.out 2; have hfz45_3 := blk_frozen BK257.out 3; have hfz45_4 := blk_frozen BK257.out 4; have hfz45_5 := blk_frozen BK257.out 5; have hfz45_6 := blk_frozen BK257.out 6))
           go_roundg k2
           case measure => have := HJ2.out; have := HK2.out; omega
           case rel => exact ⟨(wrap64 (x8_2 + 1)), (x8_2), (by first | rfl | (simp; done) | (simp [*]; done)), H', ⟨by have := HJ2.out; have := HK2.out; omega⟩, ⟨by (with_reducible repeat (first | apply Kd.Q_alloc | apply Kd.Q_drewN | apply Kd.Q_drew)); exact Kd.Q_mono (Kd.Q_far (p := ⟨gb257, 1, none⟩) (Kd.Q_types HO_4.out BK257.out (by decide)) (fun _ hk => hk.2) (.int .i64 x8_2)) (fun _ hk => trivial)⟩, ⟨by (with_reducible repeat (first | refine blk_drewN ?_ _ | refine blk_drew ?_ | refine blk_alloc ?_ _)); refine blk_put (cs := #[.int .i64 t256, .int .i64 x258001_2, .int .i64 t254, .int .i64 0, .int .i64 0, .int .i64 0, .int .i64 0]) ?_ 1 _ rfl; (with_reducible repeat (first | refine blk_drewN ?_ _ | refine blk_drew ?_ | refine blk_alloc ?_ _)); exact BK257.out⟩, ⟨by repeat (first | (with_reducible first | exact HB.out | apply below_alloc | apply pw_below_drewN | apply below_drew1 | refine below_set ?_ GE257.out) | exact HB.out)⟩⟩
          ·rw [if_neg c42] at H
           have c42b0 : (t259.toList == t261.toList) = false := beq_eq_false_iff_ne.mpr c42
           have c42b1 : (t259.toList != t261.toList) = true := bne_iff_ne.mpr c42
           have H' := Aside0.mk H
           clear H
           have p258 : 0 ≤ (1 : Int) := (by omega)
           have q258 : 1 < (x4_2.length : Int) := of_decide_eq_true (by first | (with_reducible assumption) | assumption)
           obtain ⟨ad258, e258, hx258_0⟩ := Kd.at_string (Kd.Q_reads' HO_4.out).2.2 1 p258 q258
           obtain rfl : ad253 = ad258 := (by injection e258)
           (try simp only [show (1 : Int).toNat = 1 from rfl, Nat.reduceMul, Nat.reduceEqDiff, Go.Addr.add, ↓reduceIte] at hx258_0)
           have qi258 : (1 < x4_2.length) = True := eq_true (by omega)
           (try rw [show ((1 : Int)).toNat = 1 from rfl] at hx258_0)
           replace p258 := eq_true p258
           replace q258 := eq_true q258
           go_wp2_with (first | ((with_reducible refine gate_callee (f := 36) rfl ?_); refine goesL_ (some 57) rfl rfl Tryd.func36 (by kernel_rfl) rfl #[.string (rdOf ByteArray.empty x4_2 1)] rfl (by (try simp only [List.map_toArray, List.map_cons, List.map_nil]); first | done | rfl | (simp only [List.length_drop, List.length_take]; rfl)) ?_; (with_reducible refine (bulletinref06_Fold.calls k2 (rdOf ByteArray.empty x4_2 1) t259 _ A39.out).mono ?_); rintro e w46 ⟨rfl, hb⟩; refine ⟨_, rfl, ?_⟩; have n0_ := Aside0.mk (Kd.Q_below (by (with_reducible repeat (first | apply Kd.Q_alloc | apply Kd.Q_drewN | apply Kd.Q_drew)); exact HO_4.out) hb); have n1_ := Aside0.mk (blk_below (g := gb257) (o := .cells #[.int .i64 t256, .int .i64 x258001_2, .int .i64 t254, .int .i64 0, .int .i64 0, .int .i64 0, .int .i64 0] 32 (0, 0)) (by (with_reducible repeat (first | refine blk_drewN ?_ _ | refine blk_drew ?_ | refine blk_alloc ?_ _)); exact BK257.out) hb); have n2_ := Aside0.mk (below_step (by repeat (first | (with_reducible first | exact HB.out | apply below_alloc | apply pw_below_drewN | apply below_drew1 | refine below_set ?_ GE257.out) | exact HB.out)) hb); clear HO_4; clear BK257; clear HB; have HO_4 := n0_; have BK257 := n1_; have HB := n2_; clear n0_ n1_ n2_; (try clear hb); (try clear hb2); (try clear hk); (try clear hi)) | ((with_reducible refine gate_callee (f := 25) rfl ?_); refine goesL_ (some 59) rfl rfl Tryd.func25 (by kernel_rfl) rfl #[.int .i64 x8_2] rfl (by (try simp only [List.map_toArray, List.map_cons, List.map_nil]); first | done | rfl | (simp only [List.length_drop, List.length_take]; rfl)) ?_; (with_reducible refine (bulletinref22_Month.calls x8_2 t260 _ A40.out).mono ?_); rintro e w' ⟨rfl, ⟨nd, rfl⟩⟩; refine ⟨_, rfl, ?_⟩) | ((with_reducible refine gate_callee (f := 36) rfl ?_); refine goesL_ (some 60) rfl rfl Tryd.func36 (by kernel_rfl) rfl #[.string t260] rfl (by (try simp only [List.map_toArray, List.map_cons, List.map_nil]); first | done | rfl | (simp only [List.length_drop, List.length_take]; rfl)) ?_; (with_reducible refine (bulletinref06_Fold.calls k2 t260 t261 _ A41.out).mono ?_); rintro e w47 ⟨rfl, hb⟩; refine ⟨_, rfl, ?_⟩; have n0_ := Aside0.mk (Kd.Q_below (by (with_reducible repeat (first | apply Kd.Q_alloc | apply Kd.Q_drewN | apply Kd.Q_drew)); exact HO_4.out) hb); have n1_ := Aside0.mk (blk_below (g := gb257) (o := .cells #[.int .i64 t256, .int .i64 x258001_2, .int .i64 t254, .int .i64 0, .int .i64 0, .int .i64 0, .int .i64 0] 32 (0, 0)) (by (with_reducible repeat (first | refine blk_drewN ?_ _ | refine blk_drew ?_ | refine blk_alloc ?_ _)); exact BK257.out) hb); have n2_ := Aside0.mk (below_step (by repeat (first | (with_reducible first | exact HB.out | apply below_alloc | apply pw_below_drewN | apply below_drew1 | refine below_set ?_ GE257.out) | exact HB.out)) hb); clear HO_4; clear BK257; clear HB; have HO_4 := n0_; have BK257 := n1_; have HB := n2_; clear n0_ n1_ n2_; (try clear hb); (try clear hb2); (try clear hk); (try clear hi)))
           go_roundg k2
           case measure => have := HJ2.out; have := HK2.out; omega
           case rel => exact ⟨(wrap64 (x8_2 + 1)), (x258001_2), (by first | rfl | (simp; done) | (simp [*]; done)), H', ⟨by have := HJ2.out; have := HK2.out; omega⟩, ⟨by (with_reducible repeat (first | apply Kd.Q_alloc | apply Kd.Q_drewN | apply Kd.Q_drew)); exact HO_4.out⟩, ⟨by (with_reducible repeat (first | refine blk_drewN ?_ _ | refine blk_drew ?_ | refine blk_alloc ?_ _)); exact BK257.out⟩, ⟨by repeat (first | (with_reducible first | exact HB.out | apply below_alloc | apply pw_below_drewN | apply below_drew1 | refine below_set ?_ GE257.out) | exact HB.out)⟩⟩
         ·rw [if_neg c38] at H
          exact absurd H (by simp)
        ·rw [if_neg c37] at H
         have c37b0 : decide (x8_2 ≤ 12) = false := decide_eq_false c37
         clear c37
         by_cases c48 : 3 < (x4_2.length : Int)
         ·rw [if_pos c48] at H
          have c48b0 : decide (3 < (x4_2.length : Int)) = true := decide_eq_true c48
          have c48b1 : decide (3 < x4_2.length) = true := decide_eq_true (by omega)
          clear c48
          replace H := Option.bind_eq_some_iff.mp H
          obtain ⟨t263, A490, H⟩ := H
          replace H : (if (t263.length : Int) = 2 then (if t263.length < 8796093022208 then (bulletinref22_Read.j3 k2 x4_2 x5_2 (t263 ++ [(⟨#[48, 48]⟩ : ByteArray)]) t256 x258001_2 t254 0 0 0 0) else (none)) else (bulletinref22_Read.j3 k2 x4_2 x5_2 t263 t256 x258001_2 t254 0 0 0 0)) = some (r1, r2) := H
          have A49 := Aside0.mk A490
          clear A490
          have HC50 := Aside0.mk H
          clear H
          have p262 : 0 ≤ (3 : Int) := (by omega)
          have q262 : 3 < (x4_2.length : Int) := of_decide_eq_true (by first | (with_reducible assumption) | assumption)
          obtain ⟨ad262, e262, hx262_0⟩ := Kd.at_string (Kd.Q_reads' HO_4.out).2.2 3 p262 q262
          obtain rfl : ad253 = ad262 := (by injection e262)
          (try simp only [show (3 : Int).toNat = 3 from rfl, Nat.reduceMul, Nat.reduceEqDiff, Go.Addr.add, ↓reduceIte] at hx262_0)
          have qi262 : (3 < x4_2.length) = True := eq_true (by omega)
          (try rw [show ((3 : Int)).toNat = 3 from rfl] at hx262_0)
          replace p262 := eq_true p262
          replace q262 := eq_true q262
          go_upto_if 70 with (first | ((with_reducible refine gate_callee (f := 38) rfl ?_); refine goesL_ (some 67) rfl rfl Tryd.func38 (by kernel_rfl) rfl #[.string (rdOf ByteArray.empty x4_2 3), .int .u8 58] rfl (by (try simp only [List.map_toArray, List.map_cons, List.map_nil]); first | done | rfl | (simp only [List.length_drop, List.length_take]; rfl)) ?_; (with_reducible refine (bulletinref13_Split.calls k2 (rdOf ByteArray.empty x4_2 3) 58 t263 _ A49.out).mono ?_); rintro e w51 ⟨v264, rfl, ho0, hb⟩; refine ⟨_, rfl, ?_⟩; have n0_ := Aside0.mk (Kd.Q_elder' (by (with_reducible repeat (first | apply Kd.Q_alloc | apply Kd.Q_drewN | apply Kd.Q_drew)); exact HO_4.out) (Kd.R_base ho0) hb); have n1_ := Aside0.mk (Kd.R_lower (Kd.R_new' ho0 (Kd.Q_lt (by (with_reducible repeat (first | apply Kd.Q_alloc | apply Kd.Q_drewN | apply Kd.Q_drew)); exact HO_4.out))) (below_size (by repeat (first | (with_reducible first | exact HB.out | apply below_alloc | apply pw_below_drewN | apply below_drew1 | refine below_set ?_ GE257.out) | exact HB.out)))); have n2_ := Aside0.mk (blk_below (g := gb257) (o := .cells #[.int .i64 t256, .int .i64 x258001_2, .int .i64 t254, .int .i64 0, .int .i64 0, .int .i64 0, .int .i64 0] 32 (0, 0)) (by (with_reducible repeat (first | refine blk_drewN ?_ _ | refine blk_drew ?_ | refine blk_alloc ?_ _)); exact BK257.out) hb); have n3_ := Aside0.mk (below_step (by repeat (first | (with_reducible first | exact HB.out | apply below_alloc | apply pw_below_drewN | apply below_drew1 | refine below_set ?_ GE257.out) | exact HB.out)) hb); clear HO_4; clear BK257; clear HB; have HO_4 := n0_; have HO265 := n1_; have BK257 := n2_; have HB := n3_; clear n0_ n1_ n2_ n3_; (try clear hb); (try clear hb2); (try clear hk); (try clear hi); (try clear ho0); obtain ⟨Ao52, co52, eo52⟩ := Kd.R_slice HO265.out; subst eo52))
          (try simp only [Act.put, List.setIfInBounds_toArray, List.set_cons_zero, List.set_cons_succ])
          go_cut [9] (fun v9 wc => ∃ (kq : Nat) (x9_49 : List ByteArray), Aside0 (bulletinref22_Read.j3 kq x4_2 x5_2 x9_49 t256 x258001_2 t254 0 0 0 0 = some (r1, r2)) ∧ Aside0 (kq ≤ k2) ∧ Aside0 (Kd.Q Kd.string 9 wc w.heap.size (fun k_ => some k_ ≠ (v9 : Value).ownBlock) (.slice (some ad253) x4_2.length co26) x4_2) ∧ Aside0 (Kd.R Kd.string 9 wc w.heap.size (fun k_ => some k_ ≠ ((.slice (some ad253) x4_2.length co26) : Value).ownBlock) v9 x9_49) ∧ Aside0 (wc.heap[gb257]? = some (.cells #[.int .i64 t256, .int .i64 x258001_2, .int .i64 t254, .int .i64 0, .int .i64 0, .int .i64 0, .int .i64 0] 32 (0, 0))) ∧ Aside0 (Below w.heap.size w wc))
          case first => as_aux_lemma =>
           have H := HC50.out
           clear HC50
           by_cases c53 : (t263.length : Int) = 2
           ·rw [if_pos c53] at H
            have c53b0 : ((t263.length : Int) == 2) = true := beq_iff_eq.mpr c53
            have c53b1 : ((t263.length : Int) != 2) = false := bne_eq_false_iff_eq.mpr c53
            clear c53
            (first | rw [c53b0] | (simp only [i64_w, i32_w]; rw [c53b0]) | skip)
            by_cases c54 : t263.length < 8796093022208
            ·rw [if_pos c54] at H
             have LMc54 := Aside0.mk c54
             clear c54
             obtain ⟨y266, hy266⟩ : ∃ y_ : List ByteArray, y_ = (t263 ++ [(⟨#[48, 48]⟩ : ByteArray)]) := ⟨_, rfl⟩
             replace H : (bulletinref22_Read.j3 k2 x4_2 x5_2 y266 t256 x258001_2 t254 0 0 0 0) = some (r1, r2) := by first | (rw [hy266]; with_reducible exact H) | (have H2_ := (Option.bind_some _ _).symm.trans H; rw [hy266]; with_reducible exact H2_) | (have H2_ := (Option.bind_some _ _).symm.trans H; with_reducible exact H2_) | with_reducible exact H | (rw [hy266]; exact H) | exact H
             have Ny266 := Aside0.mk hy266
             clear hy266
             have H' := Aside0.mk H
             clear H
             go_wp2_with (first | ((with_reducible refine gate_builtin (b := .append) (xs := #[.tmp 71, .tmp 72]) rfl ?_); at_builtin; refine Kd.R_append Kd.string (w0 := w) w.heap.size rfl (.tmp 71) (.tmp 72) 47 9 (.string ⟨#[]⟩) 16 rfl Tryd.underlying47 info9 rfl (by decide) (by omega) (.slice Ao52 t263.length co52) t263 (⟨#[48, 48]⟩ : ByteArray) [.string (⟨#[48, 48]⟩ : ByteArray)] (fun k_ => some k_ ≠ (.slice (some ad253) x4_2.length co26 : Value).ownBlock) (fun _ => False) rfl rfl ?aP (fun _ hk => hk.elim) ?aF ?aO ?aB ?aS ?aL ?_; (case aP => exact rfl); (case aB => exact (by repeat (first | (with_reducible first | exact HB.out | apply below_alloc | apply pw_below_drewN | apply below_drew1 | refine below_set ?_ GE257.out) | exact HB.out))); (case aF => exact (fun k_ hk => Kd.fresh' (Kd.Q_lt (by (with_reducible repeat (first | apply Kd.Q_alloc | apply Kd.Q_drewN | apply Kd.Q_drew)); exact HO_4.out)) k_ hk)); (case aO => exact (by (with_reducible repeat (first | apply Kd.R_alloc | apply Kd.R_drewN | apply Kd.R_drew)); exact Kd.R_mono HO265.out (fun _ hk => hk.2))); (case aS => exact (below_size (by repeat (first | (with_reducible first | exact HB.out | apply below_alloc | apply pw_below_drewN | apply below_drew1 | refine below_set ?_ GE257.out) | exact HB.out)))); (case aL => have := LMc54.out; omega); intro v267 w55 ho hb hg hat; rw [← Ny266.out] at ho; have n0_ := Aside0.mk (Kd.Q_after (ok := (fun _ => True)) (by (with_reducible repeat (first | apply Kd.Q_alloc | apply Kd.Q_drewN | apply Kd.Q_drew)); exact HO_4.out) hg hat); have n1_ := Aside0.mk (blk_grown (g := gb257) (o := .cells #[.int .i64 t256, .int .i64 x258001_2, .int .i64 t254, .int .i64 0, .int .i64 0, .int .i64 0, .int .i64 0] 32 (0, 0)) (by (with_reducible repeat (first | refine blk_drewN ?_ _ | refine blk_drew ?_ | refine blk_alloc ?_ _)); exact BK257.out) hg (Kd.R_ne HO265.out BK257.out (by decide))); have n2_ := Aside0.mk (hb); have n3_ := Aside0.mk (ho); clear HO_4; clear BK257; clear HB; clear HO265; have HO_4 := n0_; have BK257 := n1_; have HB := n2_; have HO268 := n3_; clear n0_ n1_ n2_ n3_; clear ho hb hg hat))
             go_meet
             case rel => exact ⟨_, (y266), H', ⟨by have := HJ2.out; have := HK2.out; first | omega | exact Nat.le_refl _⟩, ⟨by (with_reducible repeat (first | apply Kd.Q_alloc | apply Kd.Q_drewN | apply Kd.Q_drew)); exact Kd.Q_mono HO_4.out (fun _ hk => hk.2)⟩, ⟨by (with_reducible repeat (first | apply Kd.R_alloc | apply Kd.R_drewN | apply Kd.R_drew)); exact HO268.out⟩, ⟨by (with_reducible repeat (first | refine blk_drewN ?_ _ | refine blk_drew ?_ | refine blk_alloc ?_ _)); exact BK257.out⟩, ⟨by repeat (first | (with_reducible first | exact HB.out | apply below_alloc | apply pw_below_drewN | apply below_drew1 | refine below_set ?_ GE257.out) | exact HB.out)⟩⟩
            ·rw [if_neg c54] at H
             exact absurd H (by simp)
           ·rw [if_neg c53] at H
            have c53b0 : ((t263.length : Int) == 2) = false := beq_eq_false_iff_ne.mpr c53
            have c53b1 : ((t263.length : Int) != 2) = true := bne_iff_ne.mpr c53
            (first | rw [c53b0] | (simp only [i64_w, i32_w]; rw [c53b0]) | skip)
            have H' := Aside0.mk H
            clear H
            go_wp2
            go_meet
            case rel => exact ⟨_, (t263), H', ⟨by have := HJ2.out; have := HK2.out; first | omega | exact Nat.le_refl _⟩, ⟨by (with_reducible repeat (first | apply Kd.Q_alloc | apply Kd.Q_drewN | apply Kd.Q_drew)); exact Kd.Q_mono HO_4.out (fun _ hk => hk.2)⟩, ⟨by (with_reducible repeat (first | apply Kd.R_alloc | apply Kd.R_drewN | apply Kd.R_drew)); exact Kd.R_mono HO265.out (fun _ hk => hk.2)⟩, ⟨by (with_reducible repeat (first | refine blk_drewN ?_ _ | refine blk_drew ?_ | refine blk_alloc ?_ _)); exact BK257.out⟩, ⟨by repeat (first | (with_reducible first | exact HB.out | apply below_alloc | apply pw_below_drewN | apply below_drew1 | refine below_set ?_ GE257.out) | exact HB.out)⟩⟩
          case rest => as_aux_lemma =>
           clear HC50
           try clear c1
           try clear c2
           try clear p2
           try clear q2
           try clear hx2
           try clear qi2
           try clear c3
           try clear c4
           try clear c5
           try clear c6
           try clear c6b0
           try clear c6b1
           try clear p6
           try clear c7
           try clear c7b0
           try clear c8
           try clear c8b0
           try clear c8b1
           try clear c11
           try clear c11b0
           try clear c11b1
           try clear c11b2
           try clear c13
           try clear c13b0
           try clear c13b1
           try clear c14
           try clear c18
           try clear c18b0
           try clear c19
           try clear c19b0
           try clear c19b1
           try clear c20
           try clear q20
           try clear c21
           try clear c21b0
           try clear c21b1
           try clear c22
           try clear c22b0
           try clear c22b1
           try clear c23
           try clear c24
           try clear c24b0
           try clear c24b1
           try clear p24
           try clear q24
           try clear hx24
           try clear qi24
           try clear c25
           try clear p25
           try clear q25
           try clear hx25
           try clear qi25
           try clear p26
           try clear q26
           try clear hx26
           try clear qi26
           try clear c35
           try clear c36
           try clear c37
           try clear c37b0
           try clear c38
           try clear c38b0
           try clear c38b1
           try clear c42
           try clear c42b0
           try clear c42b1
           try clear c48
           try clear c48b0
           try clear c48b1
           try clear c53
           try clear c53b0
           try clear c53b1
           try clear c54
           try clear hcz45_0
           try clear hcz45_1
           try clear hcz45_2
           try clear hcz45_3
           try clear hcz45_4
           try clear hcz45_5
           try clear hcz45_6
           try clear hfz45_0
           try clear hfz45_1
           try clear hfz45_2
           try clear hfz45_3
           try clear hfz45_4
           try clear hfz45_5
           try clear hfz45_6
           try clear hx249_0
           try clear hx253_0
           try clear hx255_0
           try clear hx258_0
           try clear hx262_0
           try clear p2
           try clear p24
           try clear p249
           try clear p25
           try clear p253
           try clear p255
           try clear p258
           try clear p262
           try clear p6
           try clear q2
           try clear q20
           try clear q24
           try clear q249
           try clear q25
           try clear q253
           try clear q255
           try clear q258
           try clear q262
           obtain ⟨kq, x9_49, HA, HJ49, HO_4, HO_9, BK257, HB⟩ := hcut
           cases kq with
           | zero => exact absurd HA.out (by simp [bulletinref22_Read.j3])
           | succ kj49 =>
            have H := HA.out
            clear HA
            simp only [bulletinref22_Read.j3] at H
            have HC56 := Aside0.mk H
            clear H
            go_upto_region 23 with (fail)
            go_cut [91] (fun v91 wc => ∃ (kq : Nat) (x91_55 : Bool), v91 = .bool x91_55 ∧ Aside0 (bulletinref22_Read.j4 kq x4_2 x5_2 x9_49 x91_55 t256 x258001_2 t254 0 0 0 0 = some (r1, r2)) ∧ Aside0 (kq ≤ kj49) ∧ Aside0 (Kd.Q Kd.string 9 wc w.heap.size (fun k_ => some k_ ≠ (u9 : Value).ownBlock) (.slice (some ad253) x4_2.length co26) x4_2) ∧ Aside0 (Kd.R Kd.string 9 wc w.heap.size (fun k_ => some k_ ≠ ((.slice (some ad253) x4_2.length co26) : Value).ownBlock) u9 x9_49) ∧ Aside0 (wc.heap[gb257]? = some (.cells #[.int .i64 t256, .int .i64 x258001_2, .int .i64 t254, .int .i64 0, .int .i64 0, .int .i64 0, .int .i64 0] 32 (0, 0))) ∧ Aside0 (Below w.heap.size w wc))
            case first => as_aux_lemma =>
             have H := HC56.out
             clear HC56
             by_cases c57 : (x9_49.length : Int) = 3
             ·rw [if_pos c57] at H
              have c57b0 : ((x9_49.length : Int) == 3) = true := beq_iff_eq.mpr c57
              have c57b1 : ((x9_49.length : Int) != 3) = false := bne_eq_false_iff_eq.mpr c57
              clear c57
              (first | rw [c57b0] | (simp only [i64_w, i32_w]; rw [c57b0]) | skip)
              by_cases c58 : t254 < 0
              ·rw [if_pos c58] at H
               have c58b0 : decide (t254 < 0) = true := decide_eq_true c58
               clear c58
               have H' := Aside0.mk H
               clear H
               obtain ⟨Ao59, co59, eo59⟩ := Kd.R_slice HO_9.out
               subst eo59
               have hcz60_0 : wc.cell? ⟨gb257, 0, none⟩ = some (.int .i64 t256) := (blk_cell BK257.out 0).trans rfl
               have hcz60_1 : wc.cell? ⟨gb257, 1, none⟩ = some (.int .i64 x258001_2) := (blk_cell BK257.out 1).trans rfl
               have hcz60_2 : wc.cell? ⟨gb257, 2, none⟩ = some (.int .i64 t254) := (blk_cell BK257.out 2).trans rfl
               have hcz60_3 : wc.cell? ⟨gb257, 3, none⟩ = some (.int .i64 0) := (blk_cell BK257.out 3).trans rfl
               have hcz60_4 : wc.cell? ⟨gb257, 4, none⟩ = some (.int .i64 0) := (blk_cell BK257.out 4).trans rfl
               have hcz60_5 : wc.cell? ⟨gb257, 5, none⟩ = some (.int .i64 0) := (blk_cell BK257.out 5).trans rfl
               have hcz60_6 : wc.cell? ⟨gb257, 6, none⟩ = some (.int .i64 0) := (blk_cell BK257.out 6).trans rfl
               have hfz60_0 := blk_frozen BK257.out 0
               have hfz60_1 := blk_frozen BK257.out 1
               have hfz60_2 := blk_frozen BK257.out 2
               have hfz60_3 := blk_frozen BK257.out 3
               have hfz60_4 := blk_frozen BK257.out 4
               have hfz60_5 := blk_frozen BK257.out 5
               have hfz60_6 := blk_frozen BK257.out 6
               go_wp2
               go_meet
               case rel => exact ⟨_, (true), (by first | rfl | (simp; done) | (simp [*]; done)), H', ⟨by have := HJ2.out; have := HK2.out; have := HJ49.out; first | omega | exact Nat.le_refl _⟩, ⟨by (with_reducible repeat (first | apply Kd.Q_alloc | apply Kd.Q_drewN | apply Kd.Q_drew)); exact HO_4.out⟩, ⟨by (with_reducible repeat (first | apply Kd.R_alloc | apply Kd.R_drewN | apply Kd.R_drew)); exact HO_9.out⟩, ⟨by (with_reducible repeat (first | refine blk_drewN ?_ _ | refine blk_drew ?_ | refine blk_alloc ?_ _)); exact BK257.out⟩, ⟨by repeat (first | (with_reducible first | exact HB.out | apply below_alloc | apply pw_below_drewN | apply below_drew1 | refine below_set ?_ GE257.out) | exact HB.out)⟩⟩
              ·rw [if_neg c58] at H
               have c58b0 : decide (t254 < 0) = false := decide_eq_false c58
               clear c58
               by_cases c61 : t256 < 0
               ·rw [if_pos c61] at H
                have c61b0 : decide (t256 < 0) = true := decide_eq_true c61
                clear c61
                have H' := Aside0.mk H
                clear H
                obtain ⟨Ao62, co62, eo62⟩ := Kd.R_slice HO_9.out
                subst eo62
                have hcz63_0 : wc.cell? ⟨gb257, 0, none⟩ = some (.int .i64 t256) := (blk_cell BK257.out 0).trans rfl
                have hcz63_1 : wc.cell? ⟨gb257, 1, none⟩ = some (.int .i64 x258001_2) := (blk_cell BK257.out 1).trans rfl
                have hcz63_2 : wc.cell? ⟨gb257, 2, none⟩ = some (.int .i64 t254) := (blk_cell BK257.out 2).trans rfl
                have hcz63_3 : wc.cell? ⟨gb257, 3, none⟩ = some (.int .i64 0) := (blk_cell BK257.out 3).trans rfl
                have hcz63_4 : wc.cell? ⟨gb257, 4, none⟩ = some (.int .i64 0) := (blk_cell BK257.out 4).trans rfl
                have hcz63_5 : wc.cell? ⟨gb257, 5, none⟩ = some (.int .i64 0) := (blk_cell BK257.out 5).trans rfl
                have hcz63_6 : wc.cell? ⟨gb257, 6, none⟩ = some (.int .i64 0) := (blk_cell BK257.out 6).trans rfl
                have hfz63_0 := blk_frozen BK257.out 0
                have hfz63_1 := blk_frozen BK257.out 1
                have hfz63_2 := blk_frozen BK257.out 2
                have hfz63_3 := blk_frozen BK257.out 3
                have hfz63_4 := blk_frozen BK257.out 4
                have hfz63_5 := blk_frozen BK257.out 5
                have hfz63_6 := blk_frozen BK257.out 6
                go_wp2
                go_meet
                case rel => exact ⟨_, (true), (by first | rfl | (simp; done) | (simp [*]; done)), H', ⟨by have := HJ2.out; have := HK2.out; have := HJ49.out; first | omega | exact Nat.le_refl _⟩, ⟨by (with_reducible repeat (first | apply Kd.Q_alloc | apply Kd.Q_drewN | apply Kd.Q_drew)); exact HO_4.out⟩, ⟨by (with_reducible repeat (first | apply Kd.R_alloc | apply Kd.R_drewN | apply Kd.R_drew)); exact HO_9.out⟩, ⟨by (with_reducible repeat (first | refine blk_drewN ?_ _ | refine blk_drew ?_ | refine blk_alloc ?_ _)); exact BK257.out⟩, ⟨by repeat (first | (with_reducible first | exact HB.out | apply below_alloc | apply pw_below_drewN | apply below_drew1 | refine below_set ?_ GE257.out) | exact HB.out)⟩⟩
               ·rw [if_neg c61] at H
                have c61b0 : decide (t256 < 0) = false := decide_eq_false c61
                clear c61
                have H' := Aside0.mk H
                clear H
                obtain ⟨Ao64, co64, eo64⟩ := Kd.R_slice HO_9.out
                subst eo64
                have hcz65_0 : wc.cell? ⟨gb257, 0, none⟩ = some (.int .i64 t256) := (blk_cell BK257.out 0).trans rfl
                have hcz65_1 : wc.cell? ⟨gb257, 1, none⟩ = some (.int .i64 x258001_2) := (blk_cell BK257.out 1).trans rfl
                have hcz65_2 : wc.cell? ⟨gb257, 2, none⟩ = some (.int .i64 t254) := (blk_cell BK257.out 2).trans rfl
                have hcz65_3 : wc.cell? ⟨gb257, 3, none⟩ = some (.int .i64 0) := (blk_cell BK257.out 3).trans rfl
                have hcz65_4 : wc.cell? ⟨gb257, 4, none⟩ = some (.int .i64 0) := (blk_cell BK257.out 4).trans rfl
                have hcz65_5 : wc.cell? ⟨gb257, 5, none⟩ = some (.int .i64 0) := (blk_cell BK257.out 5).trans rfl
                have hcz65_6 : wc.cell? ⟨gb257, 6, none⟩ = some (.int .i64 0) := (blk_cell BK257.out 6).trans rfl
                have hfz65_0 := blk_frozen BK257.out 0
                have hfz65_1 := blk_frozen BK257.out 1
                have hfz65_2 := blk_frozen BK257.out 2
                have hfz65_3 := blk_frozen BK257.out 3
                have hfz65_4 := blk_frozen BK257.out 4
                have hfz65_5 := blk_frozen BK257.out 5
                have hfz65_6 := blk_frozen BK257.out 6
                go_wp2
                go_meet
                case rel => exact ⟨_, ((x258001_2 == 0)), (by first | rfl | (simp; done) | (simp [*]; done)), H', ⟨by have := HJ2.out; have := HK2.out; have := HJ49.out; first | omega | exact Nat.le_refl _⟩, ⟨by (with_reducible repeat (first | apply Kd.Q_alloc | apply Kd.Q_drewN | apply Kd.Q_drew)); exact HO_4.out⟩, ⟨by (with_reducible repeat (first | apply Kd.R_alloc | apply Kd.R_drewN | apply Kd.R_drew)); exact HO_9.out⟩, ⟨by (with_reducible repeat (first | refine blk_drewN ?_ _ | refine blk_drew ?_ | refine blk_alloc ?_ _)); exact BK257.out⟩, ⟨by repeat (first | (with_reducible first | exact HB.out | apply below_alloc | apply pw_below_drewN | apply below_drew1 | refine below_set ?_ GE257.out) | exact HB.out)⟩⟩
             ·rw [if_neg c57] at H
              have c57b0 : ((x9_49.length : Int) == 3) = false := beq_eq_false_iff_ne.mpr c57
              have c57b1 : ((x9_49.length : Int) != 3) = true := bne_iff_ne.mpr c57
              (first | rw [c57b0] | (simp only [i64_w, i32_w]; rw [c57b0]) | skip)
              have H' := Aside0.mk H
              clear H
              obtain ⟨Ao66, co66, eo66⟩ := Kd.R_slice HO_9.out
              subst eo66
              go_wp2
              go_meet
              case rel => exact ⟨_, (true), (by first | rfl | (simp; done) | (simp [*]; done)), H', ⟨by have := HJ2.out; have := HK2.out; have := HJ49.out; first | omega | exact Nat.le_refl _⟩, ⟨by (with_reducible repeat (first | apply Kd.Q_alloc | apply Kd.Q_drewN | apply Kd.Q_drew)); exact HO_4.out⟩, ⟨by (with_reducible repeat (first | apply Kd.R_alloc | apply Kd.R_drewN | apply Kd.R_drew)); exact HO_9.out⟩, ⟨by (with_reducible repeat (first | refine blk_drewN ?_ _ | refine blk_drew ?_ | refine blk_alloc ?_ _)); exact BK257.out⟩, ⟨by repeat (first | (with_reducible first | exact HB.out | apply below_alloc | apply pw_below_drewN | apply below_drew1 | refine below_set ?_ GE257.out) | exact HB.out)⟩⟩
            case rest => as_aux_lemma =>
             clear HC56
             try clear c1
             try clear c2
             try clear p2
             try clear q2
             try clear hx2
             try clear qi2
             try clear c3
             try clear c4
             try clear c5
             try clear c6
             try clear c6b0
             try clear c6b1
             try clear p6
             try clear c7
             try clear c7b0
             try clear c8
             try clear c8b0
             try clear c8b1
             try clear c11
             try clear c11b0
             try clear c11b1
             try clear c11b2
             try clear c13
             try clear c13b0
             try clear c13b1
             try clear c14
             try clear c18
             try clear c18b0
             try clear c19
             try clear c19b0
             try clear c19b1
             try clear c20
             try clear q20
             try clear c21
             try clear c21b0
             try clear c21b1
             try clear c22
             try clear c22b0
             try clear c22b1
             try clear c23
             try clear c24
             try clear c24b0
             try clear c24b1
             try clear p24
             try clear q24
             try clear hx24
             try clear qi24
             try clear c25
             try clear p25
             try clear q25
             try clear hx25
             try clear qi25
             try clear p26
             try clear q26
             try clear hx26
             try clear qi26
             try clear c35
             try clear c36
             try clear c37
             try clear c37b0
             try clear c38
             try clear c38b0
             try clear c38b1
             try clear c42
             try clear c42b0
             try clear c42b1
             try clear c48
             try clear c48b0
             try clear c48b1
             try clear c53
             try clear c53b0
             try clear c53b1
             try clear c54
             try clear c57
             try clear c57b0
             try clear c57b1
             try clear c58
             try clear c58b0
             try clear c61
             try clear c61b0
             try clear p64
             try clear hcz45_0
             try clear hcz45_1
             try clear hcz45_2
             try clear hcz45_3
             try clear hcz45_4
             try clear hcz45_5
             try clear hcz45_6
             try clear hcz60_0
             try clear hcz60_1
             try clear hcz60_2
             try clear hcz60_3
             try clear hcz60_4
             try clear hcz60_5
             try clear hcz60_6
             try clear hcz63_0
             try clear hcz63_1
             try clear hcz63_2
             try clear hcz63_3
             try clear hcz63_4
             try clear hcz63_5
             try clear hcz63_6
             try clear hcz65_0
             try clear hcz65_1
             try clear hcz65_2
             try clear hcz65_3
             try clear hcz65_4
             try clear hcz65_5
             try clear hcz65_6
             try clear hfz45_0
             try clear hfz45_1
             try clear hfz45_2
             try clear hfz45_3
             try clear hfz45_4
             try clear hfz45_5
             try clear hfz45_6
             try clear hfz60_0
             try clear hfz60_1
             try clear hfz60_2
             try clear hfz60_3
             try clear hfz60_4
             try clear hfz60_5
             try clear hfz60_6
             try clear hfz63_0
             try clear hfz63_1
             try clear hfz63_2
             try clear hfz63_3
             try clear hfz63_4
             try clear hfz63_5
             try clear hfz63_6
             try clear hfz65_0
             try clear hfz65_1
             try clear hfz65_2
             try clear hfz65_3
             try clear hfz65_4
             try clear hfz65_5
             try clear hfz65_6
             try clear hx249_0
             try clear hx253_0
             try clear hx255_0
             try clear hx258_0
             try clear hx262_0
             try clear p2
             try clear p24
             try clear p249
             try clear p25
             try clear p253
             try clear p255
             try clear p258
             try clear p26
             try clear p262
             try clear p6
             try clear q2
             try clear q20
             try clear q24
             try clear q249
             try clear q25
             try clear q253
             try clear q255
             try clear q258
             try clear q26
             try clear q262
             obtain ⟨kq, x91_55, rfl, HA, HJ55, HO_4, HO_9, BK257, HB⟩ := hcut
             cases kq with
             | zero => exact absurd HA.out (by simp [bulletinref22_Read.j4])
             | succ kj55 =>
              have H := HA.out
              clear HA
              simp only [bulletinref22_Read.j4] at H
              by_cases c67 : x91_55 = true
              ·subst c67
               have H1 : (some (0, 3)) = some (r1, r2) := by rw [if_pos rfl] at H; exact H
               clear H
               have H := H1
               clear H1
               simp only [Option.some.injEq, Prod.mk.injEq] at H
               obtain ⟨rfl, rfl⟩ := H
               go_wp2
               go_ret2
               exact ⟨by first | rfl | (simp [errW_none, errW_some] <;> rfl) | (simp [*, errW_none, errW_some] <;> rfl), by repeat (first | (with_reducible first | exact HB.out | apply below_alloc | apply pw_below_drewN | apply below_drew1 | refine below_set ?_ GE257.out) | exact HB.out)⟩
              ·replace c67 := Bool.eq_false_iff.mpr c67
               subst c67
               have H1 : (if 0 < (x9_49.length : Int) then ((bulletinref22_digits.f kj55 (rdOf ByteArray.empty x9_49 0) 2 2).bind fun t270 => (if 1 < (x9_49.length : Int) then ((bulletinref22_digits.f kj55 (rdOf ByteArray.empty x9_49 1) 2 2).bind fun t272 => (if 2 < (x9_49.length : Int) then ((bulletinref22_digits.f kj55 (rdOf ByteArray.empty x9_49 2) 2 2).bind fun t274 => (if t270 < 0 then (bulletinref22_Read.j5 kj55 x4_2 x5_2 true t256 x258001_2 t254 t270 t272 t274 0) else (if t272 < 0 then (bulletinref22_Read.j5 kj55 x4_2 x5_2 true t256 x258001_2 t254 t270 t272 t274 0) else (bulletinref22_Read.j5 kj55 x4_2 x5_2 (decide (t274 < 0)) t256 x258001_2 t254 t270 t272 t274 0)))) else (none))) else (none))) else (none)) = some (r1, r2) := by rw [if_neg (show ¬ (false = true) by decide)] at H; exact H
               clear H
               have H := H1
               clear H1
               by_cases c68 : 0 < (x9_49.length : Int)
               ·rw [if_pos c68] at H
                have c68b0 : decide (0 < (x9_49.length : Int)) = true := decide_eq_true c68
                have c68b1 : decide (0 < x9_49.length) = true := decide_eq_true (by omega)
                clear c68
                replace H := Option.bind_eq_some_iff.mp H
                obtain ⟨t270, A690, H⟩ := H
                replace H : (if 1 < (x9_49.length : Int) then ((bulletinref22_digits.f kj55 (rdOf ByteArray.empty x9_49 1) 2 2).bind fun t272 => (if 2 < (x9_49.length : Int) then ((bulletinref22_digits.f kj55 (rdOf ByteArray.empty x9_49 2) 2 2).bind fun t274 => (if t270 < 0 then (bulletinref22_Read.j5 kj55 x4_2 x5_2 true t256 x258001_2 t254 t270 t272 t274 0) else (if t272 < 0 then (bulletinref22_Read.j5 kj55 x4_2 x5_2 true t256 x258001_2 t254 t270 t272 t274 0) else (bulletinref22_Read.j5 kj55 x4_2 x5_2 (decide (t274 < 0)) t256 x258001_2 t254 t270 t272 t274 0)))) else (none))) else (none)) = some (r1, r2) := H
                have A69 := Aside0.mk A690
                clear A690
                by_cases c70 : 1 < (x9_49.length : Int)
                ·rw [if_pos c70] at H
                 have c70b0 : decide (1 < (x9_49.length : Int)) = true := decide_eq_true c70
                 have c70b1 : decide (1 < x9_49.length) = true := decide_eq_true (by omega)
                 clear c70
                 replace H := Option.bind_eq_some_iff.mp H
                 obtain ⟨t272, A710, H⟩ := H
                 replace H : (if 2 < (x9_49.length : Int) then ((bulletinref22_digits.f kj55 (rdOf ByteArray.empty x9_49 2) 2 2).bind fun t274 => (if t270 < 0 then (bulletinref22_Read.j5 kj55 x4_2 x5_2 true t256 x258001_2 t254 t270 t272 t274 0) else (if t272 < 0 then (bulletinref22_Read.j5 kj55 x4_2 x5_2 true t256 x258001_2 t254 t270 t272 t274 0) else (bulletinref22_Read.j5 kj55 x4_2 x5_2 (decide (t274 < 0)) t256 x258001_2 t254 t270 t272 t274 0)))) else (none)) = some (r1, r2) := H
                 have A71 := Aside0.mk A710
                 clear A710
                 by_cases c72 : 2 < (x9_49.length : Int)
                 ·rw [if_pos c72] at H
                  have c72b0 : decide (2 < (x9_49.length : Int)) = true := decide_eq_true c72
                  have c72b1 : decide (2 < x9_49.length) = true := decide_eq_true (by omega)
                  clear c72
                  replace H := Option.bind_eq_some_iff.mp H
                  obtain ⟨t274, A730, H⟩ := H
                  replace H : (if t270 < 0 then (bulletinref22_Read.j5 kj55 x4_2 x5_2 true t256 x258001_2 t254 t270 t272 t274 0) else (if t272 < 0 then (bulletinref22_Read.j5 kj55 x4_2 x5_2 true t256 x258001_2 t254 t270 t272 t274 0) else (bulletinref22_Read.j5 kj55 x4_2 x5_2 (decide (t274 < 0)) t256 x258001_2 t254 t270 t272 t274 0))) = some (r1, r2) := H
                  have A73 := Aside0.mk A730
                  clear A730
                  have HC74 := Aside0.mk H
                  clear H
                  obtain ⟨Ao75, co75, eo75⟩ := Kd.R_slice HO_9.out
                  subst eo75
                  have p269 : 0 ≤ (0 : Int) := (by omega)
                  have q269 : 0 < (x9_49.length : Int) := of_decide_eq_true (by first | (with_reducible assumption) | assumption)
                  obtain ⟨ad269, e269, hx269_0⟩ := Kd.at_string (Kd.R_reads' HO_9.out).2.2 0 p269 q269
                  cases e269
                  have qi269 : (0 < x9_49.length) = True := eq_true (by omega)
                  (try rw [show ((0 : Int)).toNat = 0 from rfl] at hx269_0)
                  (try rw [Addr.add_zero'] at hx269_0)
                  replace p269 := eq_true p269
                  replace q269 := eq_true q269
                  go_upto_region 28 with (first | ((with_reducible refine gate_callee (f := 37) rfl ?_); refine goesL_ (some 95) rfl rfl Tryd.func37 (by kernel_rfl) rfl #[.string (rdOf ByteArray.empty x9_49 0), .int .i64 2, .int .i64 2] rfl (by (try simp only [List.map_toArray, List.map_cons, List.map_nil]); first | done | rfl | (simp only [List.length_drop, List.length_take]; rfl)) ?_; (with_reducible refine (bulletinref22_digits.calls kj55 (rdOf ByteArray.empty x9_49 0) 2 2 t270 _ A69.out).mono ?_); rintro e w' ⟨rfl, ⟨nd, rfl⟩⟩; refine ⟨_, rfl, ?_⟩; (try (rw [drewN_self wc]; generalize hq_ : World.drewN wc _ = wc; have n0_ : Aside0 (Kd.Q Kd.string 9 wc w.heap.size (fun k_ => some k_ ≠ (.slice (some ad269) x9_49.length co75 : Value).ownBlock) (.slice (some ad253) x4_2.length co26) x4_2) := ⟨by rw [← hq_]; exact (by (with_reducible repeat (first | apply Kd.Q_alloc | apply Kd.Q_drewN | apply Kd.Q_drew)); exact HO_4.out)⟩; have n1_ : Aside0 (Kd.R Kd.string 9 wc w.heap.size (fun k_ => some k_ ≠ (.slice (some ad253) x4_2.length co26 : Value).ownBlock) (.slice (some ad269) x9_49.length co75) x9_49) := ⟨by rw [← hq_]; exact (by (with_reducible repeat (first | apply Kd.R_alloc | apply Kd.R_drewN | apply Kd.R_drew)); exact HO_9.out)⟩; have n2_ : Aside0 (wc.heap[gb257]? = some (.cells #[.int .i64 t256, .int .i64 x258001_2, .int .i64 t254, .int .i64 0, .int .i64 0, .int .i64 0, .int .i64 0] 32 (0, 0))) := ⟨by rw [← hq_]; exact (by (with_reducible repeat (first | refine blk_drewN ?_ _ | refine blk_drew ?_ | refine blk_alloc ?_ _)); exact BK257.out)⟩; have n3_ : Aside0 (Below w.heap.size w wc) := ⟨by rw [← hq_]; exact (by repeat (first | (with_reducible first | exact HB.out | apply below_alloc | apply pw_below_drewN | apply below_drew1 | refine below_set ?_ GE257.out) | exact HB.out))⟩; clear HO_4 HO_9 BK257 HB hq_; have HO_4 := n0_; have HO_9 := n1_; have BK257 := n2_; have HB := n3_; clear n0_ n1_ n2_ n3_)); have hcz76_0 : wc.cell? ⟨gb257, 0, none⟩ = some (.int .i64 t256) := (blk_cell BK257.out 0).trans rfl; have hcz76_1 : wc.cell? ⟨gb257, 1, none⟩ = some (.int .i64 x258001_2) := (blk_cell BK257.out 1).trans rfl; have hcz76_2 : wc.cell? ⟨gb257, 2, none⟩ = some (.int .i64 t254) := (blk_cell BK257.out 2).trans rfl; have hcz76_3 : wc.cell? ⟨gb257, 3, none⟩ = some (.int .i64 0) := (blk_cell BK257.out 3).trans rfl; have hcz76_4 : wc.cell? ⟨gb257, 4, none⟩ = some (.int .i64 0) := (blk_cell BK257.out 4).trans rfl; have hcz76_5 : wc.cell? ⟨gb257, 5, none⟩ = some (.int .i64 0) := (blk_cell BK257.out 5).trans rfl; have hcz76_6 : wc.cell? ⟨gb257, 6, none⟩ = some (.int .i64 0) := (blk_cell BK257.out 6).trans rfl; have hfz76_0 := blk_frozen BK257.out 0; have hfz76_1 := blk_frozen BK257.out 1; have hfz76_2 := blk_frozen BK257.out 2; have hfz76_3 := blk_frozen BK257.out 3; have hfz76_4 := blk_frozen BK257.out 4; have hfz76_5 := blk_frozen BK257.out 5; have hfz76_6 := blk_frozen BK257.out 6; have p271 : 0 ≤ (1 : Int) := (by omega); have q271 : 1 < (x9_49.length : Int) := of_decide_eq_true (by first | (with_reducible assumption) | assumption); obtain ⟨ad271, e271, hx271_0⟩ := Kd.at_string (Kd.R_reads' HO_9.out).2.2 1 p271 q271; obtain rfl : ad269 = ad271 := (by injection e271); (try simp only [show (1 : Int).toNat = 1 from rfl, Nat.reduceMul, Nat.reduceEqDiff, Go.Addr.add, ↓reduceIte] at hx271_0); have qi271 : (1 < x9_49.length) = True := eq_true (by omega); (try rw [show ((1 : Int)).toNat = 1 from rfl] at hx271_0); have hn271_0 : ad269.block ≠ gb257 := Kd.own_blk (Kd.R_ne HO_9.out BK257.out (by decide)); replace hx271_0 := (cell_far (p := ⟨gb257, 3, none⟩) (by first | (rw [add_block]; exact hn271_0) | (show (Addr.add _ _).block ≠ _; rw [add_block]; exact hn271_0) | exact hn271_0) (.int .i64 t270)).trans hx271_0; clear hn271_0; replace p271 := eq_true p271; replace q271 := eq_true q271) | ((with_reducible refine gate_callee (f := 37) rfl ?_); refine goesL_ (some 100) rfl rfl Tryd.func37 (by kernel_rfl) rfl #[.string (rdOf ByteArray.empty x9_49 1), .int .i64 2, .int .i64 2] rfl (by (try simp only [List.map_toArray, List.map_cons, List.map_nil]); first | done | rfl | (simp only [List.length_drop, List.length_take]; rfl)) ?_; (with_reducible refine (bulletinref22_digits.calls kj55 (rdOf ByteArray.empty x9_49 1) 2 2 t272 _ A71.out).mono ?_); rintro e w' ⟨rfl, ⟨nd, rfl⟩⟩; refine ⟨_, rfl, ?_⟩; have p273 : 0 ≤ (2 : Int) := (by omega); have q273 : 2 < (x9_49.length : Int) := of_decide_eq_true (by first | (with_reducible assumption) | assumption); obtain ⟨ad273, e273, hx273_0⟩ := Kd.at_string (Kd.R_reads' HO_9.out).2.2 2 p273 q273; obtain rfl : ad269 = ad273 := (by injection e273); (try simp only [show (2 : Int).toNat = 2 from rfl, Nat.reduceMul, Nat.reduceEqDiff, Go.Addr.add, ↓reduceIte] at hx273_0); have qi273 : (2 < x9_49.length) = True := eq_true (by omega); (try rw [show ((2 : Int)).toNat = 2 from rfl] at hx273_0); have hn273_0 : ad269.block ≠ gb257 := Kd.own_blk (Kd.R_ne HO_9.out BK257.out (by decide)); have hn273_1 : ad269.block ≠ gb257 := Kd.own_blk (Kd.R_ne HO_9.out BK257.out (by decide)); replace hx273_0 := (cell_far (p := ⟨gb257, 3, none⟩) (by first | (rw [add_block]; exact hn273_0) | (show (Addr.add _ _).block ≠ _; rw [add_block]; exact hn273_0) | exact hn273_0) (.int .i64 t270)).trans hx273_0; replace hx273_0 := (cell_far (p := ⟨gb257, 4, none⟩) (by first | (rw [add_block]; exact hn273_1) | (show (Addr.add _ _).block ≠ _; rw [add_block]; exact hn273_1) | exact hn273_1) (.int .i64 t272)).trans hx273_0; (try have hy273_0 := fun (m1_ : Nat) => (show ((((wc.setCell ⟨gb257, 3, none⟩ (.int .i64 t270)).drewN m1_).setCell ⟨gb257, 4, none⟩ (.int .i64 t272))).cell? _ = some _ from hx273_0)); clear hn273_0; clear hn273_1; replace p273 := eq_true p273; replace q273 := eq_true q273) | ((with_reducible refine gate_callee (f := 37) rfl ?_); refine goesL_ (some 105) rfl rfl Tryd.func37 (by kernel_rfl) rfl #[.string (rdOf ByteArray.empty x9_49 2), .int .i64 2, .int .i64 2] rfl (by (try simp only [List.map_toArray, List.map_cons, List.map_nil]); first | done | rfl | (simp only [List.length_drop, List.length_take]; rfl)) ?_; (with_reducible refine (bulletinref22_digits.calls kj55 (rdOf ByteArray.empty x9_49 2) 2 2 t274 _ A73.out).mono ?_); rintro e w' ⟨rfl, ⟨nd, rfl⟩⟩; refine ⟨_, rfl, ?_⟩))
                  (try simp only [Act.put, List.setIfInBounds_toArray, List.set_cons_zero, List.set_cons_succ])
                  go_cut [119] (fun v119 wc => ∃ (kq : Nat) (x119_73 : Bool), v119 = .bool x119_73 ∧ Aside0 (bulletinref22_Read.j5 kq x4_2 x5_2 x119_73 t256 x258001_2 t254 t270 t272 t274 0 = some (r1, r2)) ∧ Aside0 (kq ≤ kj55) ∧ Aside0 (Kd.Q Kd.string 9 wc w.heap.size (fun _ => True) (.slice (some ad253) x4_2.length co26) x4_2) ∧ Aside0 (wc.heap[gb257]? = some (.cells #[.int .i64 t256, .int .i64 x258001_2, .int .i64 t254, .int .i64 t270, .int .i64 t272, .int .i64 t274, .int .i64 0] 32 (0, 0))) ∧ Aside0 (Below w.heap.size w wc))
                  case first => as_aux_lemma =>
                   have H := HC74.out
                   clear HC74
                   by_cases c77 : t270 < 0
                   ·rw [if_pos c77] at H
                    have c77b0 : decide (t270 < 0) = true := decide_eq_true c77
                    clear c77
                    (first | rw [c77b0] | (simp only [i64_w, i32_w]; rw [c77b0]) | skip)
                    have H' := Aside0.mk H
                    clear H
                    have hcz78_0 : wc.cell? ⟨gb257, 0, none⟩ = some (.int .i64 t256) := (blk_cell BK257.out 0).trans rfl
                    have hcz78_1 : wc.cell? ⟨gb257, 1, none⟩ = some (.int .i64 x258001_2) := (blk_cell BK257.out 1).trans rfl
                    have hcz78_2 : wc.cell? ⟨gb257, 2, none⟩ = some (.int .i64 t254) := (blk_cell BK257.out 2).trans rfl
                    have hcz78_3 : wc.cell? ⟨gb257, 3, none⟩ = some (.int .i64 0) := (blk_cell BK257.out 3).trans rfl
                    have hcz78_4 : wc.cell? ⟨gb257, 4, none⟩ = some (.int .i64 0) := (blk_cell BK257.out 4).trans rfl
                    have hcz78_5 : wc.cell? ⟨gb257, 5, none⟩ = some (.int .i64 0) := (blk_cell BK257.out 5).trans rfl
                    have hcz78_6 : wc.cell? ⟨gb257, 6, none⟩ = some (.int .i64 0) := (blk_cell BK257.out 6).trans rfl
                    have hfz78_0 := blk_frozen BK257.out 0
                    have hfz78_1 := blk_frozen BK257.out 1
                    have hfz78_2 := blk_frozen BK257.out 2
                    have hfz78_3 := blk_frozen BK257.out 3
                    have hfz78_4 := blk_frozen BK257.out 4
                    have hfz78_5 := blk_frozen BK257.out 5
                    have hfz78_6 := blk_frozen BK257.out 6
                    go_wp2
                    go_meet
                    case rel => exact ⟨_, (true), (by first | rfl | (simp; done) | (simp [*]; done)), H', ⟨by have := HJ2.out; have := HK2.out; have := HJ49.out; have := HJ55.out; first | omega | exact Nat.le_refl _⟩, ⟨by (with_reducible repeat (first | apply Kd.Q_alloc | apply Kd.Q_drewN | apply Kd.Q_drew)); exact Kd.Q_mono (Kd.Q_far (p := ⟨gb257, 5, none⟩) (Kd.Q_far (p := ⟨gb257, 4, none⟩) (Kd.Q_far (p := ⟨gb257, 3, none⟩) (Kd.Q_types HO_4.out BK257.out (by decide)) (fun _ hk => hk.2) (.int .i64 t270)) (fun _ hk => hk.2) (.int .i64 t272)) (fun _ hk => hk.2) (.int .i64 t274)) (fun _ hk => trivial)⟩, ⟨by (with_reducible repeat (first | refine blk_drewN ?_ _ | refine blk_drew ?_ | refine blk_alloc ?_ _)); refine blk_put (cs := #[.int .i64 t256, .int .i64 x258001_2, .int .i64 t254, .int .i64 t270, .int .i64 t272, .int .i64 0, .int .i64 0]) ?_ 5 _ rfl; (with_reducible repeat (first | refine blk_drewN ?_ _ | refine blk_drew ?_ | refine blk_alloc ?_ _)); refine blk_put (cs := #[.int .i64 t256, .int .i64 x258001_2, .int .i64 t254, .int .i64 t270, .int .i64 0, .int .i64 0, .int .i64 0]) ?_ 4 _ rfl; (with_reducible repeat (first | refine blk_drewN ?_ _ | refine blk_drew ?_ | refine blk_alloc ?_ _)); refine blk_put (cs := #[.int .i64 t256, .int .i64 x258001_2, .int .i64 t254, .int .i64 0, .int .i64 0, .int .i64 0, .int .i64 0]) ?_ 3 _ rfl; (with_reducible repeat (first | refine blk_drewN ?_ _ | refine blk_drew ?_ | refine blk_alloc ?_ _)); exact BK257.out⟩, ⟨by repeat (first | (with_reducible first | exact HB.out | apply below_alloc | apply pw_below_drewN | apply below_drew1 | refine below_set ?_ GE257.out) | exact HB.out)⟩⟩
                   ·rw [if_neg c77] at H
                    have c77b0 : decide (t270 < 0) = false := decide_eq_false c77
                    clear c77
                    (first | rw [c77b0] | (simp only [i64_w, i32_w]; rw [c77b0]) | skip)
                    by_cases c79 : t272 < 0
                    ·rw [if_pos c79] at H
                     have c79b0 : decide (t272 < 0) = true := decide_eq_true c79
                     clear c79
                     have H' := Aside0.mk H
                     clear H
                     have hcz80_0 : wc.cell? ⟨gb257, 0, none⟩ = some (.int .i64 t256) := (blk_cell BK257.out 0).trans rfl
                     have hcz80_1 : wc.cell? ⟨gb257, 1, none⟩ = some (.int .i64 x258001_2) := (blk_cell BK257.out 1).trans rfl
                     have hcz80_2 : wc.cell? ⟨gb257, 2, none⟩ = some (.int .i64 t254) := (blk_cell BK257.out 2).trans rfl
                     have hcz80_3 : wc.cell? ⟨gb257, 3, none⟩ = some (.int .i64 0) := (blk_cell BK257.out 3).trans rfl
                     have hcz80_4 : wc.cell? ⟨gb257, 4, none⟩ = some (.int .i64 0) := (blk_cell BK257.out 4).trans rfl
                     have hcz80_5 : wc.cell? ⟨gb257, 5, none⟩ = some (.int .i64 0) := (blk_cell BK257.out 5).trans rfl
                     have hcz80_6 : wc.cell? ⟨gb257, 6, none⟩ = some (.int .i64 0) := (blk_cell BK257.out 6).trans rfl
                     have hfz80_0 := blk_frozen BK257.out 0
                     have hfz80_1 := blk_frozen BK257.out 1
                     have hfz80_2 := blk_frozen BK257.out 2
                     have hfz80_3 := blk_frozen BK257.out 3
                     have hfz80_4 := blk_frozen BK257.out 4
                     have hfz80_5 := blk_frozen BK257.out 5
                     have hfz80_6 := blk_frozen BK257.out 6
                     go_wp2
                     go_meet
                     case rel => exact ⟨_, (true), (by first | rfl | (simp; done) | (simp [*]; done)), H', ⟨by have := HJ2.out; have := HK2.out; have := HJ49.out; have := HJ55.out; first | omega | exact Nat.le_refl _⟩, ⟨by (with_reducible repeat (first | apply Kd.Q_alloc | apply Kd.Q_drewN | apply Kd.Q_drew)); exact Kd.Q_mono (Kd.Q_far (p := ⟨gb257, 5, none⟩) (Kd.Q_far (p := ⟨gb257, 4, none⟩) (Kd.Q_far (p := ⟨gb257, 3, none⟩) (Kd.Q_types HO_4.out BK257.out (by decide)) (fun _ hk => hk.2) (.int .i64 t270)) (fun _ hk => hk.2) (.int .i64 t272)) (fun _ hk => hk.2) (.int .i64 t274)) (fun _ hk => trivial)⟩, ⟨by (with_reducible repeat (first | refine blk_drewN ?_ _ | refine blk_drew ?_ | refine blk_alloc ?_ _)); refine blk_put (cs := #[.int .i64 t256, .int .i64 x258001_2, .int .i64 t254, .int .i64 t270, .int .i64 t272, .int .i64 0, .int .i64 0]) ?_ 5 _ rfl; (with_reducible repeat (first | refine blk_drewN ?_ _ | refine blk_drew ?_ | refine blk_alloc ?_ _)); refine blk_put (cs := #[.int .i64 t256, .int .i64 x258001_2, .int .i64 t254, .int .i64 t270, .int .i64 0, .int .i64 0, .int .i64 0]) ?_ 4 _ rfl; (with_reducible repeat (first | refine blk_drewN ?_ _ | refine blk_drew ?_ | refine blk_alloc ?_ _)); refine blk_put (cs := #[.int .i64 t256, .int .i64 x258001_2, .int .i64 t254, .int .i64 0, .int .i64 0, .int .i64 0, .int .i64 0]) ?_ 3 _ rfl; (with_reducible repeat (first | refine blk_drewN ?_ _ | refine blk_drew ?_ | refine blk_alloc ?_ _)); exact BK257.out⟩, ⟨by repeat (first | (with_reducible first | exact HB.out | apply below_alloc | apply pw_below_drewN | apply below_drew1 | refine below_set ?_ GE257.out) | exact HB.out)⟩⟩
                    ·rw [if_neg c79] at H
                     have c79b0 : decide (t272 < 0) = false := decide_eq_false c79
                     clear c79
                     have H' := Aside0.mk H
                     clear H
                     have hcz81_0 : wc.cell? ⟨gb257, 0, none⟩ = some (.int .i64 t256) := (blk_cell BK257.out 0).trans rfl
                     have hcz81_1 : wc.cell? ⟨gb257, 1, none⟩ = some (.int .i64 x258001_2) := (blk_cell BK257.out 1).trans rfl
                     have hcz81_2 : wc.cell? ⟨gb257, 2, none⟩ = some (.int .i64 t254) := (blk_cell BK257.out 2).trans rfl
                     have hcz81_3 : wc.cell? ⟨gb257, 3, none⟩ = some (.int .i64 0) := (blk_cell BK257.out 3).trans rfl
                     have hcz81_4 : wc.cell? ⟨gb257, 4, none⟩ = some (.int .i64 0) := (blk_cell BK257.out 4).trans rfl
                     have hcz81_5 : wc.cell? ⟨gb257, 5, none⟩ = some (.int .i64 0) := (blk_cell BK257.out 5).trans rfl
                     have hcz81_6 : wc.cell? ⟨gb257, 6, none⟩ = some (.int .i64 0) := (blk_cell BK257.out 6).trans rfl
                     have hfz81_0 := blk_frozen BK257.out 0
                     have hfz81_1 := blk_frozen BK257.out 1
                     have hfz81_2 := blk_frozen BK257.out 2
                     have hfz81_3 := blk_frozen BK257.out 3
                     have hfz81_4 := blk_frozen BK257.out 4
                     have hfz81_5 := blk_frozen BK257.out 5
                     have hfz81_6 := blk_frozen BK257.out 6
                     go_wp2
                     go_meet
                     case rel => exact ⟨_, (decide (t274 < 0)), (by first | rfl | (simp; done) | (simp [*]; done)), H', ⟨by have := HJ2.out; have := HK2.out; have := HJ49.out; have := HJ55.out; first | omega | exact Nat.le_refl _⟩, ⟨by (with_reducible repeat (first | apply Kd.Q_alloc | apply Kd.Q_drewN | apply Kd.Q_drew)); exact Kd.Q_mono (Kd.Q_far (p := ⟨gb257, 5, none⟩) (Kd.Q_far (p := ⟨gb257, 4, none⟩) (Kd.Q_far (p := ⟨gb257, 3, none⟩) (Kd.Q_types HO_4.out BK257.out (by decide)) (fun _ hk => hk.2) (.int .i64 t270)) (fun _ hk => hk.2) (.int .i64 t272)) (fun _ hk => hk.2) (.int .i64 t274)) (fun _ hk => trivial)⟩, ⟨by (with_reducible repeat (first | refine blk_drewN ?_ _ | refine blk_drew ?_ | refine blk_alloc ?_ _)); refine blk_put (cs := #[.int .i64 t256, .int .i64 x258001_2, .int .i64 t254, .int .i64 t270, .int .i64 t272, .int .i64 0, .int .i64 0]) ?_ 5 _ rfl; (with_reducible repeat (first | refine blk_drewN ?_ _ | refine blk_drew ?_ | refine blk_alloc ?_ _)); refine blk_put (cs := #[.int .i64 t256, .int .i64 x258001_2, .int .i64 t254, .int .i64 t270, .int .i64 0, .int .i64 0, .int .i64 0]) ?_ 4 _ rfl; (with_reducible repeat (first | refine blk_drewN ?_ _ | refine blk_drew ?_ | refine blk_alloc ?_ _)); refine blk_put (cs := #[.int .i64 t256, .int .i64 x258001_2, .int .i64 t254, .int .i64 0, .int .i64 0, .int .i64 0, .int .i64 0]) ?_ 3 _ rfl; (with_reducible repeat (first | refine blk_drewN ?_ _ | refine blk_drew ?_ | refine blk_alloc ?_ _)); exact BK257.out⟩, ⟨by repeat (first | (with_reducible first | exact HB.out | apply below_alloc | apply pw_below_drewN | apply below_drew1 | refine below_set ?_ GE257.out) | exact HB.out)⟩⟩
                  case rest => as_aux_lemma =>
                   clear HC74
                   try clear c1
                   try clear c2
                   try clear p2
                   try clear q2
                   try clear hx2
                   try clear qi2
                   try clear c3
                   try clear c4
                   try clear c5
                   try clear c6
                   try clear c6b0
                   try clear c6b1
                   try clear p6
                   try clear c7
                   try clear c7b0
                   try clear c8
                   try clear c8b0
                   try clear c8b1
                   try clear c11
                   try clear c11b0
                   try clear c11b1
                   try clear c11b2
                   try clear c13
                   try clear c13b0
                   try clear c13b1
                   try clear c14
                   try clear c18
                   try clear c18b0
                   try clear c19
                   try clear c19b0
                   try clear c19b1
                   try clear c20
                   try clear q20
                   try clear c21
                   try clear c21b0
                   try clear c21b1
                   try clear c22
                   try clear c22b0
                   try clear c22b1
                   try clear c23
                   try clear c24
                   try clear c24b0
                   try clear c24b1
                   try clear p24
                   try clear q24
                   try clear hx24
                   try clear qi24
                   try clear c25
                   try clear p25
                   try clear q25
                   try clear hx25
                   try clear qi25
                   try clear p26
                   try clear q26
                   try clear hx26
                   try clear qi26
                   try clear p27
                   try clear q27
                   try clear hx27
                   try clear qi27
                   try clear c35
                   try clear c36
                   try clear c37
                   try clear c37b0
                   try clear c38
                   try clear c38b0
                   try clear c38b1
                   try clear c42
                   try clear c42b0
                   try clear c42b1
                   try clear c48
                   try clear c48b0
                   try clear c48b1
                   try clear c53
                   try clear c53b0
                   try clear c53b1
                   try clear c54
                   try clear c57
                   try clear c57b0
                   try clear c57b1
                   try clear c58
                   try clear c58b0
                   try clear c61
                   try clear c61b0
                   try clear p64
                   try clear c67
                   try clear c68
                   try clear c68b0
                   try clear c68b1
                   try clear c70
                   try clear c70b0
                   try clear c70b1
                   try clear c72
                   try clear c72b0
                   try clear c72b1
                   try clear c77
                   try clear c77b0
                   try clear c79
                   try clear c79b0
                   try clear hcz45_0
                   try clear hcz45_1
                   try clear hcz45_2
                   try clear hcz45_3
                   try clear hcz45_4
                   try clear hcz45_5
                   try clear hcz45_6
                   try clear hcz60_0
                   try clear hcz60_1
                   try clear hcz60_2
                   try clear hcz60_3
                   try clear hcz60_4
                   try clear hcz60_5
                   try clear hcz60_6
                   try clear hcz63_0
                   try clear hcz63_1
                   try clear hcz63_2
                   try clear hcz63_3
                   try clear hcz63_4
                   try clear hcz63_5
                   try clear hcz63_6
                   try clear hcz65_0
                   try clear hcz65_1
                   try clear hcz65_2
                   try clear hcz65_3
                   try clear hcz65_4
                   try clear hcz65_5
                   try clear hcz65_6
                   try clear hcz76_0
                   try clear hcz76_1
                   try clear hcz76_2
                   try clear hcz76_3
                   try clear hcz76_4
                   try clear hcz76_5
                   try clear hcz76_6
                   try clear hcz78_0
                   try clear hcz78_1
                   try clear hcz78_2
                   try clear hcz78_3
                   try clear hcz78_4
                   try clear hcz78_5
                   try clear hcz78_6
                   try clear hcz80_0
                   try clear hcz80_1
                   try clear hcz80_2
                   try clear hcz80_3
                   try clear hcz80_4
                   try clear hcz80_5
                   try clear hcz80_6
                   try clear hcz81_0
                   try clear hcz81_1
                   try clear hcz81_2
                   try clear hcz81_3
                   try clear hcz81_4
                   try clear hcz81_5
                   try clear hcz81_6
                   try clear hfz45_0
                   try clear hfz45_1
                   try clear hfz45_2
                   try clear hfz45_3
                   try clear hfz45_4
                   try clear hfz45_5
                   try clear hfz45_6
                   try clear hfz60_0
                   try clear hfz60_1
                   try clear hfz60_2
                   try clear hfz60_3
                   try clear hfz60_4
                   try clear hfz60_5
                   try clear hfz60_6
                   try clear hfz63_0
                   try clear hfz63_1
                   try clear hfz63_2
                   try clear hfz63_3
                   try clear hfz63_4
                   try clear hfz63_5
                   try clear hfz63_6
                   try clear hfz65_0
                   try clear hfz65_1
                   try clear hfz65_2
                   try clear hfz65_3
                   try clear hfz65_4
                   try clear hfz65_5
                   try clear hfz65_6
                   try clear hfz76_0
                   try clear hfz76_1
                   try clear hfz76_2
                   try clear hfz76_3
                   try clear hfz76_4
                   try clear hfz76_5
                   try clear hfz76_6
                   try clear hfz78_0
                   try clear hfz78_1
                   try clear hfz78_2
                   try clear hfz78_3
                   try clear hfz78_4
                   try clear hfz78_5
                   try clear hfz78_6
                   try clear hfz80_0
                   try clear hfz80_1
                   try clear hfz80_2
                   try clear hfz80_3
                   try clear hfz80_4
                   try clear hfz80_5
                   try clear hfz80_6
                   try clear hfz81_0
                   try clear hfz81_1
                   try clear hfz81_2
                   try clear hfz81_3
                   try clear hfz81_4
                   try clear hfz81_5
                   try clear hfz81_6
                   try clear hx249_0
                   try clear hx253_0
                   try clear hx255_0
                   try clear hx258_0
                   try clear hx262_0
                   try clear hx269_0
                   try clear hx271_0
                   try clear hx273_0
                   try clear p2
                   try clear p24
                   try clear p249
                   try clear p25
                   try clear p253
                   try clear p255
                   try clear p258
                   try clear p26
                   try clear p262
                   try clear p269
                   try clear p271
                   try clear p273
                   try clear p6
                   try clear p64
                   try clear q2
                   try clear q20
                   try clear q24
                   try clear q249
                   try clear q25
                   try clear q253
                   try clear q255
                   try clear q258
                   try clear q26
                   try clear q262
                   try clear q269
                   try clear q271
                   try clear q273
                   obtain ⟨kq, x119_73, rfl, HA, HJ73, HO_4, BK257, HB⟩ := hcut
                   cases kq with
                   | zero => exact absurd HA.out (by simp [bulletinref22_Read.j5])
                   | succ kj73 =>
                    have H := HA.out
                    clear HA
                    simp only [bulletinref22_Read.j5] at H
                    by_cases c82 : x119_73 = true
                    ·subst c82
                     have H1 : (some (0, 3)) = some (r1, r2) := by rw [if_pos rfl] at H; exact H
                     clear H
                     have H := H1
                     clear H1
                     simp only [Option.some.injEq, Prod.mk.injEq] at H
                     obtain ⟨rfl, rfl⟩ := H
                     go_wp2
                     go_ret2
                     exact ⟨by first | rfl | (simp [errW_none, errW_some] <;> rfl) | (simp [*, errW_none, errW_some] <;> rfl), by repeat (first | (with_reducible first | exact HB.out | apply below_alloc | apply pw_below_drewN | apply below_drew1 | refine below_set ?_ GE257.out) | exact HB.out)⟩
                    ·replace c82 := Bool.eq_false_iff.mpr c82
                     subst c82
                     have H1 : (if 4 < (x4_2.length : Int) then ((bulletinref06_Fold.f kj73 (rdOf ByteArray.empty x4_2 4)).bind fun t276 => (if t276.toList = ([103, 109, 116] : List UInt8) then (bulletinref22_Read.j6 kj73 x5_2 (rdOf ByteArray.empty x4_2 4) 0 false t256 x258001_2 t254 t270 t272 t274 0) else (if t276.toList = ([117, 116] : List UInt8) then (bulletinref22_Read.j6 kj73 x5_2 (rdOf ByteArray.empty x4_2 4) 0 false t256 x258001_2 t254 t270 t272 t274 0) else (if t276.toList = ([117, 116, 99] : List UInt8) then (bulletinref22_Read.j6 kj73 x5_2 (rdOf ByteArray.empty x4_2 4) 0 false t256 x258001_2 t254 t270 t272 t274 0) else (bulletinref22_Read.j6 kj73 x5_2 (rdOf ByteArray.empty x4_2 4) 0 (t276.toList != ([122] : List UInt8)) t256 x258001_2 t254 t270 t272 t274 0))))) else (none)) = some (r1, r2) := by rw [if_neg (show ¬ (false = true) by decide)] at H; exact H
                     clear H
                     have H := H1
                     clear H1
                     by_cases c83 : 4 < (x4_2.length : Int)
                     ·rw [if_pos c83] at H
                      have c83b0 : decide (4 < (x4_2.length : Int)) = true := decide_eq_true c83
                      have c83b1 : decide (4 < x4_2.length) = true := decide_eq_true (by omega)
                      clear c83
                      replace H := Option.bind_eq_some_iff.mp H
                      obtain ⟨t276, A840, H⟩ := H
                      replace H : (if t276.toList = ([103, 109, 116] : List UInt8) then (bulletinref22_Read.j6 kj73 x5_2 (rdOf ByteArray.empty x4_2 4) 0 false t256 x258001_2 t254 t270 t272 t274 0) else (if t276.toList = ([117, 116] : List UInt8) then (bulletinref22_Read.j6 kj73 x5_2 (rdOf ByteArray.empty x4_2 4) 0 false t256 x258001_2 t254 t270 t272 t274 0) else (if t276.toList = ([117, 116, 99] : List UInt8) then (bulletinref22_Read.j6 kj73 x5_2 (rdOf ByteArray.empty x4_2 4) 0 false t256 x258001_2 t254 t270 t272 t274 0) else (bulletinref22_Read.j6 kj73 x5_2 (rdOf ByteArray.empty x4_2 4) 0 (t276.toList != ([122] : List UInt8)) t256 x258001_2 t254 t270 t272 t274 0)))) = some (r1, r2) := H
                      have A84 := Aside0.mk A840
                      clear A840
                      have HC85 := Aside0.mk H
                      clear H
                      have p275 : 0 ≤ (4 : Int) := (by omega)
                      have q275 : 4 < (x4_2.length : Int) := of_decide_eq_true (by first | (with_reducible assumption) | assumption)
                      obtain ⟨ad275, e275, hx275_0⟩ := Kd.at_string (Kd.Q_reads' HO_4.out).2.2 4 p275 q275
                      obtain rfl : ad253 = ad275 := (by injection e275)
                      (try simp only [show (4 : Int).toNat = 4 from rfl, Nat.reduceMul, Nat.reduceEqDiff, Go.Addr.add, ↓reduceIte] at hx275_0)
                      have qi275 : (4 < x4_2.length) = True := eq_true (by omega)
                      (try rw [show ((4 : Int)).toNat = 4 from rfl] at hx275_0)
                      replace p275 := eq_true p275
                      replace q275 := eq_true q275
                      go_upto_region 33 with (first | ((with_reducible refine gate_callee (f := 36) rfl ?_); refine goesL_ (some 124) rfl rfl Tryd.func36 (by kernel_rfl) rfl #[.string (rdOf ByteArray.empty x4_2 4)] rfl (by (try simp only [List.map_toArray, List.map_cons, List.map_nil]); first | done | rfl | (simp only [List.length_drop, List.length_take]; rfl)) ?_; (with_reducible refine (bulletinref06_Fold.calls kj73 (rdOf ByteArray.empty x4_2 4) t276 _ A84.out).mono ?_); rintro e w86 ⟨rfl, hb⟩; refine ⟨_, rfl, ?_⟩; have n0_ := Aside0.mk (Kd.Q_below (by (with_reducible repeat (first | apply Kd.Q_alloc | apply Kd.Q_drewN | apply Kd.Q_drew)); exact HO_4.out) hb); have n1_ := Aside0.mk (blk_below (g := gb257) (o := .cells #[.int .i64 t256, .int .i64 x258001_2, .int .i64 t254, .int .i64 t270, .int .i64 t272, .int .i64 t274, .int .i64 0] 32 (0, 0)) (by (with_reducible repeat (first | refine blk_drewN ?_ _ | refine blk_drew ?_ | refine blk_alloc ?_ _)); exact BK257.out) hb); have n2_ := Aside0.mk (below_step (by repeat (first | (with_reducible first | exact HB.out | apply below_alloc | apply pw_below_drewN | apply below_drew1 | refine below_set ?_ GE257.out) | exact HB.out)) hb); clear HO_4; clear BK257; clear HB; have HO_4 := n0_; have BK257 := n1_; have HB := n2_; clear n0_ n1_ n2_; (try clear hb); (try clear hb2); (try clear hk); (try clear hi)))
                      (try simp only [Act.put, List.setIfInBounds_toArray, List.set_cons_zero, List.set_cons_succ])
                      go_cut [138] (fun v138 wc => ∃ (kq : Nat) (x138_84 : Bool), v138 = .bool x138_84 ∧ Aside0 (bulletinref22_Read.j6 kq x5_2 (rdOf ByteArray.empty x4_2 4) 0 x138_84 t256 x258001_2 t254 t270 t272 t274 0 = some (r1, r2)) ∧ Aside0 (kq ≤ kj73) ∧ Aside0 (wc.heap[gb257]? = some (.cells #[.int .i64 t256, .int .i64 x258001_2, .int .i64 t254, .int .i64 t270, .int .i64 t272, .int .i64 t274, .int .i64 0] 32 (0, 0))) ∧ Aside0 (Below w.heap.size w wc))
                      case first => as_aux_lemma =>
                       have H := HC85.out
                       clear HC85
                       by_cases c87 : t276.toList = ([103, 109, 116] : List UInt8)
                       ·rw [if_pos c87] at H
                        have c87b0 : (t276.toList == ([103, 109, 116] : List UInt8)) = true := beq_iff_eq.mpr c87
                        have c87b1 : (t276.toList != ([103, 109, 116] : List UInt8)) = false := bne_eq_false_iff_eq.mpr c87
                        clear c87
                        (first | rw [c87b0] | (simp only [i64_w, i32_w]; rw [c87b0]) | skip)
                        have H' := Aside0.mk H
                        clear H
                        go_wp2
                        go_meet
                        case rel => exact ⟨_, (false), (by first | rfl | (simp; done) | (simp [*]; done)), H', ⟨by have := HJ2.out; have := HK2.out; have := HJ49.out; have := HJ55.out; have := HJ73.out; first | omega | exact Nat.le_refl _⟩, ⟨by (with_reducible repeat (first | refine blk_drewN ?_ _ | refine blk_drew ?_ | refine blk_alloc ?_ _)); exact BK257.out⟩, ⟨by repeat (first | (with_reducible first | exact HB.out | apply below_alloc | apply pw_below_drewN | apply below_drew1 | refine below_set ?_ GE257.out) | exact HB.out)⟩⟩
                       ·rw [if_neg c87] at H
                        have c87b0 : (t276.toList == ([103, 109, 116] : List UInt8)) = false := beq_eq_false_iff_ne.mpr c87
                        have c87b1 : (t276.toList != ([103, 109, 116] : List UInt8)) = true := bne_iff_ne.mpr c87
                        (first | rw [c87b0] | (simp only [i64_w, i32_w]; rw [c87b0]) | skip)
                        by_cases c88 : t276.toList = ([117, 116] : List UInt8)
                        ·rw [if_pos c88] at H
                         have c88b0 : (t276.toList == ([117, 116] : List UInt8)) = true := beq_iff_eq.mpr c88
                         have c88b1 : (t276.toList != ([117, 116] : List UInt8)) = false := bne_eq_false_iff_eq.mpr c88
                         clear c88
                         have H' := Aside0.mk H
                         clear H
                         go_wp2
                         go_meet
                         case rel => exact ⟨_, (false), (by first | rfl | (simp; done) | (simp [*]; done)), H', ⟨by have := HJ2.out; have := HK2.out; have := HJ49.out; have := HJ55.out; have := HJ73.out; first | omega | exact Nat.le_refl _⟩, ⟨by (with_reducible repeat (first | refine blk_drewN ?_ _ | refine blk_drew ?_ | refine blk_alloc ?_ _)); exact BK257.out⟩, ⟨by repeat (first | (with_reducible first | exact HB.out | apply below_alloc | apply pw_below_drewN | apply below_drew1 | refine below_set ?_ GE257.out) | exact HB.out)⟩⟩
                        ·rw [if_neg c88] at H
                         have c88b0 : (t276.toList == ([117, 116] : List UInt8)) = false := beq_eq_false_iff_ne.mpr c88
                         have c88b1 : (t276.toList != ([117, 116] : List UInt8)) = true := bne_iff_ne.mpr c88
                         by_cases c89 : t276.toList = ([117, 116, 99] : List UInt8)
                         ·rw [if_pos c89] at H
                          have c89b0 : (t276.toList == ([117, 116, 99] : List UInt8)) = true := beq_iff_eq.mpr c89
                          have c89b1 : (t276.toList != ([117, 116, 99] : List UInt8)) = false := bne_eq_false_iff_eq.mpr c89
                          clear c89
                          have H' := Aside0.mk H
                          clear H
                          go_wp2
                          go_meet
                          case rel => exact ⟨_, (false), (by first | rfl | (simp; done) | (simp [*]; done)), H', ⟨by have := HJ2.out; have := HK2.out; have := HJ49.out; have := HJ55.out; have := HJ73.out; first | omega | exact Nat.le_refl _⟩, ⟨by (with_reducible repeat (first | refine blk_drewN ?_ _ | refine blk_drew ?_ | refine blk_alloc ?_ _)); exact BK257.out⟩, ⟨by repeat (first | (with_reducible first | exact HB.out | apply below_alloc | apply pw_below_drewN | apply below_drew1 | refine below_set ?_ GE257.out) | exact HB.out)⟩⟩
                         ·rw [if_neg c89] at H
                          have c89b0 : (t276.toList == ([117, 116, 99] : List UInt8)) = false := beq_eq_false_iff_ne.mpr c89
                          have c89b1 : (t276.toList != ([117, 116, 99] : List UInt8)) = true := bne_iff_ne.mpr c89
                          have H' := Aside0.mk H
                          clear H
                          go_wp2
                          go_meet
                          case rel => exact ⟨_, ((t276.toList != ([122] : List UInt8))), (by first | rfl | (simp; done) | (simp [*]; done)), H', ⟨by have := HJ2.out; have := HK2.out; have := HJ49.out; have := HJ55.out; have := HJ73.out; first | omega | exact Nat.le_refl _⟩, ⟨by (with_reducible repeat (first | refine blk_drewN ?_ _ | refine blk_drew ?_ | refine blk_alloc ?_ _)); exact BK257.out⟩, ⟨by repeat (first | (with_reducible first | exact HB.out | apply below_alloc | apply pw_below_drewN | apply below_drew1 | refine below_set ?_ GE257.out) | exact HB.out)⟩⟩
                      case rest => as_aux_lemma =>
                       clear HC85
                       try clear c1
                       try clear c2
                       try clear p2
                       try clear q2
                       try clear hx2
                       try clear qi2
                       try clear c3
                       try clear c4
                       try clear c5
                       try clear c6
                       try clear c6b0
                       try clear c6b1
                       try clear p6
                       try clear c7
                       try clear c7b0
                       try clear c8
                       try clear c8b0
                       try clear c8b1
                       try clear c11
                       try clear c11b0
                       try clear c11b1
                       try clear c11b2
                       try clear c13
                       try clear c13b0
                       try clear c13b1
                       try clear c14
                       try clear c18
                       try clear c18b0
                       try clear c19
                       try clear c19b0
                       try clear c19b1
                       try clear c20
                       try clear q20
                       try clear c21
                       try clear c21b0
                       try clear c21b1
                       try clear c22
                       try clear c22b0
                       try clear c22b1
                       try clear c23
                       try clear c24
                       try clear c24b0
                       try clear c24b1
                       try clear p24
                       try clear q24
                       try clear hx24
                       try clear qi24
                       try clear c25
                       try clear p25
                       try clear q25
                       try clear hx25
                       try clear qi25
                       try clear p26
                       try clear q26
                       try clear hx26
                       try clear qi26
                       try clear p27
                       try clear q27
                       try clear hx27
                       try clear qi27
                       try clear c35
                       try clear c36
                       try clear c37
                       try clear c37b0
                       try clear c38
                       try clear c38b0
                       try clear c38b1
                       try clear c42
                       try clear c42b0
                       try clear c42b1
                       try clear c48
                       try clear c48b0
                       try clear c48b1
                       try clear c53
                       try clear c53b0
                       try clear c53b1
                       try clear c54
                       try clear c57
                       try clear c57b0
                       try clear c57b1
                       try clear c58
                       try clear c58b0
                       try clear c61
                       try clear c61b0
                       try clear p64
                       try clear c67
                       try clear c68
                       try clear c68b0
                       try clear c68b1
                       try clear c70
                       try clear c70b0
                       try clear c70b1
                       try clear c72
                       try clear c72b0
                       try clear c72b1
                       try clear c77
                       try clear c77b0
                       try clear c79
                       try clear c79b0
                       try clear c82
                       try clear c83
                       try clear c83b0
                       try clear c83b1
                       try clear c87
                       try clear c87b0
                       try clear c87b1
                       try clear c88
                       try clear c88b0
                       try clear c88b1
                       try clear c89
                       try clear c89b0
                       try clear c89b1
                       try clear hcz45_0
                       try clear hcz45_1
                       try clear hcz45_2
                       try clear hcz45_3
                       try clear hcz45_4
                       try clear hcz45_5
                       try clear hcz45_6
                       try clear hcz60_0
                       try clear hcz60_1
                       try clear hcz60_2
                       try clear hcz60_3
                       try clear hcz60_4
                       try clear hcz60_5
                       try clear hcz60_6
                       try clear hcz63_0
                       try clear hcz63_1
                       try clear hcz63_2
                       try clear hcz63_3
                       try clear hcz63_4
                       try clear hcz63_5
                       try clear hcz63_6
                       try clear hcz65_0
                       try clear hcz65_1
                       try clear hcz65_2
                       try clear hcz65_3
                       try clear hcz65_4
                       try clear hcz65_5
                       try clear hcz65_6
                       try clear hcz76_0
                       try clear hcz76_1
                       try clear hcz76_2
                       try clear hcz76_3
                       try clear hcz76_4
                       try clear hcz76_5
                       try clear hcz76_6
                       try clear hcz78_0
                       try clear hcz78_1
                       try clear hcz78_2
                       try clear hcz78_3
                       try clear hcz78_4
                       try clear hcz78_5
                       try clear hcz78_6
                       try clear hcz80_0
                       try clear hcz80_1
                       try clear hcz80_2
                       try clear hcz80_3
                       try clear hcz80_4
                       try clear hcz80_5
                       try clear hcz80_6
                       try clear hcz81_0
                       try clear hcz81_1
                       try clear hcz81_2
                       try clear hcz81_3
                       try clear hcz81_4
                       try clear hcz81_5
                       try clear hcz81_6
                       try clear hfz45_0
                       try clear hfz45_1
                       try clear hfz45_2
                       try clear hfz45_3
                       try clear hfz45_4
                       try clear hfz45_5
                       try clear hfz45_6
                       try clear hfz60_0
                       try clear hfz60_1
                       try clear hfz60_2
                       try clear hfz60_3
                       try clear hfz60_4
                       try clear hfz60_5
                       try clear hfz60_6
                       try clear hfz63_0
                       try clear hfz63_1
                       try clear hfz63_2
                       try clear hfz63_3
                       try clear hfz63_4
                       try clear hfz63_5
                       try clear hfz63_6
                       try clear hfz65_0
                       try clear hfz65_1
                       try clear hfz65_2
                       try clear hfz65_3
                       try clear hfz65_4
                       try clear hfz65_5
                       try clear hfz65_6
                       try clear hfz76_0
                       try clear hfz76_1
                       try clear hfz76_2
                       try clear hfz76_3
                       try clear hfz76_4
                       try clear hfz76_5
                       try clear hfz76_6
                       try clear hfz78_0
                       try clear hfz78_1
                       try clear hfz78_2
                       try clear hfz78_3
                       try clear hfz78_4
                       try clear hfz78_5
                       try clear hfz78_6
                       try clear hfz80_0
                       try clear hfz80_1
                       try clear hfz80_2
                       try clear hfz80_3
                       try clear hfz80_4
                       try clear hfz80_5
                       try clear hfz80_6
                       try clear hfz81_0
                       try clear hfz81_1
                       try clear hfz81_2
                       try clear hfz81_3
                       try clear hfz81_4
                       try clear hfz81_5
                       try clear hfz81_6
                       try clear hx249_0
                       try clear hx253_0
                       try clear hx255_0
                       try clear hx258_0
                       try clear hx262_0
                       try clear hx269_0
                       try clear hx271_0
                       try clear hx273_0
                       try clear hx275_0
                       try clear p2
                       try clear p24
                       try clear p249
                       try clear p25
                       try clear p253
                       try clear p255
                       try clear p258
                       try clear p26
                       try clear p262
                       try clear p269
                       try clear p27
                       try clear p271
                       try clear p273
                       try clear p275
                       try clear p6
                       try clear p64
                       try clear q2
                       try clear q20
                       try clear q24
                       try clear q249
                       try clear q25
                       try clear q253
                       try clear q255
                       try clear q258
                       try clear q26
                       try clear q262
                       try clear q269
                       try clear q27
                       try clear q271
                       try clear q273
                       try clear q275
                       obtain ⟨kq, x138_84, rfl, HA, HJ84, BK257, HB⟩ := hcut
                       cases kq with
                       | zero => exact absurd HA.out (by simp [bulletinref22_Read.j6])
                       | succ kj84 =>
                        have H := HA.out
                        clear HA
                        simp only [bulletinref22_Read.j6] at H
                        have HC90 := Aside0.mk H
                        clear H
                        go_upto_if 138 with (fail)
                        go_cut [12] (fun v12 wc => ∃ (kq : Nat) (x12_89 : Int), v12 = .int .i64 x12_89 ∧ Aside0 (bulletinref22_Read.j8 kq x5_2 x12_89 t256 x258001_2 t254 t270 t272 t274 0 = some (r1, r2)) ∧ Aside0 (kq ≤ kj84) ∧ Aside0 (wc.heap[gb257]? = some (.cells #[.int .i64 t256, .int .i64 x258001_2, .int .i64 t254, .int .i64 t270, .int .i64 t272, .int .i64 t274, .int .i64 0] 32 (0, 0))) ∧ Aside0 (Below w.heap.size w wc))
                        case first => as_aux_lemma =>
                         have H := HC90.out
                         clear HC90
                         by_cases c91 : x138_84 = true
                         ·subst c91
                          have H1 : (if ((rdOf ByteArray.empty x4_2 4).size : Int) = 5 then (if 0 < ((rdOf ByteArray.empty x4_2 4).size : Int) then (if (bt (rdOf ByteArray.empty x4_2 4) 0) = 43 then (if 1 ≤ ((rdOf ByteArray.empty x4_2 4).size : Int) then ((bulletinref22_digits.f kj84 ((rdOf ByteArray.empty x4_2 4).extract 1 (rdOf ByteArray.empty x4_2 4).size) 4 4).bind fun t277 => (if t277 < 0 then (bulletinref22_Read.j7 kj84 x5_2 (rdOf ByteArray.empty x4_2 4) true t256 x258001_2 t254 t270 t272 t274 0) else (if 3 ≤ ((rdOf ByteArray.empty x4_2 4).size : Int) then ((bulletinref22_digits.f kj84 ((rdOf ByteArray.empty x4_2 4).extract 3 (rdOf ByteArray.empty x4_2 4).size) 2 2).bind fun t278 => (bulletinref22_Read.j7 kj84 x5_2 (rdOf ByteArray.empty x4_2 4) (decide (t278 > 59)) t256 x258001_2 t254 t270 t272 t274 0)) else (none)))) else (none)) else (if (bt (rdOf ByteArray.empty x4_2 4) 0) = 45 then (if 1 ≤ ((rdOf ByteArray.empty x4_2 4).size : Int) then ((bulletinref22_digits.f kj84 ((rdOf ByteArray.empty x4_2 4).extract 1 (rdOf ByteArray.empty x4_2 4).size) 4 4).bind fun t279 => (if t279 < 0 then (bulletinref22_Read.j7 kj84 x5_2 (rdOf ByteArray.empty x4_2 4) true t256 x258001_2 t254 t270 t272 t274 0) else (if 3 ≤ ((rdOf ByteArray.empty x4_2 4).size : Int) then ((bulletinref22_digits.f kj84 ((rdOf ByteArray.empty x4_2 4).extract 3 (rdOf ByteArray.empty x4_2 4).size) 2 2).bind fun t280 => (bulletinref22_Read.j7 kj84 x5_2 (rdOf ByteArray.empty x4_2 4) (decide (t280 > 59)) t256 x258001_2 t254 t270 t272 t274 0)) else (none)))) else (none)) else (bulletinref22_Read.j7 kj84 x5_2 (rdOf ByteArray.empty x4_2 4) true t256 x258001_2 t254 t270 t272 t274 0))) else (none)) else (bulletinref22_Read.j7 kj84 x5_2 (rdOf ByteArray.empty x4_2 4) true t256 x258001_2 t254 t270 t272 t274 0)) = some (r1, r2) := by rw [if_pos rfl] at H; exact H
                          clear H
                          have H := H1
                          clear H1
                          have HC92 := Aside0.mk H
                          clear H
                          go_upto_region 34 with (fail)
                          go_cut [163] (fun v163 wc => ∃ (kq : Nat) (x163_91 : Bool), v163 = .bool x163_91 ∧ Aside0 (bulletinref22_Read.j7 kq x5_2 (rdOf ByteArray.empty x4_2 4) x163_91 t256 x258001_2 t254 t270 t272 t274 0 = some (r1, r2)) ∧ Aside0 (kq ≤ kj84) ∧ Aside0 (wc.heap[gb257]? = some (.cells #[.int .i64 t256, .int .i64 x258001_2, .int .i64 t254, .int .i64 t270, .int .i64 t272, .int .i64 t274, .int .i64 0] 32 (0, 0))) ∧ Aside0 (Below w.heap.size w wc))
                          case first => as_aux_lemma =>
                           have H := HC92.out
                           clear HC92
                           by_cases c93 : ((rdOf ByteArray.empty x4_2 4).size : Int) = 5
                           ·rw [if_pos c93] at H
                            have c93b0 : (((rdOf ByteArray.empty x4_2 4).size : Int) == 5) = true := beq_iff_eq.mpr c93
                            have c93b1 : (((rdOf ByteArray.empty x4_2 4).size : Int) != 5) = false := bne_eq_false_iff_eq.mpr c93
                            clear c93
                            (first | rw [c93b0] | (simp only [i64_w, i32_w]; rw [c93b0]) | skip)
                            by_cases c94 : 0 < ((rdOf ByteArray.empty x4_2 4).size : Int)
                            ·rw [if_pos c94] at H
                             have c94b0 : decide (0 < ((rdOf ByteArray.empty x4_2 4).size : Int)) = true := decide_eq_true c94
                             have c94b1 : decide (0 < (rdOf ByteArray.empty x4_2 4).size) = true := decide_eq_true (by omega)
                             clear c94
                             by_cases c96 : (bt (rdOf ByteArray.empty x4_2 4) 0) = 43
                             ·rw [if_pos c96] at H
                              have c96b0 : ((bt (rdOf ByteArray.empty x4_2 4) 0) == 43) = true := beq_iff_eq.mpr c96
                              have c96b1 : ((bt (rdOf ByteArray.empty x4_2 4) 0) != 43) = false := bne_eq_false_iff_eq.mpr c96
                              clear c96
                              by_cases c97 : 1 ≤ ((rdOf ByteArray.empty x4_2 4).size : Int)
                              ·rw [if_pos c97] at H
                               have c97b0 := eq_true c97
                               have c97b1 : decide (1 ≤ ((rdOf ByteArray.empty x4_2 4).size : Int)) = true := decide_eq_true c97
                               clear c97
                               replace H := Option.bind_eq_some_iff.mp H
                               obtain ⟨t277, A980, H⟩ := H
                               replace H : (if t277 < 0 then (bulletinref22_Read.j7 kj84 x5_2 (rdOf ByteArray.empty x4_2 4) true t256 x258001_2 t254 t270 t272 t274 0) else (if 3 ≤ ((rdOf ByteArray.empty x4_2 4).size : Int) then ((bulletinref22_digits.f kj84 ((rdOf ByteArray.empty x4_2 4).extract 3 (rdOf ByteArray.empty x4_2 4).size) 2 2).bind fun t278 => (bulletinref22_Read.j7 kj84 x5_2 (rdOf ByteArray.empty x4_2 4) (decide (t278 > 59)) t256 x258001_2 t254 t270 t272 t274 0)) else (none))) = some (r1, r2) := H
                               have A98 := Aside0.mk A980
                               clear A980
                               by_cases c99 : t277 < 0
                               ·rw [if_pos c99] at H
                                have c99b0 : decide (t277 < 0) = true := decide_eq_true c99
                                clear c99
                                have H' := Aside0.mk H
                                clear H
                                have p95 : 0 ≤ (0 : Int) := (by omega)
                                have q95 : 0 < (rdOf ByteArray.empty x4_2 4).size := (by have : (0 : Int) < ((rdOf ByteArray.empty x4_2 4).size : Int) := of_decide_eq_true (by first | (with_reducible assumption) | assumption); omega)
                                have hx95 : ∀ h : 0 < (rdOf ByteArray.empty x4_2 4).size, (((rdOf ByteArray.empty x4_2 4)[0]'h).toNat : Int) = bt (rdOf ByteArray.empty x4_2 4) 0 := bt_at (rdOf ByteArray.empty x4_2 4) 0
                                clear p95
                                have qi95 : (0 < ((rdOf ByteArray.empty x4_2 4).size : Int)) = True := eq_true (of_decide_eq_true (by first | (with_reducible assumption) | assumption))
                                replace q95 := eq_true q95
                                go_wp2_with (first | (go_at_call 37; (with_reducible refine (bulletinref22_digits.calls kj84 ((rdOf ByteArray.empty x4_2 4).extract 1 (rdOf ByteArray.empty x4_2 4).size) 4 4 t277 _ A98.out).mono ?_); rintro e w' ⟨rfl, ⟨nd, rfl⟩⟩))
                                go_meet
                                case rel => exact ⟨_, (true), (by first | rfl | (simp; done) | (simp [*]; done)), H', ⟨by have := HJ2.out; have := HK2.out; have := HJ49.out; have := HJ55.out; have := HJ73.out; have := HJ84.out; first | omega | exact Nat.le_refl _⟩, ⟨by (with_reducible repeat (first | refine blk_drewN ?_ _ | refine blk_drew ?_ | refine blk_alloc ?_ _)); exact BK257.out⟩, ⟨by repeat (first | (with_reducible first | exact HB.out | apply below_alloc | apply pw_below_drewN | apply below_drew1 | refine below_set ?_ GE257.out) | exact HB.out)⟩⟩
                               ·rw [if_neg c99] at H
                                have c99b0 : decide (t277 < 0) = false := decide_eq_false c99
                                clear c99
                                by_cases c100 : 3 ≤ ((rdOf ByteArray.empty x4_2 4).size : Int)
                                ·rw [if_pos c100] at H
                                 have c100b0 := eq_true c100
                                 have c100b1 : decide (3 ≤ ((rdOf ByteArray.empty x4_2 4).size : Int)) = true := decide_eq_true c100
                                 clear c100
                                 replace H := Option.bind_eq_some_iff.mp H
                                 obtain ⟨t278, A1010, H⟩ := H
                                 replace H : (bulletinref22_Read.j7 kj84 x5_2 (rdOf ByteArray.empty x4_2 4) (decide (t278 > 59)) t256 x258001_2 t254 t270 t272 t274 0) = some (r1, r2) := H
                                 have A101 := Aside0.mk A1010
                                 clear A1010
                                 have H' := Aside0.mk H
                                 clear H
                                 have p95 : 0 ≤ (0 : Int) := (by omega)
                                 have q95 : 0 < (rdOf ByteArray.empty x4_2 4).size := (by have : (0 : Int) < ((rdOf ByteArray.empty x4_2 4).size : Int) := of_decide_eq_true (by first | (with_reducible assumption) | assumption); omega)
                                 have hx95 : ∀ h : 0 < (rdOf ByteArray.empty x4_2 4).size, (((rdOf ByteArray.empty x4_2 4)[0]'h).toNat : Int) = bt (rdOf ByteArray.empty x4_2 4) 0 := bt_at (rdOf ByteArray.empty x4_2 4) 0
                                 clear p95
                                 have qi95 : (0 < ((rdOf ByteArray.empty x4_2 4).size : Int)) = True := eq_true (of_decide_eq_true (by first | (with_reducible assumption) | assumption))
                                 replace q95 := eq_true q95
                                 go_wp2_with (first | (go_at_call 37; (with_reducible refine (bulletinref22_digits.calls kj84 ((rdOf ByteArray.empty x4_2 4).extract 1 (rdOf ByteArray.empty x4_2 4).size) 4 4 t277 _ A98.out).mono ?_); rintro e w' ⟨rfl, ⟨nd, rfl⟩⟩) | (go_at_call 37; (with_reducible refine (bulletinref22_digits.calls kj84 ((rdOf ByteArray.empty x4_2 4).extract 3 (rdOf ByteArray.empty x4_2 4).size) 2 2 t278 _ A101.out).mono ?_); rintro e w' ⟨rfl, ⟨nd, rfl⟩⟩))
                                 go_meet
                                 case rel => exact ⟨_, (decide (t278 > 59)), (by first | rfl | (simp; done) | (simp [*]; done)), H', ⟨by have := HJ2.out; have := HK2.out; have := HJ49.out; have := HJ55.out; have := HJ73.out; have := HJ84.out; first | omega | exact Nat.le_refl _⟩, ⟨by (with_reducible repeat (first | refine blk_drewN ?_ _ | refine blk_drew ?_ | refine blk_alloc ?_ _)); exact BK257.out⟩, ⟨by repeat (first | (with_reducible first | exact HB.out | apply below_alloc | apply pw_below_drewN | apply below_drew1 | refine below_set ?_ GE257.out) | exact HB.out)⟩⟩
                                ·rw [if_neg c100] at H
                                 exact absurd H (by simp)
                              ·rw [if_neg c97] at H
                               exact absurd H (by simp)
                             ·rw [if_neg c96] at H
                              have c96b0 : ((bt (rdOf ByteArray.empty x4_2 4) 0) == 43) = false := beq_eq_false_iff_ne.mpr c96
                              have c96b1 : ((bt (rdOf ByteArray.empty x4_2 4) 0) != 43) = true := bne_iff_ne.mpr c96
                              by_cases c103 : (bt (rdOf ByteArray.empty x4_2 4) 0) = 45
                              ·rw [if_pos c103] at H
                               have c103b0 : ((bt (rdOf ByteArray.empty x4_2 4) 0) == 45) = true := beq_iff_eq.mpr c103
                               have c103b1 : ((bt (rdOf ByteArray.empty x4_2 4) 0) != 45) = false := bne_eq_false_iff_eq.mpr c103
                               clear c103
                               by_cases c104 : 1 ≤ ((rdOf ByteArray.empty x4_2 4).size : Int)
                               ·rw [if_pos c104] at H
                                have c104b0 := eq_true c104
                                have c104b1 : decide (1 ≤ ((rdOf ByteArray.empty x4_2 4).size : Int)) = true := decide_eq_true c104
                                clear c104
                                replace H := Option.bind_eq_some_iff.mp H
                                obtain ⟨t279, A1050, H⟩ := H
                                replace H : (if t279 < 0 then (bulletinref22_Read.j7 kj84 x5_2 (rdOf ByteArray.empty x4_2 4) true t256 x258001_2 t254 t270 t272 t274 0) else (if 3 ≤ ((rdOf ByteArray.empty x4_2 4).size : Int) then ((bulletinref22_digits.f kj84 ((rdOf ByteArray.empty x4_2 4).extract 3 (rdOf ByteArray.empty x4_2 4).size) 2 2).bind fun t280 => (bulletinref22_Read.j7 kj84 x5_2 (rdOf ByteArray.empty x4_2 4) (decide (t280 > 59)) t256 x258001_2 t254 t270 t272 t274 0)) else (none))) = some (r1, r2) := H
                                have A105 := Aside0.mk A1050
                                clear A1050
                                by_cases c106 : t279 < 0
                                ·rw [if_pos c106] at H
                                 have c106b0 : decide (t279 < 0) = true := decide_eq_true c106
                                 clear c106
                                 have H' := Aside0.mk H
                                 clear H
                                 have p95 : 0 ≤ (0 : Int) := (by omega)
                                 have q95 : 0 < (rdOf ByteArray.empty x4_2 4).size := (by have : (0 : Int) < ((rdOf ByteArray.empty x4_2 4).size : Int) := of_decide_eq_true (by first | (with_reducible assumption) | assumption); omega)
                                 have hx95 : ∀ h : 0 < (rdOf ByteArray.empty x4_2 4).size, (((rdOf ByteArray.empty x4_2 4)[0]'h).toNat : Int) = bt (rdOf ByteArray.empty x4_2 4) 0 := bt_at (rdOf ByteArray.empty x4_2 4) 0
                                 clear p95
                                 have qi95 : (0 < ((rdOf ByteArray.empty x4_2 4).size : Int)) = True := eq_true (of_decide_eq_true (by first | (with_reducible assumption) | assumption))
                                 replace q95 := eq_true q95
                                 have p102 : 0 ≤ (0 : Int) := (by omega)
                                 have q102 : 0 < (rdOf ByteArray.empty x4_2 4).size := (by have : (0 : Int) < ((rdOf ByteArray.empty x4_2 4).size : Int) := of_decide_eq_true (by first | (with_reducible assumption) | assumption); omega)
                                 have hx102 : ∀ h : 0 < (rdOf ByteArray.empty x4_2 4).size, (((rdOf ByteArray.empty x4_2 4)[0]'h).toNat : Int) = bt (rdOf ByteArray.empty x4_2 4) 0 := bt_at (rdOf ByteArray.empty x4_2 4) 0
                                 clear p102
                                 have qi102 : (0 < ((rdOf ByteArray.empty x4_2 4).size : Int)) = True := eq_true (of_decide_eq_true (by first | (with_reducible assumption) | assumption))
                                 replace q102 := eq_true q102
                                 go_wp2_with (first | (go_at_call 37; (with_reducible refine (bulletinref22_digits.calls kj84 ((rdOf ByteArray.empty x4_2 4).extract 1 (rdOf ByteArray.empty x4_2 4).size) 4 4 t279 _ A105.out).mono ?_); rintro e w' ⟨rfl, ⟨nd, rfl⟩⟩))
                                 go_meet
                                 case rel => exact ⟨_, (true), (by first | rfl | (simp; done) | (simp [*]; done)), H', ⟨by have := HJ2.out; have := HK2.out; have := HJ49.out; have := HJ55.out; have := HJ73.out; have := HJ84.out; first | omega | exact Nat.le_refl _⟩, ⟨by (with_reducible repeat (first | refine blk_drewN ?_ _ | refine blk_drew ?_ | refine blk_alloc ?_ _)); exact BK257.out⟩, ⟨by repeat (first | (with_reducible first | exact HB.out | apply below_alloc | apply pw_below_drewN | apply below_drew1 | refine below_set ?_ GE257.out) | exact HB.out)⟩⟩
                                ·rw [if_neg c106] at H
                                 have c106b0 : decide (t279 < 0) = false := decide_eq_false c106
                                 clear c106
                                 by_cases c107 : 3 ≤ ((rdOf ByteArray.empty x4_2 4).size : Int)
                                 ·rw [if_pos c107] at H
                                  have c107b0 := eq_true c107
                                  have c107b1 : decide (3 ≤ ((rdOf ByteArray.empty x4_2 4).size : Int)) = true := decide_eq_true c107
                                  clear c107
                                  replace H := Option.bind_eq_some_iff.mp H
                                  obtain ⟨t280, A1080, H⟩ := H
                                  replace H : (bulletinref22_Read.j7 kj84 x5_2 (rdOf ByteArray.empty x4_2 4) (decide (t280 > 59)) t256 x258001_2 t254 t270 t272 t274 0) = some (r1, r2) := H
                                  have A108 := Aside0.mk A1080
                                  clear A1080
                                  have H' := Aside0.mk H
                                  clear H
                                  have p95 : 0 ≤ (0 : Int) := (by omega)
                                  have q95 : 0 < (rdOf ByteArray.empty x4_2 4).size := (by have : (0 : Int) < ((rdOf ByteArray.empty x4_2 4).size : Int) := of_decide_eq_true (by first | (with_reducible assumption) | assumption); omega)
                                  have hx95 : ∀ h : 0 < (rdOf ByteArray.empty x4_2 4).size, (((rdOf ByteArray.empty x4_2 4)[0]'h).toNat : Int) = bt (rdOf ByteArray.empty x4_2 4) 0 := bt_at (rdOf ByteArray.empty x4_2 4) 0
                                  clear p95
                                  have qi95 : (0 < ((rdOf ByteArray.empty x4_2 4).size : Int)) = True := eq_true (of_decide_eq_true (by first | (with_reducible assumption) | assumption))
                                  replace q95 := eq_true q95
                                  have p102 : 0 ≤ (0 : Int) := (by omega)
                                  have q102 : 0 < (rdOf ByteArray.empty x4_2 4).size := (by have : (0 : Int) < ((rdOf ByteArray.empty x4_2 4).size : Int) := of_decide_eq_true (by first | (with_reducible assumption) | assumption); omega)
                                  have hx102 : ∀ h : 0 < (rdOf ByteArray.empty x4_2 4).size, (((rdOf ByteArray.empty x4_2 4)[0]'h).toNat : Int) = bt (rdOf ByteArray.empty x4_2 4) 0 := bt_at (rdOf ByteArray.empty x4_2 4) 0
                                  clear p102
                                  have qi102 : (0 < ((rdOf ByteArray.empty x4_2 4).size : Int)) = True := eq_true (of_decide_eq_true (by first | (with_reducible assumption) | assumption))
                                  replace q102 := eq_true q102
                                  go_wp2_with (first | (go_at_call 37; (with_reducible refine (bulletinref22_digits.calls kj84 ((rdOf ByteArray.empty x4_2 4).extract 1 (rdOf ByteArray.empty x4_2 4).size) 4 4 t279 _ A105.out).mono ?_); rintro e w' ⟨rfl, ⟨nd, rfl⟩⟩) | (go_at_call 37; (with_reducible refine (bulletinref22_digits.calls kj84 ((rdOf ByteArray.empty x4_2 4).extract 3 (rdOf ByteArray.empty x4_2 4).size) 2 2 t280 _ A108.out).mono ?_); rintro e w' ⟨rfl, ⟨nd, rfl⟩⟩))
                                  go_meet
                                  case rel => exact ⟨_, (decide (t280 > 59)), (by first | rfl | (simp; done) | (simp [*]; done)), H', ⟨by have := HJ2.out; have := HK2.out; have := HJ49.out; have := HJ55.out; have := HJ73.out; have := HJ84.out; first | omega | exact Nat.le_refl _⟩, ⟨by (with_reducible repeat (first | refine blk_drewN ?_ _ | refine blk_drew ?_ | refine blk_alloc ?_ _)); exact BK257.out⟩, ⟨by repeat (first | (with_reducible first | exact HB.out | apply below_alloc | apply pw_below_drewN | apply below_drew1 | refine below_set ?_ GE257.out) | exact HB.out)⟩⟩
                                 ·rw [if_neg c107] at H
                                  exact absurd H (by simp)
                               ·rw [if_neg c104] at H
                                exact absurd H (by simp)
                              ·rw [if_neg c103] at H
                               have c103b0 : ((bt (rdOf ByteArray.empty x4_2 4) 0) == 45) = false := beq_eq_false_iff_ne.mpr c103
                               have c103b1 : ((bt (rdOf ByteArray.empty x4_2 4) 0) != 45) = true := bne_iff_ne.mpr c103
                               have H' := Aside0.mk H
                               clear H
                               have p95 : 0 ≤ (0 : Int) := (by omega)
                               have q95 : 0 < (rdOf ByteArray.empty x4_2 4).size := (by have : (0 : Int) < ((rdOf ByteArray.empty x4_2 4).size : Int) := of_decide_eq_true (by first | (with_reducible assumption) | assumption); omega)
                               have hx95 : ∀ h : 0 < (rdOf ByteArray.empty x4_2 4).size, (((rdOf ByteArray.empty x4_2 4)[0]'h).toNat : Int) = bt (rdOf ByteArray.empty x4_2 4) 0 := bt_at (rdOf ByteArray.empty x4_2 4) 0
                               clear p95
                               have qi95 : (0 < ((rdOf ByteArray.empty x4_2 4).size : Int)) = True := eq_true (of_decide_eq_true (by first | (with_reducible assumption) | assumption))
                               replace q95 := eq_true q95
                               have p102 : 0 ≤ (0 : Int) := (by omega)
                               have q102 : 0 < (rdOf ByteArray.empty x4_2 4).size := (by have : (0 : Int) < ((rdOf ByteArray.empty x4_2 4).size : Int) := of_decide_eq_true (by first | (with_reducible assumption) | assumption); omega)
                               have hx102 : ∀ h : 0 < (rdOf ByteArray.empty x4_2 4).size, (((rdOf ByteArray.empty x4_2 4)[0]'h).toNat : Int) = bt (rdOf ByteArray.empty x4_2 4) 0 := bt_at (rdOf ByteArray.empty x4_2 4) 0
                               clear p102
                               have qi102 : (0 < ((rdOf ByteArray.empty x4_2 4).size : Int)) = True := eq_true (of_decide_eq_true (by first | (with_reducible assumption) | assumption))
                               replace q102 := eq_true q102
                               go_wp2
                               go_meet
                               case rel => exact ⟨_, (true), (by first | rfl | (simp; done) | (simp [*]; done)), H', ⟨by have := HJ2.out; have := HK2.out; have := HJ49.out; have := HJ55.out; have := HJ73.out; have := HJ84.out; first | omega | exact Nat.le_refl _⟩, ⟨by (with_reducible repeat (first | refine blk_drewN ?_ _ | refine blk_drew ?_ | refine blk_alloc ?_ _)); exact BK257.out⟩, ⟨by repeat (first | (with_reducible first | exact HB.out | apply below_alloc | apply pw_below_drewN | apply below_drew1 | refine below_set ?_ GE257.out) | exact HB.out)⟩⟩
                            ·rw [if_neg c94] at H
                             exact absurd H (by simp)
                           ·rw [if_neg c93] at H
                            have c93b0 : (((rdOf ByteArray.empty x4_2 4).size : Int) == 5) = false := beq_eq_false_iff_ne.mpr c93
                            have c93b1 : (((rdOf ByteArray.empty x4_2 4).size : Int) != 5) = true := bne_iff_ne.mpr c93
                            (first | rw [c93b0] | (simp only [i64_w, i32_w]; rw [c93b0]) | skip)
                            have H' := Aside0.mk H
                            clear H
                            go_wp2
                            go_meet
                            case rel => exact ⟨_, (true), (by first | rfl | (simp; done) | (simp [*]; done)), H', ⟨by have := HJ2.out; have := HK2.out; have := HJ49.out; have := HJ55.out; have := HJ73.out; have := HJ84.out; first | omega | exact Nat.le_refl _⟩, ⟨by (with_reducible repeat (first | refine blk_drewN ?_ _ | refine blk_drew ?_ | refine blk_alloc ?_ _)); exact BK257.out⟩, ⟨by repeat (first | (with_reducible first | exact HB.out | apply below_alloc | apply pw_below_drewN | apply below_drew1 | refine below_set ?_ GE257.out) | exact HB.out)⟩⟩
                          case rest => as_aux_lemma =>
                           clear HC92
                           try clear c1
                           try clear p1
                           try clear q1
                           try clear hx1
                           try clear qi1
                           try clear c2
                           try clear p2
                           try clear q2
                           try clear hx2
                           try clear qi2
                           try clear c3
                           try clear c4
                           try clear c5
                           try clear c6
                           try clear c6b0
                           try clear c6b1
                           try clear p6
                           try clear c7
                           try clear c7b0
                           try clear c8
                           try clear c8b0
                           try clear c8b1
                           try clear c9
                           try clear p9
                           try clear q9
                           try clear hx9
                           try clear qi9
                           try clear c10
                           try clear p10
                           try clear q10
                           try clear hx10
                           try clear qi10
                           try clear c11
                           try clear c11b0
                           try clear c11b1
                           try clear c11b2
                           try clear c13
                           try clear c13b0
                           try clear c13b1
                           try clear c14
                           try clear c18
                           try clear c18b0
                           try clear c19
                           try clear c19b0
                           try clear c19b1
                           try clear c20
                           try clear q20
                           try clear c21
                           try clear c21b0
                           try clear c21b1
                           try clear c22
                           try clear c22b0
                           try clear c22b1
                           try clear c23
                           try clear c24
                           try clear c24b0
                           try clear c24b1
                           try clear p24
                           try clear q24
                           try clear hx24
                           try clear qi24
                           try clear c25
                           try clear p25
                           try clear q25
                           try clear hx25
                           try clear qi25
                           try clear p26
                           try clear q26
                           try clear hx26
                           try clear qi26
                           try clear p27
                           try clear q27
                           try clear hx27
                           try clear qi27
                           try clear c35
                           try clear c36
                           try clear c37
                           try clear c37b0
                           try clear c38
                           try clear c38b0
                           try clear c38b1
                           try clear c42
                           try clear c42b0
                           try clear c42b1
                           try clear c48
                           try clear c48b0
                           try clear c48b1
                           try clear c53
                           try clear c53b0
                           try clear c53b1
                           try clear c54
                           try clear c57
                           try clear c57b0
                           try clear c57b1
                           try clear c58
                           try clear c58b0
                           try clear c61
                           try clear c61b0
                           try clear p64
                           try clear c67
                           try clear c68
                           try clear c68b0
                           try clear c68b1
                           try clear c70
                           try clear c70b0
                           try clear c70b1
                           try clear c72
                           try clear c72b0
                           try clear c72b1
                           try clear c77
                           try clear c77b0
                           try clear c79
                           try clear c79b0
                           try clear c82
                           try clear c83
                           try clear c83b0
                           try clear c83b1
                           try clear c87
                           try clear c87b0
                           try clear c87b1
                           try clear c88
                           try clear c88b0
                           try clear c88b1
                           try clear c89
                           try clear c89b0
                           try clear c89b1
                           try clear c91
                           try clear c93
                           try clear c93b0
                           try clear c93b1
                           try clear c94
                           try clear c94b0
                           try clear c94b1
                           try clear p95
                           try clear q95
                           try clear hx95
                           try clear qi95
                           try clear c96
                           try clear c96b0
                           try clear c96b1
                           try clear c97
                           try clear c97b0
                           try clear c97b1
                           try clear c99
                           try clear c99b0
                           try clear c100
                           try clear c100b0
                           try clear c100b1
                           try clear p102
                           try clear q102
                           try clear hx102
                           try clear qi102
                           try clear c103
                           try clear c103b0
                           try clear c103b1
                           try clear c104
                           try clear c104b0
                           try clear c104b1
                           try clear c106
                           try clear c106b0
                           try clear c107
                           try clear c107b0
                           try clear c107b1
                           try clear hcz45_0
                           try clear hcz45_1
                           try clear hcz45_2
                           try clear hcz45_3
                           try clear hcz45_4
                           try clear hcz45_5
                           try clear hcz45_6
                           try clear hcz60_0
                           try clear hcz60_1
                           try clear hcz60_2
                           try clear hcz60_3
                           try clear hcz60_4
                           try clear hcz60_5
                           try clear hcz60_6
                           try clear hcz63_0
                           try clear hcz63_1
                           try clear hcz63_2
                           try clear hcz63_3
                           try clear hcz63_4
                           try clear hcz63_5
                           try clear hcz63_6
                           try clear hcz65_0
                           try clear hcz65_1
                           try clear hcz65_2
                           try clear hcz65_3
                           try clear hcz65_4
                           try clear hcz65_5
                           try clear hcz65_6
                           try clear hcz76_0
                           try clear hcz76_1
                           try clear hcz76_2
                           try clear hcz76_3
                           try clear hcz76_4
                           try clear hcz76_5
                           try clear hcz76_6
                           try clear hcz78_0
                           try clear hcz78_1
                           try clear hcz78_2
                           try clear hcz78_3
                           try clear hcz78_4
                           try clear hcz78_5
                           try clear hcz78_6
                           try clear hcz80_0
                           try clear hcz80_1
                           try clear hcz80_2
                           try clear hcz80_3
                           try clear hcz80_4
                           try clear hcz80_5
                           try clear hcz80_6
                           try clear hcz81_0
                           try clear hcz81_1
                           try clear hcz81_2
                           try clear hcz81_3
                           try clear hcz81_4
                           try clear hcz81_5
                           try clear hcz81_6
                           try clear hfz45_0
                           try clear hfz45_1
                           try clear hfz45_2
                           try clear hfz45_3
                           try clear hfz45_4
                           try clear hfz45_5
                           try clear hfz45_6
                           try clear hfz60_0
                           try clear hfz60_1
                           try clear hfz60_2
                           try clear hfz60_3
                           try clear hfz60_4
                           try clear hfz60_5
                           try clear hfz60_6
                           try clear hfz63_0
                           try clear hfz63_1
                           try clear hfz63_2
                           try clear hfz63_3
                           try clear hfz63_4
                           try clear hfz63_5
                           try clear hfz63_6
                           try clear hfz65_0
                           try clear hfz65_1
                           try clear hfz65_2
                           try clear hfz65_3
                           try clear hfz65_4
                           try clear hfz65_5
                           try clear hfz65_6
                           try clear hfz76_0
                           try clear hfz76_1
                           try clear hfz76_2
                           try clear hfz76_3
                           try clear hfz76_4
                           try clear hfz76_5
                           try clear hfz76_6
                           try clear hfz78_0
                           try clear hfz78_1
                           try clear hfz78_2
                           try clear hfz78_3
                           try clear hfz78_4
                           try clear hfz78_5
                           try clear hfz78_6
                           try clear hfz80_0
                           try clear hfz80_1
                           try clear hfz80_2
                           try clear hfz80_3
                           try clear hfz80_4
                           try clear hfz80_5
                           try clear hfz80_6
                           try clear hfz81_0
                           try clear hfz81_1
                           try clear hfz81_2
                           try clear hfz81_3
                           try clear hfz81_4
                           try clear hfz81_5
                           try clear hfz81_6
                           try clear hx249_0
                           try clear hx253_0
                           try clear hx255_0
                           try clear hx258_0
                           try clear hx262_0
                           try clear hx269_0
                           try clear hx271_0
                           try clear hx273_0
                           try clear hx275_0
                           try clear p102
                           try clear p2
                           try clear p24
                           try clear p249
                           try clear p25
                           try clear p253
                           try clear p255
                           try clear p258
                           try clear p26
                           try clear p262
                           try clear p269
                           try clear p27
                           try clear p271
                           try clear p273
                           try clear p275
                           try clear p6
                           try clear p64
                           try clear p95
                           try clear q102
                           try clear q2
                           try clear q20
                           try clear q24
                           try clear q249
                           try clear q25
                           try clear q253
                           try clear q255
                           try clear q258
                           try clear q26
                           try clear q262
                           try clear q269
                           try clear q27
                           try clear q271
                           try clear q273
                           try clear q275
                           try clear q95
                           obtain ⟨kq, x163_91, rfl, HA, HJ91, BK257, HB⟩ := hcut
                           cases kq with
                           | zero => exact absurd HA.out (by simp [bulletinref22_Read.j7])
                           | succ kj91 =>
                            have H := HA.out
                            clear HA
                            simp only [bulletinref22_Read.j7] at H
                            by_cases c109 : x163_91 = true
                            ·subst c109
                             have H1 : (some (0, 3)) = some (r1, r2) := by rw [if_pos rfl] at H; exact H
                             clear H
                             have H := H1
                             clear H1
                             simp only [Option.some.injEq, Prod.mk.injEq] at H
                             obtain ⟨rfl, rfl⟩ := H
                             go_wp2
                             go_ret2
                             exact ⟨by first | rfl | (simp [errW_none, errW_some] <;> rfl) | (simp [*, errW_none, errW_some] <;> rfl), by repeat (first | (with_reducible first | exact HB.out | apply below_alloc | apply pw_below_drewN | apply below_drew1 | refine below_set ?_ GE257.out) | exact HB.out)⟩
                            ·replace c109 := Bool.eq_false_iff.mpr c109
                             subst c109
                             have H1 : (if 1 ≤ 3 then (if 3 ≤ ((rdOf ByteArray.empty x4_2 4).size : Int) then ((bulletinref22_digits.f kj91 ((rdOf ByteArray.empty x4_2 4).extract 1 3) 2 2).bind fun t281 => ((bulletinref22_digits.f kj91 ((rdOf ByteArray.empty x4_2 4).extract 3 (rdOf ByteArray.empty x4_2 4).size) 2 2).bind fun t282 => (if 0 < ((rdOf ByteArray.empty x4_2 4).size : Int) then (if (bt (rdOf ByteArray.empty x4_2 4) 0) = 45 then (bulletinref22_Read.j8 kj91 x5_2 (wrap64 (-(wrap64 ((wrap64 (3600 * t281)) + (wrap64 (60 * t282)))))) t256 x258001_2 t254 t270 t272 t274 0) else (bulletinref22_Read.j8 kj91 x5_2 (wrap64 ((wrap64 (3600 * t281)) + (wrap64 (60 * t282)))) t256 x258001_2 t254 t270 t272 t274 0)) else (none)))) else (none)) else (none)) = some (r1, r2) := by rw [if_neg (show ¬ (false = true) by decide)] at H; exact H
                             clear H
                             have H := H1
                             clear H1
                             by_cases c110 : 1 ≤ 3
                             ·rw [if_pos c110] at H
                              have c110b0 := eq_true c110
                              have c110b1 : decide (1 ≤ 3) = true := decide_eq_true c110
                              clear c110
                              by_cases c111 : 3 ≤ ((rdOf ByteArray.empty x4_2 4).size : Int)
                              ·rw [if_pos c111] at H
                               have c111b0 := eq_true c111
                               have c111b1 : decide (3 ≤ ((rdOf ByteArray.empty x4_2 4).size : Int)) = true := decide_eq_true c111
                               clear c111
                               replace H := Option.bind_eq_some_iff.mp H
                               obtain ⟨t281, A1120, H⟩ := H
                               replace H : ((bulletinref22_digits.f kj91 ((rdOf ByteArray.empty x4_2 4).extract 3 (rdOf ByteArray.empty x4_2 4).size) 2 2).bind fun t282 => (if 0 < ((rdOf ByteArray.empty x4_2 4).size : Int) then (if (bt (rdOf ByteArray.empty x4_2 4) 0) = 45 then (bulletinref22_Read.j8 kj91 x5_2 (wrap64 (-(wrap64 ((wrap64 (3600 * t281)) + (wrap64 (60 * t282)))))) t256 x258001_2 t254 t270 t272 t274 0) else (bulletinref22_Read.j8 kj91 x5_2 (wrap64 ((wrap64 (3600 * t281)) + (wrap64 (60 * t282)))) t256 x258001_2 t254 t270 t272 t274 0)) else (none))) = some (r1, r2) := H
                               have A112 := Aside0.mk A1120
                               clear A1120
                               have c113b0 := eq_true (of_decide_eq_true (by first | (with_reducible assumption) | assumption) : 3 ≤ ((rdOf ByteArray.empty x4_2 4).size : Int))
                               replace H := Option.bind_eq_some_iff.mp H
                               obtain ⟨t282, A1140, H⟩ := H
                               replace H : (if 0 < ((rdOf ByteArray.empty x4_2 4).size : Int) then (if (bt (rdOf ByteArray.empty x4_2 4) 0) = 45 then (bulletinref22_Read.j8 kj91 x5_2 (wrap64 (-(wrap64 ((wrap64 (3600 * t281)) + (wrap64 (60 * t282)))))) t256 x258001_2 t254 t270 t272 t274 0) else (bulletinref22_Read.j8 kj91 x5_2 (wrap64 ((wrap64 (3600 * t281)) + (wrap64 (60 * t282)))) t256 x258001_2 t254 t270 t272 t274 0)) else (none)) = some (r1, r2) := H
                               have A114 := Aside0.mk A1140
                               clear A1140
                               by_cases c115 : 0 < ((rdOf ByteArray.empty x4_2 4).size : Int)
                               ·rw [if_pos c115] at H
                                have c115b0 : decide (0 < ((rdOf ByteArray.empty x4_2 4).size : Int)) = true := decide_eq_true c115
                                have c115b1 : decide (0 < (rdOf ByteArray.empty x4_2 4).size) = true := decide_eq_true (by omega)
                                clear c115
                                by_cases c117 : (bt (rdOf ByteArray.empty x4_2 4) 0) = 45
                                ·rw [if_pos c117] at H
                                 have c117b0 : ((bt (rdOf ByteArray.empty x4_2 4) 0) == 45) = true := beq_iff_eq.mpr c117
                                 have c117b1 : ((bt (rdOf ByteArray.empty x4_2 4) 0) != 45) = false := bne_eq_false_iff_eq.mpr c117
                                 clear c117
                                 have H' := Aside0.mk H
                                 clear H
                                 try go_wp2
                                 have n0_ := Aside0.mk (blk_drew BK257.out)
                                 have n1_ := Aside0.mk (below_drew1 HB.out)
                                 clear BK257
                                 clear HB
                                 have BK257 := n0_
                                 have HB := n1_
                                 clear n0_ n1_
                                 refine start_ (n := 10) (S := fun w' => True) (ds := []) #[ff,ff,ff,ff,ff,ff,ff,ff,ff,ff] (by kernel_rfl) rfl rfl trivial (fun hHeld => ?_); refine with_tabW bulletinref22_Read.tab36 bulletinref22_Read.bits36 (fun HT_ HW_ => ?_)
                                 generalize wc.drew = w118 at BK257 HB hHeld ⊢
                                 refine pure_ (i := 0) (N := some 164) (v := ?_) (a' := ?_) #[tt,ff,ff,ff,ff,ff,ff,ff,ff,ff] rfl rfl (any_of HT_.out (by kernel_rfl)) (fun _ _ _ h => h) (Or.inl ⟨by rfl, ?_⟩) ?_ ?_
                                 rotate_left
                                 ·intro w'
                                  go_simp
                                  with_reducible rfl
                                 rotate_left
                                 ·simp only [Act.put, List.setIfInBounds_toArray, List.set_cons_zero, List.set_cons_succ, i64_w, i32_w]
                                  rfl
                                 refine pure_ (i := 1) (N := some 165) (v := ?_) (a' := ?_) #[tt,tt,ff,ff,ff,ff,ff,ff,ff,ff] rfl rfl (any_of HT_.out (by kernel_rfl)) (fun _ _ _ h => h) (Or.inl ⟨by rfl, ?_⟩) ?_ ?_
                                 rotate_left
                                 ·intro w'
                                  go_simp
                                  with_reducible rfl
                                 rotate_left
                                 ·simp only [Act.put, List.setIfInBounds_toArray, List.set_cons_zero, List.set_cons_succ, i64_w, i32_w]
                                  rfl
                                 refine pure_ (i := 4) (N := some 168) (v := ?_) (a' := ?_) #[tt,tt,ff,ff,tt,ff,ff,ff,ff,ff] rfl rfl (any_of HT_.out (by kernel_rfl)) (fun _ _ _ h => h) (Or.inl ⟨by rfl, ?_⟩) ?_ ?_
                                 rotate_left
                                 ·intro w'
                                  go_simp
                                  with_reducible rfl
                                 rotate_left
                                 ·simp only [Act.put, List.setIfInBounds_toArray, List.set_cons_zero, List.set_cons_succ, i64_w, i32_w]
                                  rfl
                                 refine pure_ (i := 5) (N := some 169) (v := ?_) (a' := ?_) #[tt,tt,ff,ff,tt,tt,ff,ff,ff,ff] rfl rfl (any_of HT_.out (by kernel_rfl)) (fun _ _ _ h => h) (Or.inl ⟨by rfl, ?_⟩) ?_ ?_
                                 rotate_left
                                 ·intro w'
                                  go_simp
                                  with_reducible rfl
                                 rotate_left
                                 ·simp only [Act.put, List.setIfInBounds_toArray, List.set_cons_zero, List.set_cons_succ, i64_w, i32_w]
                                  rfl
                                 refine one_ (i := 2) (N := some 166) #[tt,tt,tt,ff,tt,tt,ff,ff,ff,ff] rfl rfl (one_of HT_.out (by kernel_rfl)) (by decide) (fun K hK => ?_)
                                 refine goes_ Tryd.func37 (by kernel_rfl) rfl #[.string ((rdOf ByteArray.empty x4_2 4).extract 1 3), .int .i64 2, .int .i64 2] (by rfl) rfl rfl (by (try simp only [List.map_toArray, List.map_cons, List.map_nil]); first | done | rfl | (simp only [List.length_drop, List.length_take]; rfl)) ?_
                                 with_reducible refine (bulletinref22_digits.calls kj91 ((rdOf ByteArray.empty x4_2 4).extract 1 3) 2 2 t281 _ A112.out).mono ?_
                                 rintro e w' ⟨rfl, ⟨nd, rfl⟩⟩
                                 refine ⟨_, rfl, ?_⟩
                                 refine hK.out _ _ trivial (fun hHeld => ?_)
                                 clear hK K
                                 refine norm_ (a' := ?_) ?_ ?_
                                 rotate_left
                                 ·show Act.put _ (some 166) _ = _
                                  simp only [Act.put, List.setIfInBounds_toArray, List.set_cons_zero, List.set_cons_succ, i64_w, i32_w]
                                  rfl
                                 refine pure_ (i := 3) (N := some 167) (v := ?_) (a' := ?_) #[tt,tt,tt,tt,tt,tt,ff,ff,ff,ff] rfl rfl (any_of HT_.out (by kernel_rfl)) (fun _ _ _ h => h) (Or.inl ⟨by rfl, ?_⟩) ?_ ?_
                                 rotate_left
                                 ·intro w'
                                  go_simp
                                  with_reducible rfl
                                 rotate_left
                                 ·simp only [Act.put, List.setIfInBounds_toArray, List.set_cons_zero, List.set_cons_succ, i64_w, i32_w]
                                  rfl
                                 refine one_ (i := 6) (N := some 170) #[tt,tt,tt,tt,tt,tt,tt,ff,ff,ff] rfl rfl (one_of HT_.out (by kernel_rfl)) (by decide) (fun K hK => ?_)
                                 refine goes_ Tryd.func37 (by kernel_rfl) rfl #[.string ((rdOf ByteArray.empty x4_2 4).extract 3 (rdOf ByteArray.empty x4_2 4).size), .int .i64 2, .int .i64 2] (by rfl) rfl rfl (by (try simp only [List.map_toArray, List.map_cons, List.map_nil]); first | done | rfl | (simp only [List.length_drop, List.length_take]; rfl)) ?_
                                 with_reducible refine (bulletinref22_digits.calls kj91 ((rdOf ByteArray.empty x4_2 4).extract 3 (rdOf ByteArray.empty x4_2 4).size) 2 2 t282 _ A114.out).mono ?_
                                 rintro e w' ⟨rfl, ⟨nd, rfl⟩⟩
                                 refine ⟨_, rfl, ?_⟩
                                 refine hK.out _ _ trivial (fun hHeld => ?_)
                                 clear hK K
                                 refine norm_ (a' := ?_) ?_ ?_
                                 rotate_left
                                 ·show Act.put _ (some 170) _ = _
                                  simp only [Act.put, List.setIfInBounds_toArray, List.set_cons_zero, List.set_cons_succ, i64_w, i32_w]
                                  rfl
                                 refine pure_ (i := 7) (N := some 171) (v := ?_) (a' := ?_) #[tt,tt,tt,tt,tt,tt,tt,tt,ff,ff] rfl rfl (any_of HT_.out (by kernel_rfl)) (fun _ _ _ h => h) (Or.inl ⟨by rfl, ?_⟩) ?_ ?_
                                 rotate_left
                                 ·intro w'
                                  go_simp
                                  with_reducible rfl
                                 rotate_left
                                 ·simp only [Act.put, List.setIfInBounds_toArray, List.set_cons_zero, List.set_cons_succ, i64_w, i32_w]
                                  rfl
                                 refine pure_ (i := 8) (N := some 172) (v := ?_) (a' := ?_) #[tt,tt,tt,tt,tt,tt,tt,tt,tt,ff] rfl rfl (any_of HT_.out (by kernel_rfl)) (fun _ _ _ h => h) (Or.inl ⟨by rfl, ?_⟩) ?_ ?_
                                 rotate_left
                                 ·intro w'
                                  go_simp
                                  with_reducible rfl
                                 rotate_left
                                 ·simp only [Act.put, List.setIfInBounds_toArray, List.set_cons_zero, List.set_cons_succ, i64_w, i32_w]
                                  rfl
                                 refine pure_ (i := 9) (N := some 12) (v := ?_) (a' := ?_) #[tt,tt,tt,tt,tt,tt,tt,tt,tt,tt] rfl rfl (any_of HT_.out (by kernel_rfl)) (fun _ _ _ h => h) (Or.inl ⟨by rfl, ?_⟩) ?_ ?_
                                 rotate_left
                                 ·intro w'
                                  go_simp
                                  with_reducible rfl
                                 rotate_left
                                 ·simp only [Act.put, List.setIfInBounds_toArray, List.set_cons_zero, List.set_cons_succ, i64_w, i32_w]
                                  rfl
                                 refine done_ (done_of HT_.out (by kernel_rfl)) ?_
                                 have p116 : 0 ≤ (0 : Int) := (by omega)
                                 have q116 : 0 < (rdOf ByteArray.empty x4_2 4).size := (by have : (0 : Int) < ((rdOf ByteArray.empty x4_2 4).size : Int) := of_decide_eq_true (by first | (with_reducible assumption) | assumption); omega)
                                 have hx116 : ∀ h : 0 < (rdOf ByteArray.empty x4_2 4).size, (((rdOf ByteArray.empty x4_2 4)[0]'h).toNat : Int) = bt (rdOf ByteArray.empty x4_2 4) 0 := bt_at (rdOf ByteArray.empty x4_2 4) 0
                                 clear p116
                                 have qi116 : (0 < ((rdOf ByteArray.empty x4_2 4).size : Int)) = True := eq_true (of_decide_eq_true (by first | (with_reducible assumption) | assumption))
                                 replace q116 := eq_true q116
                                 try go_wp2
                                 go_meet
                                 case rel => exact ⟨_, (wrap64 (-(wrap64 ((wrap64 (3600 * t281)) + (wrap64 (60 * t282)))))), (by first | rfl | (simp; done) | (simp [*]; done)), H', ⟨by have := HJ2.out; have := HK2.out; have := HJ49.out; have := HJ55.out; have := HJ73.out; have := HJ84.out; have := HJ91.out; first | omega | exact Nat.le_refl _⟩, ⟨by (with_reducible repeat (first | refine blk_drewN ?_ _ | refine blk_drew ?_ | refine blk_alloc ?_ _)); exact BK257.out⟩, ⟨by repeat (first | (with_reducible first | exact HB.out | apply below_alloc | apply pw_below_drewN | apply below_drew1 | refine below_set ?_ GE257.out) | exact HB.out)⟩⟩
                                ·rw [if_neg c117] at H
                                 have c117b0 : ((bt (rdOf ByteArray.empty x4_2 4) 0) == 45) = false := beq_eq_false_iff_ne.mpr c117
                                 have c117b1 : ((bt (rdOf ByteArray.empty x4_2 4) 0) != 45) = true := bne_iff_ne.mpr c117
                                 have H' := Aside0.mk H
                                 clear H
                                 try go_wp2
                                 have n0_ := Aside0.mk (blk_drew BK257.out)
                                 have n1_ := Aside0.mk (below_drew1 HB.out)
                                 clear BK257
                                 clear HB
                                 have BK257 := n0_
                                 have HB := n1_
                                 clear n0_ n1_
                                 refine start_ (n := 10) (S := fun w' => True) (ds := []) #[ff,ff,ff,ff,ff,ff,ff,ff,ff,ff] (by kernel_rfl) rfl rfl trivial (fun hHeld => ?_); refine with_tabW bulletinref22_Read.tab36 bulletinref22_Read.bits36 (fun HT_ HW_ => ?_)
                                 generalize wc.drew = w119 at BK257 HB hHeld ⊢
                                 refine pure_ (i := 0) (N := some 164) (v := ?_) (a' := ?_) #[tt,ff,ff,ff,ff,ff,ff,ff,ff,ff] rfl rfl (any_of HT_.out (by kernel_rfl)) (fun _ _ _ h => h) (Or.inl ⟨by rfl, ?_⟩) ?_ ?_
                                 rotate_left
                                 ·intro w'
                                  go_simp
                                  with_reducible rfl
                                 rotate_left
                                 ·simp only [Act.put, List.setIfInBounds_toArray, List.set_cons_zero, List.set_cons_succ, i64_w, i32_w]
                                  rfl
                                 refine pure_ (i := 1) (N := some 165) (v := ?_) (a' := ?_) #[tt,tt,ff,ff,ff,ff,ff,ff,ff,ff] rfl rfl (any_of HT_.out (by kernel_rfl)) (fun _ _ _ h => h) (Or.inl ⟨by rfl, ?_⟩) ?_ ?_
                                 rotate_left
                                 ·intro w'
                                  go_simp
                                  with_reducible rfl
                                 rotate_left
                                 ·simp only [Act.put, List.setIfInBounds_toArray, List.set_cons_zero, List.set_cons_succ, i64_w, i32_w]
                                  rfl
                                 refine pure_ (i := 4) (N := some 168) (v := ?_) (a' := ?_) #[tt,tt,ff,ff,tt,ff,ff,ff,ff,ff] rfl rfl (any_of HT_.out (by kernel_rfl)) (fun _ _ _ h => h) (Or.inl ⟨by rfl, ?_⟩) ?_ ?_
                                 rotate_left
                                 ·intro w'
                                  go_simp
                                  with_reducible rfl
                                 rotate_left
                                 ·simp only [Act.put, List.setIfInBounds_toArray, List.set_cons_zero, List.set_cons_succ, i64_w, i32_w]
                                  rfl
                                 refine pure_ (i := 5) (N := some 169) (v := ?_) (a' := ?_) #[tt,tt,ff,ff,tt,tt,ff,ff,ff,ff] rfl rfl (any_of HT_.out (by kernel_rfl)) (fun _ _ _ h => h) (Or.inl ⟨by rfl, ?_⟩) ?_ ?_
                                 rotate_left
                                 ·intro w'
                                  go_simp
                                  with_reducible rfl
                                 rotate_left
                                 ·simp only [Act.put, List.setIfInBounds_toArray, List.set_cons_zero, List.set_cons_succ, i64_w, i32_w]
                                  rfl
                                 refine one_ (i := 2) (N := some 166) #[tt,tt,tt,ff,tt,tt,ff,ff,ff,ff] rfl rfl (one_of HT_.out (by kernel_rfl)) (by decide) (fun K hK => ?_)
                                 refine goes_ Tryd.func37 (by kernel_rfl) rfl #[.string ((rdOf ByteArray.empty x4_2 4).extract 1 3), .int .i64 2, .int .i64 2] (by rfl) rfl rfl (by (try simp only [List.map_toArray, List.map_cons, List.map_nil]); first | done | rfl | (simp only [List.length_drop, List.length_take]; rfl)) ?_
                                 with_reducible refine (bulletinref22_digits.calls kj91 ((rdOf ByteArray.empty x4_2 4).extract 1 3) 2 2 t281 _ A112.out).mono ?_
                                 rintro e w' ⟨rfl, ⟨nd, rfl⟩⟩
                                 refine ⟨_, rfl, ?_⟩
                                 refine hK.out _ _ trivial (fun hHeld => ?_)
                                 clear hK K
                                 refine norm_ (a' := ?_) ?_ ?_
                                 rotate_left
                                 ·show Act.put _ (some 166) _ = _
                                  simp only [Act.put, List.setIfInBounds_toArray, List.set_cons_zero, List.set_cons_succ, i64_w, i32_w]
                                  rfl
                                 refine pure_ (i := 3) (N := some 167) (v := ?_) (a' := ?_) #[tt,tt,tt,tt,tt,tt,ff,ff,ff,ff] rfl rfl (any_of HT_.out (by kernel_rfl)) (fun _ _ _ h => h) (Or.inl ⟨by rfl, ?_⟩) ?_ ?_
                                 rotate_left
                                 ·intro w'
                                  go_simp
                                  with_reducible rfl
                                 rotate_left
                                 ·simp only [Act.put, List.setIfInBounds_toArray, List.set_cons_zero, List.set_cons_succ, i64_w, i32_w]
                                  rfl
                                 refine one_ (i := 6) (N := some 170) #[tt,tt,tt,tt,tt,tt,tt,ff,ff,ff] rfl rfl (one_of HT_.out (by kernel_rfl)) (by decide) (fun K hK => ?_)
                                 refine goes_ Tryd.func37 (by kernel_rfl) rfl #[.string ((rdOf ByteArray.empty x4_2 4).extract 3 (rdOf ByteArray.empty x4_2 4).size), .int .i64 2, .int .i64 2] (by rfl) rfl rfl (by (try simp only [List.map_toArray, List.map_cons, List.map_nil]); first | done | rfl | (simp only [List.length_drop, List.length_take]; rfl)) ?_
                                 with_reducible refine (bulletinref22_digits.calls kj91 ((rdOf ByteArray.empty x4_2 4).extract 3 (rdOf ByteArray.empty x4_2 4).size) 2 2 t282 _ A114.out).mono ?_
                                 rintro e w' ⟨rfl, ⟨nd, rfl⟩⟩
                                 refine ⟨_, rfl, ?_⟩
                                 refine hK.out _ _ trivial (fun hHeld => ?_)
                                 clear hK K
                                 refine norm_ (a' := ?_) ?_ ?_
                                 rotate_left
                                 ·show Act.put _ (some 170) _ = _
                                  simp only [Act.put, List.setIfInBounds_toArray, List.set_cons_zero, List.set_cons_succ, i64_w, i32_w]
                                  rfl
                                 refine pure_ (i := 7) (N := some 171) (v := ?_) (a' := ?_) #[tt,tt,tt,tt,tt,tt,tt,tt,ff,ff] rfl rfl (any_of HT_.out (by kernel_rfl)) (fun _ _ _ h => h) (Or.inl ⟨by rfl, ?_⟩) ?_ ?_
                                 rotate_left
                                 ·intro w'
                                  go_simp
                                  with_reducible rfl
                                 rotate_left
                                 ·simp only [Act.put, List.setIfInBounds_toArray, List.set_cons_zero, List.set_cons_succ, i64_w, i32_w]
                                  rfl
                                 refine pure_ (i := 8) (N := some 172) (v := ?_) (a' := ?_) #[tt,tt,tt,tt,tt,tt,tt,tt,tt,ff] rfl rfl (any_of HT_.out (by kernel_rfl)) (fun _ _ _ h => h) (Or.inl ⟨by rfl, ?_⟩) ?_ ?_
                                 rotate_left
                                 ·intro w'
                                  go_simp
                                  with_reducible rfl
                                 rotate_left
                                 ·simp only [Act.put, List.setIfInBounds_toArray, List.set_cons_zero, List.set_cons_succ, i64_w, i32_w]
                                  rfl
                                 refine pure_ (i := 9) (N := some 12) (v := ?_) (a' := ?_) #[tt,tt,tt,tt,tt,tt,tt,tt,tt,tt] rfl rfl (any_of HT_.out (by kernel_rfl)) (fun _ _ _ h => h) (Or.inl ⟨by rfl, ?_⟩) ?_ ?_
                                 rotate_left
                                 ·intro w'
                                  go_simp
                                  with_reducible rfl
                                 rotate_left
                                 ·simp only [Act.put, List.setIfInBounds_toArray, List.set_cons_zero, List.set_cons_succ, i64_w, i32_w]
                                  rfl
                                 refine done_ (done_of HT_.out (by kernel_rfl)) ?_
                                 have p116 : 0 ≤ (0 : Int) := (by omega)
                                 have q116 : 0 < (rdOf ByteArray.empty x4_2 4).size := (by have : (0 : Int) < ((rdOf ByteArray.empty x4_2 4).size : Int) := of_decide_eq_true (by first | (with_reducible assumption) | assumption); omega)
                                 have hx116 : ∀ h : 0 < (rdOf ByteArray.empty x4_2 4).size, (((rdOf ByteArray.empty x4_2 4)[0]'h).toNat : Int) = bt (rdOf ByteArray.empty x4_2 4) 0 := bt_at (rdOf ByteArray.empty x4_2 4) 0
                                 clear p116
                                 have qi116 : (0 < ((rdOf ByteArray.empty x4_2 4).size : Int)) = True := eq_true (of_decide_eq_true (by first | (with_reducible assumption) | assumption))
                                 replace q116 := eq_true q116
                                 try go_wp2
                                 go_meet
                                 case rel => exact ⟨_, (wrap64 ((wrap64 (3600 * t281)) + (wrap64 (60 * t282)))), (by first | rfl | (simp; done) | (simp [*]; done)), H', ⟨by have := HJ2.out; have := HK2.out; have := HJ49.out; have := HJ55.out; have := HJ73.out; have := HJ84.out; have := HJ91.out; first | omega | exact Nat.le_refl _⟩, ⟨by (with_reducible repeat (first | refine blk_drewN ?_ _ | refine blk_drew ?_ | refine blk_alloc ?_ _)); exact BK257.out⟩, ⟨by repeat (first | (with_reducible first | exact HB.out | apply below_alloc | apply pw_below_drewN | apply below_drew1 | refine below_set ?_ GE257.out) | exact HB.out)⟩⟩
                               ·rw [if_neg c115] at H
                                exact absurd H (by simp)
                              ·rw [if_neg c111] at H
                               exact absurd H (by simp)
                             ·rw [if_neg c110] at H
                              exact absurd H (by simp)
                         ·replace c91 := Bool.eq_false_iff.mpr c91
                          subst c91
                          have H1 : (bulletinref22_Read.j8 kj84 x5_2 0 t256 x258001_2 t254 t270 t272 t274 0) = some (r1, r2) := by rw [if_neg (show ¬ (false = true) by decide)] at H; exact H
                          clear H
                          have H := H1
                          clear H1
                          have H' := Aside0.mk H
                          clear H
                          go_wp2
                          go_meet
                          case rel => exact ⟨_, (0), (by first | rfl | (simp; done) | (simp [*]; done)), H', ⟨by have := HJ2.out; have := HK2.out; have := HJ49.out; have := HJ55.out; have := HJ73.out; have := HJ84.out; first | omega | exact Nat.le_refl _⟩, ⟨by (with_reducible repeat (first | refine blk_drewN ?_ _ | refine blk_drew ?_ | refine blk_alloc ?_ _)); exact BK257.out⟩, ⟨by repeat (first | (with_reducible first | exact HB.out | apply below_alloc | apply pw_below_drewN | apply below_drew1 | refine below_set ?_ GE257.out) | exact HB.out)⟩⟩
                        case rest => as_aux_lemma =>
                         clear HC90
                         try clear c1
                         try clear p1
                         try clear q1
                         try clear hx1
                         try clear qi1
                         try clear c2
                         try clear p2
                         try clear q2
                         try clear hx2
                         try clear qi2
                         try clear c3
                         try clear c4
                         try clear c5
                         try clear c6
                         try clear p6
                         try clear c7
                         try clear c7b0
                         try clear c8
                         try clear c8b0
                         try clear c8b1
                         try clear c9
                         try clear p9
                         try clear q9
                         try clear hx9
                         try clear qi9
                         try clear c10
                         try clear p10
                         try clear q10
                         try clear hx10
                         try clear qi10
                         try clear c11
                         try clear c11b0
                         try clear c11b1
                         try clear c11b2
                         try clear p11
                         try clear q11
                         try clear hx11
                         try clear qi11
                         try clear c13
                         try clear c13b0
                         try clear c13b1
                         try clear c14
                         try clear c18
                         try clear c18b0
                         try clear c19
                         try clear c19b0
                         try clear c19b1
                         try clear c20
                         try clear q20
                         try clear c21
                         try clear c21b0
                         try clear c21b1
                         try clear c22
                         try clear c22b0
                         try clear c22b1
                         try clear c23
                         try clear c24
                         try clear c24b0
                         try clear c24b1
                         try clear p24
                         try clear q24
                         try clear hx24
                         try clear qi24
                         try clear c25
                         try clear p25
                         try clear q25
                         try clear hx25
                         try clear qi25
                         try clear p26
                         try clear q26
                         try clear hx26
                         try clear qi26
                         try clear p27
                         try clear q27
                         try clear hx27
                         try clear qi27
                         try clear c35
                         try clear c36
                         try clear c37
                         try clear c37b0
                         try clear c38
                         try clear c38b0
                         try clear c38b1
                         try clear c42
                         try clear c42b0
                         try clear c42b1
                         try clear c48
                         try clear c48b0
                         try clear c48b1
                         try clear c53
                         try clear c53b0
                         try clear c53b1
                         try clear c54
                         try clear c57
                         try clear c57b0
                         try clear c57b1
                         try clear c58
                         try clear c58b0
                         try clear c61
                         try clear c61b0
                         try clear p64
                         try clear c67
                         try clear c68
                         try clear c68b0
                         try clear c68b1
                         try clear c70
                         try clear c70b0
                         try clear c70b1
                         try clear c72
                         try clear c72b0
                         try clear c72b1
                         try clear c77
                         try clear c77b0
                         try clear c79
                         try clear c79b0
                         try clear c82
                         try clear c83
                         try clear c83b0
                         try clear c83b1
                         try clear c87
                         try clear c87b0
                         try clear c87b1
                         try clear c88
                         try clear c88b0
                         try clear c88b1
                         try clear c89
                         try clear c89b0
                         try clear c89b1
                         try clear c91
                         try clear c93
                         try clear c93b0
                         try clear c93b1
                         try clear c94
                         try clear c94b0
                         try clear c94b1
                         try clear p95
                         try clear q95
                         try clear hx95
                         try clear qi95
                         try clear c96
                         try clear c96b0
                         try clear c96b1
                         try clear c97
                         try clear c97b0
                         try clear c97b1
                         try clear c99
                         try clear c99b0
                         try clear c100
                         try clear c100b0
                         try clear c100b1
                         try clear p102
                         try clear q102
                         try clear hx102
                         try clear qi102
                         try clear c103
                         try clear c103b0
                         try clear c103b1
                         try clear c104
                         try clear c104b0
                         try clear c104b1
                         try clear c106
                         try clear c106b0
                         try clear c107
                         try clear c107b0
                         try clear c107b1
                         try clear c109
                         try clear c110
                         try clear c110b0
                         try clear c110b1
                         try clear c111
                         try clear c111b0
                         try clear c111b1
                         try clear c113
                         try clear c113b0
                         try clear c115
                         try clear c115b0
                         try clear c115b1
                         try clear p116
                         try clear q116
                         try clear hx116
                         try clear qi116
                         try clear c117
                         try clear c117b0
                         try clear c117b1
                         try clear hcz45_0
                         try clear hcz45_1
                         try clear hcz45_2
                         try clear hcz45_3
                         try clear hcz45_4
                         try clear hcz45_5
                         try clear hcz45_6
                         try clear hcz60_0
                         try clear hcz60_1
                         try clear hcz60_2
                         try clear hcz60_3
                         try clear hcz60_4
                         try clear hcz60_5
                         try clear hcz60_6
                         try clear hcz63_0
                         try clear hcz63_1
                         try clear hcz63_2
                         try clear hcz63_3
                         try clear hcz63_4
                         try clear hcz63_5
                         try clear hcz63_6
                         try clear hcz65_0
                         try clear hcz65_1
                         try clear hcz65_2
                         try clear hcz65_3
                         try clear hcz65_4
                         try clear hcz65_5
                         try clear hcz65_6
                         try clear hcz76_0
                         try clear hcz76_1
                         try clear hcz76_2
                         try clear hcz76_3
                         try clear hcz76_4
                         try clear hcz76_5
                         try clear hcz76_6
                         try clear hcz78_0
                         try clear hcz78_1
                         try clear hcz78_2
                         try clear hcz78_3
                         try clear hcz78_4
                         try clear hcz78_5
                         try clear hcz78_6
                         try clear hcz80_0
                         try clear hcz80_1
                         try clear hcz80_2
                         try clear hcz80_3
                         try clear hcz80_4
                         try clear hcz80_5
                         try clear hcz80_6
                         try clear hcz81_0
                         try clear hcz81_1
                         try clear hcz81_2
                         try clear hcz81_3
                         try clear hcz81_4
                         try clear hcz81_5
                         try clear hcz81_6
                         try clear hfz45_0
                         try clear hfz45_1
                         try clear hfz45_2
                         try clear hfz45_3
                         try clear hfz45_4
                         try clear hfz45_5
                         try clear hfz45_6
                         try clear hfz60_0
                         try clear hfz60_1
                         try clear hfz60_2
                         try clear hfz60_3
                         try clear hfz60_4
                         try clear hfz60_5
                         try clear hfz60_6
                         try clear hfz63_0
                         try clear hfz63_1
                         try clear hfz63_2
                         try clear hfz63_3
                         try clear hfz63_4
                         try clear hfz63_5
                         try clear hfz63_6
                         try clear hfz65_0
                         try clear hfz65_1
                         try clear hfz65_2
                         try clear hfz65_3
                         try clear hfz65_4
                         try clear hfz65_5
                         try clear hfz65_6
                         try clear hfz76_0
                         try clear hfz76_1
                         try clear hfz76_2
                         try clear hfz76_3
                         try clear hfz76_4
                         try clear hfz76_5
                         try clear hfz76_6
                         try clear hfz78_0
                         try clear hfz78_1
                         try clear hfz78_2
                         try clear hfz78_3
                         try clear hfz78_4
                         try clear hfz78_5
                         try clear hfz78_6
                         try clear hfz80_0
                         try clear hfz80_1
                         try clear hfz80_2
                         try clear hfz80_3
                         try clear hfz80_4
                         try clear hfz80_5
                         try clear hfz80_6
                         try clear hfz81_0
                         try clear hfz81_1
                         try clear hfz81_2
                         try clear hfz81_3
                         try clear hfz81_4
                         try clear hfz81_5
                         try clear hfz81_6
                         try clear hx249_0
                         try clear hx253_0
                         try clear hx255_0
                         try clear hx258_0
                         try clear hx262_0
                         try clear hx269_0
                         try clear hx271_0
                         try clear hx273_0
                         try clear hx275_0
                         try clear p10
                         try clear p102
                         try clear p116
                         try clear p2
                         try clear p24
                         try clear p249
                         try clear p25
                         try clear p253
                         try clear p255
                         try clear p258
                         try clear p26
                         try clear p262
                         try clear p269
                         try clear p27
                         try clear p271
                         try clear p273
                         try clear p275
                         try clear p6
                         try clear p64
                         try clear p9
                         try clear p95
                         try clear q10
                         try clear q102
                         try clear q116
                         try clear q2
                         try clear q20
                         try clear q24
                         try clear q249
                         try clear q25
                         try clear q253
                         try clear q255
                         try clear q258
                         try clear q26
                         try clear q262
                         try clear q269
                         try clear q27
                         try clear q271
                         try clear q273
                         try clear q275
                         try clear q9
                         try clear q95
                         obtain ⟨kq, x12_89, rfl, HA, HJ89, BK257, HB⟩ := hcut
                         cases kq with
                         | zero => exact absurd HA.out (by simp [bulletinref22_Read.j8])
                         | succ kj89 =>
                          have H := HA.out
                          clear HA
                          simp only [bulletinref22_Read.j8] at H
                          replace H := Option.bind_eq_some_iff.mp H
                          obtain ⟨⟨t283, t284⟩, A1200, H⟩ := H
                          replace H : (if t284 = 0 then (if x5_2 ≥ 0 then (bulletinref22_Read.j9 kj89 x12_89 t283 ((Int.tmod (wrap64 ((wrap64 (Int.tdiv t283 86400)) + 4)) 7) != x5_2)) else (bulletinref22_Read.j9 kj89 x12_89 t283 false)) else (some (0, t284))) = some (r1, r2) := H
                          have A120 := Aside0.mk A1200
                          clear A1200
                          by_cases c121 : t284 = 0
                          ·rw [if_pos c121] at H
                           have c121b0 : (t284 == 0) = true := beq_iff_eq.mpr c121
                           have c121b1 : (t284 != 0) = false := bne_eq_false_iff_eq.mpr c121
                           clear c121
                           have HC122 := Aside0.mk H
                           clear H
                           have hcz123_0 : wc.cell? ⟨gb257, 0, none⟩ = some (.int .i64 t256) := (blk_cell BK257.out 0).trans rfl
                           have hcz123_1 : wc.cell? ⟨gb257, 1, none⟩ = some (.int .i64 x258001_2) := (blk_cell BK257.out 1).trans rfl
                           have hcz123_2 : wc.cell? ⟨gb257, 2, none⟩ = some (.int .i64 t254) := (blk_cell BK257.out 2).trans rfl
                           have hcz123_3 : wc.cell? ⟨gb257, 3, none⟩ = some (.int .i64 t270) := (blk_cell BK257.out 3).trans rfl
                           have hcz123_4 : wc.cell? ⟨gb257, 4, none⟩ = some (.int .i64 t272) := (blk_cell BK257.out 4).trans rfl
                           have hcz123_5 : wc.cell? ⟨gb257, 5, none⟩ = some (.int .i64 t274) := (blk_cell BK257.out 5).trans rfl
                           have hcz123_6 : wc.cell? ⟨gb257, 6, none⟩ = some (.int .i64 0) := (blk_cell BK257.out 6).trans rfl
                           have hfz123_0 := blk_frozen BK257.out 0
                           have hfz123_1 := blk_frozen BK257.out 1
                           have hfz123_2 := blk_frozen BK257.out 2
                           have hfz123_3 := blk_frozen BK257.out 3
                           have hfz123_4 := blk_frozen BK257.out 4
                           have hfz123_5 := blk_frozen BK257.out 5
                           have hfz123_6 := blk_frozen BK257.out 6
                           go_upto_region 42 with (first | ((with_reducible refine gate_callee (f := 19) rfl ?_); refine goesL_ (some 180) rfl rfl Tryd.func19 (by kernel_rfl) rfl #[.agg #[.int .i64 t256, .int .i64 x258001_2, .int .i64 t254, .int .i64 t270, .int .i64 t272, .int .i64 t274, .int .i64 0]] rfl (by (try simp only [List.map_toArray, List.map_cons, List.map_nil]); first | done | rfl | (simp only [List.length_drop, List.length_take]; rfl)) ?_; (with_reducible refine (bulletinref22_Number.calls kj89 t256 x258001_2 t254 t270 t272 t274 0 t283 t284 _ A120.out).mono ?_); rintro e w124 ⟨rfl, hb⟩; refine ⟨_, rfl, ?_⟩; have n0_ := Aside0.mk (blk_below (g := gb257) (o := .cells #[.int .i64 t256, .int .i64 x258001_2, .int .i64 t254, .int .i64 t270, .int .i64 t272, .int .i64 t274, .int .i64 0] 32 (0, 0)) (by (with_reducible repeat (first | refine blk_drewN ?_ _ | refine blk_drew ?_ | refine blk_alloc ?_ _)); exact BK257.out) hb); have n1_ := Aside0.mk (below_step (by repeat (first | (with_reducible first | exact HB.out | apply below_alloc | apply pw_below_drewN | apply below_drew1 | refine below_set ?_ GE257.out) | exact HB.out)) hb); clear BK257; clear HB; have BK257 := n0_; have HB := n1_; clear n0_ n1_; (try clear hb); (try clear hb2); (try clear hk); (try clear hi)))
                           (try simp only [Act.put, List.setIfInBounds_toArray, List.set_cons_zero, List.set_cons_succ])
                           go_cut [195] (fun v195 wc => ∃ (kq : Nat) (x195_121 : Bool), v195 = .bool x195_121 ∧ Aside0 (bulletinref22_Read.j9 kq x12_89 t283 x195_121 = some (r1, r2)) ∧ Aside0 (kq ≤ kj89) ∧ Aside0 (wc.heap[gb257]? = some (.cells #[.int .i64 t256, .int .i64 x258001_2, .int .i64 t254, .int .i64 t270, .int .i64 t272, .int .i64 t274, .int .i64 0] 32 (0, 0))) ∧ Aside0 (Below w.heap.size w wc))
                           case first => as_aux_lemma =>
                            have H := HC122.out
                            clear HC122
                            by_cases c125 : x5_2 ≥ 0
                            ·rw [if_pos c125] at H
                             have c125b0 : decide (0 ≤ x5_2) = true := decide_eq_true c125
                             clear c125
                             (first | rw [c125b0] | (simp only [i64_w, i32_w]; rw [c125b0]) | skip)
                             have H' := Aside0.mk H
                             clear H
                             go_wp2
                             go_meet
                             case rel => exact ⟨_, (((Int.tmod (wrap64 ((wrap64 (Int.tdiv t283 86400)) + 4)) 7) != x5_2)), (by first | rfl | (simp; done) | (simp [*]; done)), H', ⟨by have := HJ2.out; have := HK2.out; have := HJ49.out; have := HJ55.out; have := HJ73.out; have := HJ84.out; have := HJ89.out; first | omega | exact Nat.le_refl _⟩, ⟨by (with_reducible repeat (first | refine blk_drewN ?_ _ | refine blk_drew ?_ | refine blk_alloc ?_ _)); exact BK257.out⟩, ⟨by repeat (first | (with_reducible first | exact HB.out | apply below_alloc | apply pw_below_drewN | apply below_drew1 | refine below_set ?_ GE257.out) | exact HB.out)⟩⟩
                            ·rw [if_neg c125] at H
                             have c125b0 : decide (0 ≤ x5_2) = false := decide_eq_false c125
                             clear c125
                             (first | rw [c125b0] | (simp only [i64_w, i32_w]; rw [c125b0]) | skip)
                             have H' := Aside0.mk H
                             clear H
                             go_wp2
                             go_meet
                             case rel => exact ⟨_, (false), (by first | rfl | (simp; done) | (simp [*]; done)), H', ⟨by have := HJ2.out; have := HK2.out; have := HJ49.out; have := HJ55.out; have := HJ73.out; have := HJ84.out; have := HJ89.out; first | omega | exact Nat.le_refl _⟩, ⟨by (with_reducible repeat (first | refine blk_drewN ?_ _ | refine blk_drew ?_ | refine blk_alloc ?_ _)); exact BK257.out⟩, ⟨by repeat (first | (with_reducible first | exact HB.out | apply below_alloc | apply pw_below_drewN | apply below_drew1 | refine below_set ?_ GE257.out) | exact HB.out)⟩⟩
                           case rest => as_aux_lemma =>
                            clear HC122
                            try clear c1
                            try clear p1
                            try clear q1
                            try clear hx1
                            try clear qi1
                            try clear c2
                            try clear p2
                            try clear q2
                            try clear hx2
                            try clear qi2
                            try clear c3
                            try clear c4
                            try clear c5
                            try clear c6
                            try clear p6
                            try clear c7
                            try clear c7b0
                            try clear c8
                            try clear c8b0
                            try clear c8b1
                            try clear c9
                            try clear p9
                            try clear q9
                            try clear hx9
                            try clear qi9
                            try clear c10
                            try clear p10
                            try clear q10
                            try clear hx10
                            try clear qi10
                            try clear c11
                            try clear c11b0
                            try clear c11b1
                            try clear c11b2
                            try clear p11
                            try clear q11
                            try clear hx11
                            try clear qi11
                            try clear c12
                            try clear c13
                            try clear c13b0
                            try clear c13b1
                            try clear c14
                            try clear c18
                            try clear c18b0
                            try clear c19
                            try clear c19b0
                            try clear c19b1
                            try clear c20
                            try clear q20
                            try clear c21
                            try clear c21b0
                            try clear c21b1
                            try clear c22
                            try clear c22b0
                            try clear c22b1
                            try clear c23
                            try clear c24
                            try clear c24b0
                            try clear c24b1
                            try clear p24
                            try clear q24
                            try clear hx24
                            try clear qi24
                            try clear c25
                            try clear p25
                            try clear q25
                            try clear hx25
                            try clear qi25
                            try clear p26
                            try clear q26
                            try clear hx26
                            try clear qi26
                            try clear p27
                            try clear q27
                            try clear hx27
                            try clear qi27
                            try clear c35
                            try clear c36
                            try clear c37
                            try clear c37b0
                            try clear c38
                            try clear c38b0
                            try clear c38b1
                            try clear c42
                            try clear c42b0
                            try clear c42b1
                            try clear c48
                            try clear c48b0
                            try clear c48b1
                            try clear c53
                            try clear c53b0
                            try clear c53b1
                            try clear c54
                            try clear c57
                            try clear c57b0
                            try clear c57b1
                            try clear c58
                            try clear c58b0
                            try clear c61
                            try clear c61b0
                            try clear p64
                            try clear c67
                            try clear c68
                            try clear c68b0
                            try clear c68b1
                            try clear c70
                            try clear c70b0
                            try clear c70b1
                            try clear c72
                            try clear c72b0
                            try clear c72b1
                            try clear c77
                            try clear c77b0
                            try clear c79
                            try clear c79b0
                            try clear c82
                            try clear c83
                            try clear c83b0
                            try clear c83b1
                            try clear c87
                            try clear c87b0
                            try clear c87b1
                            try clear c88
                            try clear c88b0
                            try clear c88b1
                            try clear c89
                            try clear c89b0
                            try clear c89b1
                            try clear c91
                            try clear c93
                            try clear c93b0
                            try clear c93b1
                            try clear c94
                            try clear c94b0
                            try clear c94b1
                            try clear p95
                            try clear q95
                            try clear hx95
                            try clear qi95
                            try clear c96
                            try clear c96b0
                            try clear c96b1
                            try clear c97
                            try clear c97b0
                            try clear c97b1
                            try clear c99
                            try clear c99b0
                            try clear c100
                            try clear c100b0
                            try clear c100b1
                            try clear p102
                            try clear q102
                            try clear hx102
                            try clear qi102
                            try clear c103
                            try clear c103b0
                            try clear c103b1
                            try clear c104
                            try clear c104b0
                            try clear c104b1
                            try clear c106
                            try clear c106b0
                            try clear c107
                            try clear c107b0
                            try clear c107b1
                            try clear c109
                            try clear c110
                            try clear c110b0
                            try clear c110b1
                            try clear c111
                            try clear c111b0
                            try clear c111b1
                            try clear c113
                            try clear c113b0
                            try clear c115
                            try clear c115b0
                            try clear c115b1
                            try clear p116
                            try clear q116
                            try clear hx116
                            try clear qi116
                            try clear c117
                            try clear c117b0
                            try clear c117b1
                            try clear c121
                            try clear c121b0
                            try clear c121b1
                            try clear c125
                            try clear c125b0
                            try clear hcz123_0
                            try clear hcz123_1
                            try clear hcz123_2
                            try clear hcz123_3
                            try clear hcz123_4
                            try clear hcz123_5
                            try clear hcz123_6
                            try clear hcz45_0
                            try clear hcz45_1
                            try clear hcz45_2
                            try clear hcz45_3
                            try clear hcz45_4
                            try clear hcz45_5
                            try clear hcz45_6
                            try clear hcz60_0
                            try clear hcz60_1
                            try clear hcz60_2
                            try clear hcz60_3
                            try clear hcz60_4
                            try clear hcz60_5
                            try clear hcz60_6
                            try clear hcz63_0
                            try clear hcz63_1
                            try clear hcz63_2
                            try clear hcz63_3
                            try clear hcz63_4
                            try clear hcz63_5
                            try clear hcz63_6
                            try clear hcz65_0
                            try clear hcz65_1
                            try clear hcz65_2
                            try clear hcz65_3
                            try clear hcz65_4
                            try clear hcz65_5
                            try clear hcz65_6
                            try clear hcz76_0
                            try clear hcz76_1
                            try clear hcz76_2
                            try clear hcz76_3
                            try clear hcz76_4
                            try clear hcz76_5
                            try clear hcz76_6
                            try clear hcz78_0
                            try clear hcz78_1
                            try clear hcz78_2
                            try clear hcz78_3
                            try clear hcz78_4
                            try clear hcz78_5
                            try clear hcz78_6
                            try clear hcz80_0
                            try clear hcz80_1
                            try clear hcz80_2
                            try clear hcz80_3
                            try clear hcz80_4
                            try clear hcz80_5
                            try clear hcz80_6
                            try clear hcz81_0
                            try clear hcz81_1
                            try clear hcz81_2
                            try clear hcz81_3
                            try clear hcz81_4
                            try clear hcz81_5
                            try clear hcz81_6
                            try clear hfz123_0
                            try clear hfz123_1
                            try clear hfz123_2
                            try clear hfz123_3
                            try clear hfz123_4
                            try clear hfz123_5
                            try clear hfz123_6
                            try clear hfz45_0
                            try clear hfz45_1
                            try clear hfz45_2
                            try clear hfz45_3
                            try clear hfz45_4
                            try clear hfz45_5
                            try clear hfz45_6
                            try clear hfz60_0
                            try clear hfz60_1
                            try clear hfz60_2
                            try clear hfz60_3
                            try clear hfz60_4
                            try clear hfz60_5
                            try clear hfz60_6
                            try clear hfz63_0
                            try clear hfz63_1
                            try clear hfz63_2
                            try clear hfz63_3
                            try clear hfz63_4
                            try clear hfz63_5
                            try clear hfz63_6
                            try clear hfz65_0
                            try clear hfz65_1
                            try clear hfz65_2
                            try clear hfz65_3
                            try clear hfz65_4
                            try clear hfz65_5
                            try clear hfz65_6
                            try clear hfz76_0
                            try clear hfz76_1
                            try clear hfz76_2
                            try clear hfz76_3
                            try clear hfz76_4
                            try clear hfz76_5
                            try clear hfz76_6
                            try clear hfz78_0
                            try clear hfz78_1
                            try clear hfz78_2
                            try clear hfz78_3
                            try clear hfz78_4
                            try clear hfz78_5
                            try clear hfz78_6
                            try clear hfz80_0
                            try clear hfz80_1
                            try clear hfz80_2
                            try clear hfz80_3
                            try clear hfz80_4
                            try clear hfz80_5
                            try clear hfz80_6
                            try clear hfz81_0
                            try clear hfz81_1
                            try clear hfz81_2
                            try clear hfz81_3
                            try clear hfz81_4
                            try clear hfz81_5
                            try clear hfz81_6
                            try clear hx249_0
                            try clear hx253_0
                            try clear hx255_0
                            try clear hx258_0
                            try clear hx262_0
                            try clear hx269_0
                            try clear hx271_0
                            try clear hx273_0
                            try clear hx275_0
                            try clear p1
                            try clear p10
                            try clear p102
                            try clear p11
                            try clear p116
                            try clear p2
                            try clear p24
                            try clear p249
                            try clear p25
                            try clear p253
                            try clear p255
                            try clear p258
                            try clear p26
                            try clear p262
                            try clear p269
                            try clear p27
                            try clear p271
                            try clear p273
                            try clear p275
                            try clear p6
                            try clear p64
                            try clear p9
                            try clear p95
                            try clear q1
                            try clear q10
                            try clear q102
                            try clear q11
                            try clear q116
                            try clear q2
                            try clear q20
                            try clear q24
                            try clear q249
                            try clear q25
                            try clear q253
                            try clear q255
                            try clear q258
                            try clear q26
                            try clear q262
                            try clear q269
                            try clear q27
                            try clear q271
                            try clear q273
                            try clear q275
                            try clear q9
                            try clear q95
                            obtain ⟨kq, x195_121, rfl, HA, HJ121, BK257, HB⟩ := hcut
                            cases kq with
                            | zero => exact absurd HA.out (by simp [bulletinref22_Read.j9])
                            | succ kj121 =>
                             have H := HA.out
                             clear HA
                             simp only [bulletinref22_Read.j9] at H
                             by_cases c126 : x195_121 = true
                             ·subst c126
                              have H1 : (some (0, 3)) = some (r1, r2) := by rw [if_pos rfl] at H; exact H
                              clear H
                              have H := H1
                              clear H1
                              simp only [Option.some.injEq, Prod.mk.injEq] at H
                              obtain ⟨rfl, rfl⟩ := H
                              go_wp2
                              go_ret2
                              exact ⟨by first | rfl | (simp [errW_none, errW_some] <;> rfl) | (simp [*, errW_none, errW_some] <;> rfl), by repeat (first | (with_reducible first | exact HB.out | apply below_alloc | apply pw_below_drewN | apply below_drew1 | refine below_set ?_ GE257.out) | exact HB.out)⟩
                             ·replace c126 := Bool.eq_false_iff.mpr c126
                              subst c126
                              have H1 : ((bulletinref22_Moment.f (wrap64 (t283 - x12_89))).bind fun t285 => (if t285 = true then (some (wrap64 (t283 - x12_89), 0)) else (some (0, 1)))) = some (r1, r2) := by rw [if_neg (show ¬ (false = true) by decide)] at H; exact H
                              clear H
                              have H := H1
                              clear H1
                              replace H := Option.bind_eq_some_iff.mp H
                              obtain ⟨t285, A1270, H⟩ := H
                              replace H : (if t285 = true then (some (wrap64 (t283 - x12_89), 0)) else (some (0, 1))) = some (r1, r2) := H
                              have A127 := Aside0.mk A1270
                              clear A1270
                              by_cases c128 : t285 = true
                              ·subst c128
                               have H1 : (some (wrap64 (t283 - x12_89), 0)) = some (r1, r2) := by rw [if_pos rfl] at H; exact H
                               clear H
                               have H := H1
                               clear H1
                               simp only [Option.some.injEq, Prod.mk.injEq] at H
                               obtain ⟨rfl, rfl⟩ := H
                               go_wp2_with (first | ((with_reducible refine gate_callee (f := 39) rfl ?_); refine goesL_ (some 199) rfl rfl Tryd.func39 (by kernel_rfl) rfl #[.int .i64 (wrap64 (t283 - x12_89))] rfl (by (try simp only [List.map_toArray, List.map_cons, List.map_nil]); first | done | rfl | (simp only [List.length_drop, List.length_take]; rfl)) ?_; (with_reducible refine (bulletinref22_Moment.calls (wrap64 (t283 - x12_89)) true _ A127.out).mono ?_); rintro e w' ⟨rfl, ⟨nd, rfl⟩⟩; refine ⟨_, rfl, ?_⟩))
                               go_ret2
                               exact ⟨by first | rfl | (simp [errW_none, errW_some] <;> rfl) | (simp [*, errW_none, errW_some] <;> rfl), by repeat (first | (with_reducible first | exact HB.out | apply below_alloc | apply pw_below_drewN | apply below_drew1 | refine below_set ?_ GE257.out) | exact HB.out)⟩
                              ·replace c128 := Bool.eq_false_iff.mpr c128
                               subst c128
                               have H1 : (some (0, 1)) = some (r1, r2) := by rw [if_neg (show ¬ (false = true) by decide)] at H; exact H
                               clear H
                               have H := H1
                               clear H1
                               simp only [Option.some.injEq, Prod.mk.injEq] at H
                               obtain ⟨rfl, rfl⟩ := H
                               go_wp2_with (first | ((with_reducible refine gate_callee (f := 39) rfl ?_); refine goesL_ (some 199) rfl rfl Tryd.func39 (by kernel_rfl) rfl #[.int .i64 (wrap64 (t283 - x12_89))] rfl (by (try simp only [List.map_toArray, List.map_cons, List.map_nil]); first | done | rfl | (simp only [List.length_drop, List.length_take]; rfl)) ?_; (with_reducible refine (bulletinref22_Moment.calls (wrap64 (t283 - x12_89)) false _ A127.out).mono ?_); rintro e w' ⟨rfl, ⟨nd, rfl⟩⟩; refine ⟨_, rfl, ?_⟩))
                               go_ret2
                               exact ⟨by first | rfl | (simp [errW_none, errW_some] <;> rfl) | (simp [*, errW_none, errW_some] <;> rfl), by repeat (first | (with_reducible first | exact HB.out | apply below_alloc | apply pw_below_drewN | apply below_drew1 | refine below_set ?_ GE257.out) | exact HB.out)⟩
                          ·rw [if_neg c121] at H
                           have c121b0 : (t284 == 0) = false := beq_eq_false_iff_ne.mpr c121
                           have c121b1 : (t284 != 0) = true := bne_iff_ne.mpr c121
                           simp only [Option.some.injEq, Prod.mk.injEq] at H
                           obtain ⟨rfl, rfl⟩ := H
                           have hcz129_0 : wc.cell? ⟨gb257, 0, none⟩ = some (.int .i64 t256) := (blk_cell BK257.out 0).trans rfl
                           have hcz129_1 : wc.cell? ⟨gb257, 1, none⟩ = some (.int .i64 x258001_2) := (blk_cell BK257.out 1).trans rfl
                           have hcz129_2 : wc.cell? ⟨gb257, 2, none⟩ = some (.int .i64 t254) := (blk_cell BK257.out 2).trans rfl
                           have hcz129_3 : wc.cell? ⟨gb257, 3, none⟩ = some (.int .i64 t270) := (blk_cell BK257.out 3).trans rfl
                           have hcz129_4 : wc.cell? ⟨gb257, 4, none⟩ = some (.int .i64 t272) := (blk_cell BK257.out 4).trans rfl
                           have hcz129_5 : wc.cell? ⟨gb257, 5, none⟩ = some (.int .i64 t274) := (blk_cell BK257.out 5).trans rfl
                           have hcz129_6 : wc.cell? ⟨gb257, 6, none⟩ = some (.int .i64 0) := (blk_cell BK257.out 6).trans rfl
                           have hfz129_0 := blk_frozen BK257.out 0
                           have hfz129_1 := blk_frozen BK257.out 1
                           have hfz129_2 := blk_frozen BK257.out 2
                           have hfz129_3 := blk_frozen BK257.out 3
                           have hfz129_4 := blk_frozen BK257.out 4
                           have hfz129_5 := blk_frozen BK257.out 5
                           have hfz129_6 := blk_frozen BK257.out 6
                           go_wp2_with (first | ((with_reducible refine gate_callee (f := 19) rfl ?_); refine goesL_ (some 180) rfl rfl Tryd.func19 (by kernel_rfl) rfl #[.agg #[.int .i64 t256, .int .i64 x258001_2, .int .i64 t254, .int .i64 t270, .int .i64 t272, .int .i64 t274, .int .i64 0]] rfl (by (try simp only [List.map_toArray, List.map_cons, List.map_nil]); first | done | rfl | (simp only [List.length_drop, List.length_take]; rfl)) ?_; (with_reducible refine (bulletinref22_Number.calls kj89 t256 x258001_2 t254 t270 t272 t274 0 t283 t284 _ A120.out).mono ?_); rintro e w130 ⟨rfl, hb⟩; refine ⟨_, rfl, ?_⟩; have n0_ := Aside0.mk (blk_below (g := gb257) (o := .cells #[.int .i64 t256, .int .i64 x258001_2, .int .i64 t254, .int .i64 t270, .int .i64 t272, .int .i64 t274, .int .i64 0] 32 (0, 0)) (by (with_reducible repeat (first | refine blk_drewN ?_ _ | refine blk_drew ?_ | refine blk_alloc ?_ _)); exact BK257.out) hb); have n1_ := Aside0.mk (below_step (by repeat (first | (with_reducible first | exact HB.out | apply below_alloc | apply pw_below_drewN | apply below_drew1 | refine below_set ?_ GE257.out) | exact HB.out)) hb); clear BK257; clear HB; have BK257 := n0_; have HB := n1_; clear n0_ n1_; (try clear hb); (try clear hb2); (try clear hk); (try clear hi)))
                           go_ret2
                           exact ⟨by first | rfl | (simp [errW_none, errW_some] <;> rfl) | (simp [*, errW_none, errW_some] <;> rfl), by repeat (first | (with_reducible first | exact HB.out | apply below_alloc | apply pw_below_drewN | apply below_drew1 | refine below_set ?_ GE257.out) | exact HB.out)⟩
                     ·rw [if_neg c83] at H
                      exact absurd H (by simp)
                 ·rw [if_neg c72] at H
                  exact absurd H (by simp)
                ·rw [if_neg c70] at H
                 exact absurd H (by simp)
               ·rw [if_neg c68] at H
                exact absurd H (by simp)
         ·rw [if_neg c48] at H
          exact absurd H (by simp)
     ·rw [if_neg c24] at H
      exact absurd H (by simp)
    ·rw [if_neg c22] at H
     exact absurd H (by simp)
   ·rw [if_neg c21] at H
    have c21b0 : ((x4_2.length : Int) == 5) = false := beq_eq_false_iff_ne.mpr c21
    have c21b1 : ((x4_2.length : Int) != 5) = true := bne_iff_ne.mpr c21
    simp only [Option.some.injEq, Prod.mk.injEq] at H
    obtain ⟨rfl, rfl⟩ := H
    obtain ⟨Ao131, co131, eo131, _⟩ := Kd.Q_slice HO_4.out
    subst eo131
    go_wp2
    go_ret2
    exact ⟨by first | rfl | (simp [errW_none, errW_some] <;> rfl) | (simp [*, errW_none, errW_some] <;> rfl), by repeat (first | (with_reducible first | exact HB.out | apply below_alloc | apply pw_below_drewN | apply below_drew1) | exact HB.out)⟩

end Go.Proofs.YtocdojegoakmoaaDoor.Z
