-- Written by a program of this session (wip/myprint) out of the translation, for YtcpmoolpbeeedaaGreatDoor.
import Derived.Test.YtcpmoolpbeeedaaGreatDoorQ0
import Derived.Test.YtcpmoolpbeeedaaGreatDoorQ5
import Derived.Test.YtcpmoolpbeeedaaGreatDoorQ6
namespace Go.Proofs.YtcpmoolpbeeedaaGreatDoor.Q
open Go.RowKit Go.Proofs.YtcpmoolpbeeedaaGreatDoorW.PrintWords Go.Proofs.YtcpmoolpbeeedaaGreatDoorW.PrintLast Go.Proofs.YtcpmoolpbeeedaaGreatDoorW.PrintMore Go.Proofs.YtcpmoolpbeeedaaGreatDoorW.PrintSq
attribute [local go_sem] max2_int min2_int max_two min_two max_three min_three max_four min_four   -- for this text's walks alone
set_option linter.unusedVariables false
set_option linter.unusedSimpArgs false

/-! ### date_Line: function 31 -/
def date_Line.f (k : Nat) (a0 : Int) : Option (ByteArray) := (date_Of.f k a0).bind fun bt155 => (if bt155.2.2.2.2.2.2.2 = true then ((strconv_Itoa.f bt155.2.2.1).bind fun t164 => (if bt155.2.2.1 < 10 then (if 1 + t164.size ≤ 9223372036854775807 then (if 0 ≤ bt155.2.2.2.2.2.2.1 then (if bt155.2.2.2.2.2.2.1 < 7 then (if (rdOf ByteArray.empty Tab0 bt155.2.2.2.2.2.2.1).size + 1 ≤ 9223372036854775807 then (if 0 ≤ (wrap64 (bt155.2.1 - 1)) then (if (wrap64 (bt155.2.1 - 1)) < 12 then (if (rdOf ByteArray.empty Tab0 bt155.2.2.2.2.2.2.1).size + 1 + (rdOf ByteArray.empty Tab1 (wrap64 (bt155.2.1 - 1))).size ≤ 9223372036854775807 then (if (rdOf ByteArray.empty Tab0 bt155.2.2.2.2.2.2.1).size + 1 + (rdOf ByteArray.empty Tab1 (wrap64 (bt155.2.1 - 1))).size + 1 ≤ 9223372036854775807 then (if (rdOf ByteArray.empty Tab0 bt155.2.2.2.2.2.2.1).size + 1 + (rdOf ByteArray.empty Tab1 (wrap64 (bt155.2.1 - 1))).size + 1 + (1 + t164.size) ≤ 9223372036854775807 then (if (rdOf ByteArray.empty Tab0 bt155.2.2.2.2.2.2.1).size + 1 + (rdOf ByteArray.empty Tab1 (wrap64 (bt155.2.1 - 1))).size + 1 + (1 + t164.size) + 1 ≤ 9223372036854775807 then ((date_clock.f bt155.1 bt155.2.1 bt155.2.2.1 bt155.2.2.2.1 bt155.2.2.2.2.1 bt155.2.2.2.2.2.1 bt155.2.2.2.2.2.2.1).bind fun t165 => (if (rdOf ByteArray.empty Tab0 bt155.2.2.2.2.2.2.1).size + 1 + (rdOf ByteArray.empty Tab1 (wrap64 (bt155.2.1 - 1))).size + 1 + (1 + t164.size) + 1 + t165.size ≤ 9223372036854775807 then (if (rdOf ByteArray.empty Tab0 bt155.2.2.2.2.2.2.1).size + 1 + (rdOf ByteArray.empty Tab1 (wrap64 (bt155.2.1 - 1))).size + 1 + (1 + t164.size) + 1 + t165.size + 1 ≤ 9223372036854775807 then ((strconv_Itoa.f bt155.1).bind fun t166 => (if (rdOf ByteArray.empty Tab0 bt155.2.2.2.2.2.2.1).size + 1 + (rdOf ByteArray.empty Tab1 (wrap64 (bt155.2.1 - 1))).size + 1 + (1 + t164.size) + 1 + t165.size + 1 + t166.size ≤ 9223372036854775807 then (some (((((((((rdOf ByteArray.empty Tab0 bt155.2.2.2.2.2.2.1) ++ (⟨#[32]⟩ : ByteArray)) ++ (rdOf ByteArray.empty Tab1 (wrap64 (bt155.2.1 - 1)))) ++ (⟨#[32]⟩ : ByteArray)) ++ ((⟨#[32]⟩ : ByteArray) ++ t164)) ++ (⟨#[32]⟩ : ByteArray)) ++ t165) ++ (⟨#[32]⟩ : ByteArray)) ++ t166)) else (none))) else (none)) else (none))) else (none)) else (none)) else (none)) else (none)) else (none)) else (none)) else (none)) else (none)) else (none)) else (none)) else (if 0 ≤ bt155.2.2.2.2.2.2.1 then (if bt155.2.2.2.2.2.2.1 < 7 then (if (rdOf ByteArray.empty Tab0 bt155.2.2.2.2.2.2.1).size + 1 ≤ 9223372036854775807 then (if 0 ≤ (wrap64 (bt155.2.1 - 1)) then (if (wrap64 (bt155.2.1 - 1)) < 12 then (if (rdOf ByteArray.empty Tab0 bt155.2.2.2.2.2.2.1).size + 1 + (rdOf ByteArray.empty Tab1 (wrap64 (bt155.2.1 - 1))).size ≤ 9223372036854775807 then (if (rdOf ByteArray.empty Tab0 bt155.2.2.2.2.2.2.1).size + 1 + (rdOf ByteArray.empty Tab1 (wrap64 (bt155.2.1 - 1))).size + 1 ≤ 9223372036854775807 then (if (rdOf ByteArray.empty Tab0 bt155.2.2.2.2.2.2.1).size + 1 + (rdOf ByteArray.empty Tab1 (wrap64 (bt155.2.1 - 1))).size + 1 + t164.size ≤ 9223372036854775807 then (if (rdOf ByteArray.empty Tab0 bt155.2.2.2.2.2.2.1).size + 1 + (rdOf ByteArray.empty Tab1 (wrap64 (bt155.2.1 - 1))).size + 1 + t164.size + 1 ≤ 9223372036854775807 then ((date_clock.f bt155.1 bt155.2.1 bt155.2.2.1 bt155.2.2.2.1 bt155.2.2.2.2.1 bt155.2.2.2.2.2.1 bt155.2.2.2.2.2.2.1).bind fun t167 => (if (rdOf ByteArray.empty Tab0 bt155.2.2.2.2.2.2.1).size + 1 + (rdOf ByteArray.empty Tab1 (wrap64 (bt155.2.1 - 1))).size + 1 + t164.size + 1 + t167.size ≤ 9223372036854775807 then (if (rdOf ByteArray.empty Tab0 bt155.2.2.2.2.2.2.1).size + 1 + (rdOf ByteArray.empty Tab1 (wrap64 (bt155.2.1 - 1))).size + 1 + t164.size + 1 + t167.size + 1 ≤ 9223372036854775807 then ((strconv_Itoa.f bt155.1).bind fun t168 => (if (rdOf ByteArray.empty Tab0 bt155.2.2.2.2.2.2.1).size + 1 + (rdOf ByteArray.empty Tab1 (wrap64 (bt155.2.1 - 1))).size + 1 + t164.size + 1 + t167.size + 1 + t168.size ≤ 9223372036854775807 then (some (((((((((rdOf ByteArray.empty Tab0 bt155.2.2.2.2.2.2.1) ++ (⟨#[32]⟩ : ByteArray)) ++ (rdOf ByteArray.empty Tab1 (wrap64 (bt155.2.1 - 1)))) ++ (⟨#[32]⟩ : ByteArray)) ++ t164) ++ (⟨#[32]⟩ : ByteArray)) ++ t167) ++ (⟨#[32]⟩ : ByteArray)) ++ t168)) else (none))) else (none)) else (none))) else (none)) else (none)) else (none)) else (none)) else (none)) else (none)) else (none)) else (none)) else (none)))) else (some (⟨#[]⟩ : ByteArray)))
theorem date_Line.mono : ∀ a0 k, LeO (date_Line.f k a0) (date_Line.f (k + 1) a0) := by
  intro a0 k
  unfold date_Line.f
  repeat' first | (with_reducible first | exact date_Of.mono _ _ | exact LeO.refl _ | exact LeO.none _ | refine LeO.ite ?_ ?_ | refine LeO.bind ?_ (fun _ => ?_)) | exact date_Of.mono _ _ | exact LeO.none _ | refine LeO.ite ?_ ?_ | refine LeO.bind ?_ (fun _ => ?_)
def date_Line.T7 : Bool × List (List Nat × List Nat) := (true, [([], []), ([0], [0]), ([1], [1]), ([2], [2]), ([3], [3]), ([], []), ([5], [5]), ([6], [6]), ([7], [7]), ([8], [8]), ([4, 9], [4, 9]), ([10], [10]), ([], []), ([11, 12], [11, 12]), ([13], [13]), ([], []), ([15], [15]), ([14, 16], [14, 16]), ([17], [17]), ([], []), ([19], [19]), ([20, 16], [20]), ([18, 21], [18, 21]), ([22, 21, 0, 1, 2, 3, 4, 5, 6, 7, 8, 9, 10, 11, 12, 13, 14, 15, 16, 17, 18, 19, 20, 21, 22], [22])])
def date_Line.B7 : List Nat := [0, 1, 3, 7, 15, 0, 32, 96, 224, 480, 1023, 2047, 0, 8191, 16383, 0, 32768, 131071, 262143, 0, 524288, 1671168, 4194303, 8388607]
theorem date_Line.tab7 : rtab .any (opsOf Tryz.f31 7) = date_Line.T7 := by kernel_rfl
theorem date_Line.bits7 : waitsOk date_Line.T7.2 date_Line.B7 = true := by kernel_rfl
set_option maxHeartbeats 8000000 in
set_option maxRecDepth 100000 in
theorem date_Line.calls (k : Nat) (a0 : Int) (r : ByteArray) (w : World) (hG : Amb w) (h : date_Line.f k a0 = some r) :
    Calls Tryz.prog 31 #[.int .i64 a0] w fun e w' => e = .returned (.string r) ∧ Below w.heap.size w w' := by
 have hu67 := Tryz.underlying67
 have HB := Aside0.mk (Below.refl w.heap.size w)
 unfold date_Line.f at h
 have H := h
 clear h
 have HG := Aside0.mk hG
 clear hG
 replace H := Option.bind_eq_some_iff.mp H
 obtain ⟨⟨t155, t156, t157, t158, t159, t160, t161, t162⟩, A20, H⟩ := H
 try dsimp only at H
 have A2 := Aside0.mk A20
 clear A20
 by_cases c3 : t162 = true
 ·subst c3
  rw [if_pos rfl] at H
  replace H := Option.bind_eq_some_iff.mp H
  obtain ⟨t164, A40, H⟩ := H
  try dsimp only at H
  have A4 := Aside0.mk A40
  clear A40
  by_cases c5 : t157 < 10
  ·rw [if_pos c5] at H
   have c5b0 := decide_eq_true c5
   clear c5
   obtain ⟨c6, H⟩ := iteS H
   have c6b0 := eq_true c6
   have c6b1 := decide_eq_true c6
   try have c6b2 := eq_false (Nat.not_lt.2 c6)
   obtain ⟨c7, H⟩ := iteS H
   have c7b0 := decide_eq_true c7
   clear c7
   obtain ⟨c8, H⟩ := iteS H
   have c8b0 := decide_eq_true c8
   clear c8
   obtain ⟨c10, H⟩ := iteS H
   have c10b0 := eq_true c10
   have c10b1 := decide_eq_true c10
   try have c10b2 := eq_false (Nat.not_lt.2 c10)
   obtain ⟨ji11, hji11⟩ : ∃ j_ : Int, (wrap64 (t156 - 1)) = j_ := ⟨_, rfl⟩
   replace H : (if 0 ≤ (ji11) then (if (ji11) < 12 then (if (rdOf ByteArray.empty Tab0 t161).size + 1 + (rdOf ByteArray.empty Tab1 (ji11)).size ≤ 9223372036854775807 then (if (rdOf ByteArray.empty Tab0 t161).size + 1 + (rdOf ByteArray.empty Tab1 (ji11)).size + 1 ≤ 9223372036854775807 then (if (rdOf ByteArray.empty Tab0 t161).size + 1 + (rdOf ByteArray.empty Tab1 (ji11)).size + 1 + (1 + t164.size) ≤ 9223372036854775807 then (if (rdOf ByteArray.empty Tab0 t161).size + 1 + (rdOf ByteArray.empty Tab1 (ji11)).size + 1 + (1 + t164.size) + 1 ≤ 9223372036854775807 then ((date_clock.f t155 t156 t157 t158 t159 t160 t161).bind fun t165 => (if (rdOf ByteArray.empty Tab0 t161).size + 1 + (rdOf ByteArray.empty Tab1 (ji11)).size + 1 + (1 + t164.size) + 1 + t165.size ≤ 9223372036854775807 then (if (rdOf ByteArray.empty Tab0 t161).size + 1 + (rdOf ByteArray.empty Tab1 (ji11)).size + 1 + (1 + t164.size) + 1 + t165.size + 1 ≤ 9223372036854775807 then ((strconv_Itoa.f t155).bind fun t166 => (if (rdOf ByteArray.empty Tab0 t161).size + 1 + (rdOf ByteArray.empty Tab1 (ji11)).size + 1 + (1 + t164.size) + 1 + t165.size + 1 + t166.size ≤ 9223372036854775807 then (some (((((((((rdOf ByteArray.empty Tab0 t161) ++ (⟨#[32]⟩ : ByteArray)) ++ (rdOf ByteArray.empty Tab1 (ji11))) ++ (⟨#[32]⟩ : ByteArray)) ++ ((⟨#[32]⟩ : ByteArray) ++ t164)) ++ (⟨#[32]⟩ : ByteArray)) ++ t165) ++ (⟨#[32]⟩ : ByteArray)) ++ t166)) else (none))) else (none)) else (none))) else (none)) else (none)) else (none)) else (none)) else (none)) else (none)) = some r := by first | (rw [hji11] at H; exact H) | (simp only [hji11] at H ⊢; exact H)
   (try rw [hji11] at A2)
   (try rw [hji11] at A4)
   have hji11w : (IntKind.i64.wrap (t156 - 1)) = ji11 := (i64_w _).trans hji11
   obtain ⟨c12, H⟩ := iteS H
   have c12b0 := decide_eq_true c12
   clear c12
   obtain ⟨c13, H⟩ := iteS H
   have c13b0 := decide_eq_true c13
   clear c13
   obtain ⟨c15, H⟩ := iteS H
   have c15b0 := eq_true c15
   have c15b1 := decide_eq_true c15
   try have c15b2 := eq_false (Nat.not_lt.2 c15)
   obtain ⟨c16, H⟩ := iteS H
   have c16b0 := eq_true c16
   have c16b1 := decide_eq_true c16
   try have c16b2 := eq_false (Nat.not_lt.2 c16)
   obtain ⟨c17, H⟩ := iteS H
   have c17b0 := eq_true c17
   have c17b1 := decide_eq_true c17
   try have c17b2 := eq_false (Nat.not_lt.2 c17)
   obtain ⟨c18, H⟩ := iteS H
   have c18b0 := eq_true c18
   have c18b1 := decide_eq_true c18
   try have c18b2 := eq_false (Nat.not_lt.2 c18)
   replace H := Option.bind_eq_some_iff.mp H
   obtain ⟨t165, A190, H⟩ := H
   try dsimp only at H
   have A19 := Aside0.mk A190
   clear A190
   obtain ⟨c20, H⟩ := iteS H
   have c20b0 := eq_true c20
   have c20b1 := decide_eq_true c20
   try have c20b2 := eq_false (Nat.not_lt.2 c20)
   obtain ⟨c21, H⟩ := iteS H
   have c21b0 := eq_true c21
   have c21b1 := decide_eq_true c21
   try have c21b2 := eq_false (Nat.not_lt.2 c21)
   replace H := Option.bind_eq_some_iff.mp H
   obtain ⟨t166, A220, H⟩ := H
   try dsimp only at H
   have A22 := Aside0.mk A220
   clear A220
   obtain ⟨c23, H⟩ := iteS H
   have c23b0 := eq_true c23
   have c23b1 := decide_eq_true c23
   try have c23b2 := eq_false (Nat.not_lt.2 c23)
   obtain rfl := Option.some.inj H
   go_enter Tryz.func31, Tryz.ntmps31
   try go_wp2_with (first | ((with_reducible refine gc 50 rfl ?_); refine cl_ (some 8) Tryz.func50 (date_Of.calls k a0 t155 t156 t157 t158 t159 t160 t161 true _ (Amb.at HG.out blw) A2.out) ?_; rintro w24 hb; replace HB := Aside0.mk (below_step blw hb); (try clear hb)) | ((with_reducible refine gate_dst (N := 3) rfl ?_); refine box_event ?hg (N := 3) ?hd (cs := #[.int .i64 0, .int .i64 0, .int .i64 0, .int .i64 0, .int .i64 0, .int .i64 0, .int .i64 0]) (t := 67) ?hr ?_; (case hd => rfl); (case hg => rfl); (case hr => first | (go_simp; done) | (go_simp; rfl)); intro gb163 hg w25 hbox hb; have BK163 := Aside0.mk (hbox); have GW163 : Aside0 (w.heap.size ≤ gb163) := gw_ hg; have GE163 : Aside0 (w.heap.size ≤ gb163) := gw_ hg; replace HB := Aside0.mk (below_step blw hb); clear hb hbox hg; have hcz26_0 : w25.cell? ⟨gb163, 0, none⟩ = some (.int .i64 0) := bk_ BK163; have hcz26_1 : w25.cell? ⟨gb163, 1, none⟩ = some (.int .i64 0) := bk_ BK163; have hcz26_2 : w25.cell? ⟨gb163, 2, none⟩ = some (.int .i64 0) := bk_ BK163; have hcz26_3 : w25.cell? ⟨gb163, 3, none⟩ = some (.int .i64 0) := bk_ BK163; have hcz26_4 : w25.cell? ⟨gb163, 4, none⟩ = some (.int .i64 0) := bk_ BK163; have hcz26_5 : w25.cell? ⟨gb163, 5, none⟩ = some (.int .i64 0) := bk_ BK163; have hcz26_6 : w25.cell? ⟨gb163, 6, none⟩ = some (.int .i64 0) := bk_ BK163; have hfz26_0 := blk_frozen BK163.out 0; have hfz26_1 := blk_frozen BK163.out 1; have hfz26_2 := blk_frozen BK163.out 2; have hfz26_3 := blk_frozen BK163.out 3; have hfz26_4 := blk_frozen BK163.out 4; have hfz26_5 := blk_frozen BK163.out 5; have hfz26_6 := blk_frozen BK163.out 6) | ((with_reducible refine gc 51 rfl ?_); refine cl_ (some 15) Tryz.func51 (strconv_Itoa.calls t157 t164 _ (Amb.at HG.out blw) A4.out) ?_; rintro w27 hb; replace BK163 := Aside0.mk (blk_below (g := gb163) (o := .cells #[.int .i64 t155, .int .i64 t156, .int .i64 t157, .int .i64 t158, .int .i64 t159, .int .i64 t160, .int .i64 t161] 67 (0, 0)) (by (with_reducible repeat (first | refine blk_drewN ?_ _ | refine blk_drew ?_ | refine blk_alloc ?_ _)); refine blk_put (cs := #[.int .i64 t155, .int .i64 t156, .int .i64 t157, .int .i64 t158, .int .i64 t159, .int .i64 t160, .int .i64 0]) ?_ 6 _ rfl; (with_reducible repeat (first | refine blk_drewN ?_ _ | refine blk_drew ?_ | refine blk_alloc ?_ _)); refine blk_put (cs := #[.int .i64 t155, .int .i64 t156, .int .i64 t157, .int .i64 t158, .int .i64 t159, .int .i64 0, .int .i64 0]) ?_ 5 _ rfl; (with_reducible repeat (first | refine blk_drewN ?_ _ | refine blk_drew ?_ | refine blk_alloc ?_ _)); refine blk_put (cs := #[.int .i64 t155, .int .i64 t156, .int .i64 t157, .int .i64 t158, .int .i64 0, .int .i64 0, .int .i64 0]) ?_ 4 _ rfl; (with_reducible repeat (first | refine blk_drewN ?_ _ | refine blk_drew ?_ | refine blk_alloc ?_ _)); refine blk_put (cs := #[.int .i64 t155, .int .i64 t156, .int .i64 t157, .int .i64 0, .int .i64 0, .int .i64 0, .int .i64 0]) ?_ 3 _ rfl; (with_reducible repeat (first | refine blk_drewN ?_ _ | refine blk_drew ?_ | refine blk_alloc ?_ _)); refine blk_put (cs := #[.int .i64 t155, .int .i64 t156, .int .i64 0, .int .i64 0, .int .i64 0, .int .i64 0, .int .i64 0]) ?_ 2 _ rfl; (with_reducible repeat (first | refine blk_drewN ?_ _ | refine blk_drew ?_ | refine blk_alloc ?_ _)); refine blk_put (cs := #[.int .i64 t155, .int .i64 0, .int .i64 0, .int .i64 0, .int .i64 0, .int .i64 0, .int .i64 0]) ?_ 1 _ rfl; (with_reducible repeat (first | refine blk_drewN ?_ _ | refine blk_drew ?_ | refine blk_alloc ?_ _)); refine blk_put (cs := #[.int .i64 0, .int .i64 0, .int .i64 0, .int .i64 0, .int .i64 0, .int .i64 0, .int .i64 0]) ?_ 0 _ rfl; (with_reducible repeat (first | refine blk_drewN ?_ _ | refine blk_drew ?_ | refine blk_alloc ?_ _)); exact BK163.out) hb); replace HB := Aside0.mk (below_step blw hb); (try clear hb); have hcz28_0 : w27.cell? ⟨gb163, 0, none⟩ = some (.int .i64 t155) := bk_ BK163; have hcz28_1 : w27.cell? ⟨gb163, 1, none⟩ = some (.int .i64 t156) := bk_ BK163; have hcz28_2 : w27.cell? ⟨gb163, 2, none⟩ = some (.int .i64 t157) := bk_ BK163; have hcz28_3 : w27.cell? ⟨gb163, 3, none⟩ = some (.int .i64 t158) := bk_ BK163; have hcz28_4 : w27.cell? ⟨gb163, 4, none⟩ = some (.int .i64 t159) := bk_ BK163; have hcz28_5 : w27.cell? ⟨gb163, 5, none⟩ = some (.int .i64 t160) := bk_ BK163; have hcz28_6 : w27.cell? ⟨gb163, 6, none⟩ = some (.int .i64 t161) := bk_ BK163; have hfz28_0 := blk_frozen BK163.out 0; have hfz28_1 := blk_frozen BK163.out 1; have hfz28_2 := blk_frozen BK163.out 2; have hfz28_3 := blk_frozen BK163.out 3; have hfz28_4 := blk_frozen BK163.out 4; have hfz28_5 := blk_frozen BK163.out 5; have hfz28_6 := blk_frozen BK163.out 6))
   replace BK163 := Aside0.mk (blk_drew BK163.out)
   replace HB := Aside0.mk (below_drew1 HB.out)
   have p9 : 0 ≤ (t161 : Int) := od_
   have q9 : (t161 : Int) < 7 := od_
   have hw9_0 : w.cell? ⟨0, (t161).toNat, none⟩ = some (.string (rdOf ByteArray.empty Tab0 t161)) := HG.out.t0 t161 p9 q9
   have hx9_0 := (HB.out.cell (World.block_lt_of_cell? w _ hw9_0)).trans hw9_0
   replace p9 := eq_true p9
   replace q9 := eq_true q9
   have p14 : 0 ≤ ((ji11) : Int) := od_
   have q14 : ((ji11) : Int) < 12 := od_
   have hw14_0 : w.cell? ⟨1, ((ji11)).toNat, none⟩ = some (.string (rdOf ByteArray.empty Tab1 (ji11))) := HG.out.t1 (ji11) p14 q14
   have hx14_0 := (HB.out.cell (World.block_lt_of_cell? w _ hw14_0)).trans hw14_0
   replace p14 := eq_true p14
   replace q14 := eq_true q14
   refine start_ (n := 24) (S := fun w' => w'.cell? ⟨gb163, 0, none⟩ = some (.int .i64 t155) ∧ w'.cell? ⟨gb163, 1, none⟩ = some (.int .i64 t156) ∧ w'.cell? ⟨gb163, 2, none⟩ = some (.int .i64 t157) ∧ w'.cell? ⟨gb163, 3, none⟩ = some (.int .i64 t158) ∧ w'.cell? ⟨gb163, 4, none⟩ = some (.int .i64 t159) ∧ w'.cell? ⟨gb163, 5, none⟩ = some (.int .i64 t160) ∧ w'.cell? ⟨gb163, 6, none⟩ = some (.int .i64 t161) ∧ w'.cell? ⟨0, (t161).toNat, none⟩ = some (.string (rdOf ByteArray.empty Tab0 t161)) ∧ w'.cell? ⟨1, ((ji11)).toNat, none⟩ = some (.string (rdOf ByteArray.empty Tab1 (ji11)))) (ds := []) (ba 24 0) (by kernel_rfl) rfl rfl ⟨bk_ BK163, bk_ BK163, bk_ BK163, bk_ BK163, bk_ BK163, bk_ BK163, bk_ BK163, hc_ hw9_0, hc_ hw14_0⟩ (fun hHeld => ?_); refine with_tabW date_Line.tab7 date_Line.bits7 (fun HT_ HW_ => ?_)
   generalize w27.drew = w29 at BK163 HB hx14_0 hx9_0 hHeld ⊢
   refine pu_ 0 21 1 ?_
   refine pu_ 5 26 33 ?_
   refine pu_ 12 33 4129 ?_
   refine pu_ 19 40 528417 ?_
   refine tk_ 1 22 528419 hHeld ?_
   refine pu_ 2 23 528423 ?_
   refine tk_ 3 24 528431 hHeld ?_
   refine pu_ 4 25 528447 ?_
   refine tk_ 6 27 528511 hHeld ?_
   refine pu_ 7 28 528639 ?_
   refine pu_ 8 29 528895 ?_
   refine tk_ 9 30 529407 hHeld ?_
   refine pu_ 10 31 530431 ?_
   refine pu_ 11 32 532479 ?_
   refine pu_ 13 34 540671 ?_
   refine pu_ 14 35 557055 ?_
   refine tk_ 15 36 589823 hHeld ?_
   refine tk_ 20 41 1638399 hHeld ?_
   refine one1 16 (some 37) 1703935 (fun K hK => ?_)
   refine go1 Tryz.func52 #[.agg #[.int .i64 t155, .int .i64 t156, .int .i64 t157, .int .i64 t158, .int .i64 t159, .int .i64 t160, .int .i64 t161]] ?_
   with_reducible refine (date_clock.calls t155 t156 t157 t158 t159 t160 t161 t165 _ A19.out).mono ?_
   rintro e w30 ⟨rfl, hb⟩
   refine ⟨_, rfl, ?_⟩
   replace BK163 := Aside0.mk (blk_below (g := gb163) (o := .cells #[.int .i64 t155, .int .i64 t156, .int .i64 t157, .int .i64 t158, .int .i64 t159, .int .i64 t160, .int .i64 t161] 67 (0, 0)) (bkw BK163) hb)
   replace HB := Aside0.mk (below_step blw hb)
   (try clear hb)
   refine hK.out _ _ ⟨bk_ BK163, bk_ BK163, bk_ BK163, bk_ BK163, bk_ BK163, bk_ BK163, bk_ BK163, hc_ hw9_0, hc_ hw14_0⟩ (fun hHeld => ?_)
   clear hK K
   refine nm_ (some 37) ?_
   refine pu_ 17 38 1835007 ?_
   refine pu_ 18 39 2097151 ?_
   refine one1 21 (some 42) 4194303 (fun K hK => ?_)
   refine go1 Tryz.func51 #[.int .i64 t155] ?_
   with_reducible refine (strconv_Itoa.calls t155 t166 _ ?side1 A22.out).mono ?_
   (case side1 => exact Amb.at HG.out blw)
   rintro e w31 ⟨rfl, hb⟩
   refine ⟨_, rfl, ?_⟩
   replace BK163 := Aside0.mk (blk_below (g := gb163) (o := .cells #[.int .i64 t155, .int .i64 t156, .int .i64 t157, .int .i64 t158, .int .i64 t159, .int .i64 t160, .int .i64 t161] 67 (0, 0)) (bkw BK163) hb)
   replace HB := Aside0.mk (below_step blw hb)
   (try clear hb)
   refine hK.out _ _ ⟨bk_ BK163, bk_ BK163, bk_ BK163, bk_ BK163, bk_ BK163, bk_ BK163, bk_ BK163, hc_ hw9_0, hc_ hw14_0⟩ (fun hHeld => ?_)
   clear hK K
   refine nm_ (some 42) ?_
   refine pu_ 22 43 8388607 ?_
   refine pu_ 23 2 16777215 ?_
   refine done_ (done_of HT_.out (by kernel_rfl)) ?_
   try go_wp2
   go_ret
   exact ⟨by first | rfl | (simp [errW_none, errW_some] <;> rfl) | (simp only [← hji11]; first | rfl | (simp [errW_none, errW_some] <;> rfl)) | (simp [*, errW_none, errW_some] <;> rfl), blw⟩
  ·rw [if_neg c5] at H
   have c5b0 := decide_eq_false c5
   clear c5
   obtain ⟨c32, H⟩ := iteS H
   have c32b0 := decide_eq_true c32
   clear c32
   obtain ⟨c33, H⟩ := iteS H
   have c33b0 := decide_eq_true c33
   clear c33
   obtain ⟨c35, H⟩ := iteS H
   have c35b0 := eq_true c35
   have c35b1 := decide_eq_true c35
   try have c35b2 := eq_false (Nat.not_lt.2 c35)
   obtain ⟨ji36, hji36⟩ : ∃ j_ : Int, (wrap64 (t156 - 1)) = j_ := ⟨_, rfl⟩
   replace H : (if 0 ≤ (ji36) then (if (ji36) < 12 then (if (rdOf ByteArray.empty Tab0 t161).size + 1 + (rdOf ByteArray.empty Tab1 (ji36)).size ≤ 9223372036854775807 then (if (rdOf ByteArray.empty Tab0 t161).size + 1 + (rdOf ByteArray.empty Tab1 (ji36)).size + 1 ≤ 9223372036854775807 then (if (rdOf ByteArray.empty Tab0 t161).size + 1 + (rdOf ByteArray.empty Tab1 (ji36)).size + 1 + t164.size ≤ 9223372036854775807 then (if (rdOf ByteArray.empty Tab0 t161).size + 1 + (rdOf ByteArray.empty Tab1 (ji36)).size + 1 + t164.size + 1 ≤ 9223372036854775807 then ((date_clock.f t155 t156 t157 t158 t159 t160 t161).bind fun t167 => (if (rdOf ByteArray.empty Tab0 t161).size + 1 + (rdOf ByteArray.empty Tab1 (ji36)).size + 1 + t164.size + 1 + t167.size ≤ 9223372036854775807 then (if (rdOf ByteArray.empty Tab0 t161).size + 1 + (rdOf ByteArray.empty Tab1 (ji36)).size + 1 + t164.size + 1 + t167.size + 1 ≤ 9223372036854775807 then ((strconv_Itoa.f t155).bind fun t168 => (if (rdOf ByteArray.empty Tab0 t161).size + 1 + (rdOf ByteArray.empty Tab1 (ji36)).size + 1 + t164.size + 1 + t167.size + 1 + t168.size ≤ 9223372036854775807 then (some (((((((((rdOf ByteArray.empty Tab0 t161) ++ (⟨#[32]⟩ : ByteArray)) ++ (rdOf ByteArray.empty Tab1 (ji36))) ++ (⟨#[32]⟩ : ByteArray)) ++ t164) ++ (⟨#[32]⟩ : ByteArray)) ++ t167) ++ (⟨#[32]⟩ : ByteArray)) ++ t168)) else (none))) else (none)) else (none))) else (none)) else (none)) else (none)) else (none)) else (none)) else (none)) = some r := by first | (rw [hji36] at H; exact H) | (simp only [hji36] at H ⊢; exact H)
   (try rw [hji36] at A2)
   (try rw [hji36] at A4)
   have hji36w : (IntKind.i64.wrap (t156 - 1)) = ji36 := (i64_w _).trans hji36
   obtain ⟨c37, H⟩ := iteS H
   have c37b0 := decide_eq_true c37
   clear c37
   obtain ⟨c38, H⟩ := iteS H
   have c38b0 := decide_eq_true c38
   clear c38
   obtain ⟨c40, H⟩ := iteS H
   have c40b0 := eq_true c40
   have c40b1 := decide_eq_true c40
   try have c40b2 := eq_false (Nat.not_lt.2 c40)
   obtain ⟨c41, H⟩ := iteS H
   have c41b0 := eq_true c41
   have c41b1 := decide_eq_true c41
   try have c41b2 := eq_false (Nat.not_lt.2 c41)
   obtain ⟨c42, H⟩ := iteS H
   have c42b0 := eq_true c42
   have c42b1 := decide_eq_true c42
   try have c42b2 := eq_false (Nat.not_lt.2 c42)
   obtain ⟨c43, H⟩ := iteS H
   have c43b0 := eq_true c43
   have c43b1 := decide_eq_true c43
   try have c43b2 := eq_false (Nat.not_lt.2 c43)
   replace H := Option.bind_eq_some_iff.mp H
   obtain ⟨t167, A440, H⟩ := H
   try dsimp only at H
   have A44 := Aside0.mk A440
   clear A440
   obtain ⟨c45, H⟩ := iteS H
   have c45b0 := eq_true c45
   have c45b1 := decide_eq_true c45
   try have c45b2 := eq_false (Nat.not_lt.2 c45)
   obtain ⟨c46, H⟩ := iteS H
   have c46b0 := eq_true c46
   have c46b1 := decide_eq_true c46
   try have c46b2 := eq_false (Nat.not_lt.2 c46)
   replace H := Option.bind_eq_some_iff.mp H
   obtain ⟨t168, A470, H⟩ := H
   try dsimp only at H
   have A47 := Aside0.mk A470
   clear A470
   obtain ⟨c48, H⟩ := iteS H
   have c48b0 := eq_true c48
   have c48b1 := decide_eq_true c48
   try have c48b2 := eq_false (Nat.not_lt.2 c48)
   obtain rfl := Option.some.inj H
   go_enter Tryz.func31, Tryz.ntmps31
   try go_wp2_with (first | ((with_reducible refine gc 50 rfl ?_); refine cl_ (some 8) Tryz.func50 (date_Of.calls k a0 t155 t156 t157 t158 t159 t160 t161 true _ (Amb.at HG.out blw) A2.out) ?_; rintro w49 hb; replace HB := Aside0.mk (below_step blw hb); (try clear hb)) | ((with_reducible refine gate_dst (N := 3) rfl ?_); refine box_event ?hg (N := 3) ?hd (cs := #[.int .i64 0, .int .i64 0, .int .i64 0, .int .i64 0, .int .i64 0, .int .i64 0, .int .i64 0]) (t := 67) ?hr ?_; (case hd => rfl); (case hg => rfl); (case hr => first | (go_simp; done) | (go_simp; rfl)); intro gb163 hg w50 hbox hb; have BK163 := Aside0.mk (hbox); have GW163 : Aside0 (w.heap.size ≤ gb163) := gw_ hg; have GE163 : Aside0 (w.heap.size ≤ gb163) := gw_ hg; replace HB := Aside0.mk (below_step blw hb); clear hb hbox hg; have hcz51_0 : w50.cell? ⟨gb163, 0, none⟩ = some (.int .i64 0) := bk_ BK163; have hcz51_1 : w50.cell? ⟨gb163, 1, none⟩ = some (.int .i64 0) := bk_ BK163; have hcz51_2 : w50.cell? ⟨gb163, 2, none⟩ = some (.int .i64 0) := bk_ BK163; have hcz51_3 : w50.cell? ⟨gb163, 3, none⟩ = some (.int .i64 0) := bk_ BK163; have hcz51_4 : w50.cell? ⟨gb163, 4, none⟩ = some (.int .i64 0) := bk_ BK163; have hcz51_5 : w50.cell? ⟨gb163, 5, none⟩ = some (.int .i64 0) := bk_ BK163; have hcz51_6 : w50.cell? ⟨gb163, 6, none⟩ = some (.int .i64 0) := bk_ BK163; have hfz51_0 := blk_frozen BK163.out 0; have hfz51_1 := blk_frozen BK163.out 1; have hfz51_2 := blk_frozen BK163.out 2; have hfz51_3 := blk_frozen BK163.out 3; have hfz51_4 := blk_frozen BK163.out 4; have hfz51_5 := blk_frozen BK163.out 5; have hfz51_6 := blk_frozen BK163.out 6) | ((with_reducible refine gc 51 rfl ?_); refine cl_ (some 15) Tryz.func51 (strconv_Itoa.calls t157 t164 _ (Amb.at HG.out blw) A4.out) ?_; rintro w52 hb; replace BK163 := Aside0.mk (blk_below (g := gb163) (o := .cells #[.int .i64 t155, .int .i64 t156, .int .i64 t157, .int .i64 t158, .int .i64 t159, .int .i64 t160, .int .i64 t161] 67 (0, 0)) (by (with_reducible repeat (first | refine blk_drewN ?_ _ | refine blk_drew ?_ | refine blk_alloc ?_ _)); refine blk_put (cs := #[.int .i64 t155, .int .i64 t156, .int .i64 t157, .int .i64 t158, .int .i64 t159, .int .i64 t160, .int .i64 0]) ?_ 6 _ rfl; (with_reducible repeat (first | refine blk_drewN ?_ _ | refine blk_drew ?_ | refine blk_alloc ?_ _)); refine blk_put (cs := #[.int .i64 t155, .int .i64 t156, .int .i64 t157, .int .i64 t158, .int .i64 t159, .int .i64 0, .int .i64 0]) ?_ 5 _ rfl; (with_reducible repeat (first | refine blk_drewN ?_ _ | refine blk_drew ?_ | refine blk_alloc ?_ _)); refine blk_put (cs := #[.int .i64 t155, .int .i64 t156, .int .i64 t157, .int .i64 t158, .int .i64 0, .int .i64 0, .int .i64 0]) ?_ 4 _ rfl; (with_reducible repeat (first | refine blk_drewN ?_ _ | refine blk_drew ?_ | refine blk_alloc ?_ _)); refine blk_put (cs := #[.int .i64 t155, .int .i64 t156, .int .i64 t157, .int .i64 0, .int .i64 0, .int .i64 0, .int .i64 0]) ?_ 3 _ rfl; (with_reducible repeat (first | refine blk_drewN ?_ _ | refine blk_drew ?_ | refine blk_alloc ?_ _)); refine blk_put (cs := #[.int .i64 t155, .int .i64 t156, .int .i64 0, .int .i64 0, .int .i64 0, .int .i64 0, .int .i64 0]) ?_ 2 _ rfl; (with_reducible repeat (first | refine blk_drewN ?_ _ | refine blk_drew ?_ | refine blk_alloc ?_ _)); refine blk_put (cs := #[.int .i64 t155, .int .i64 0, .int .i64 0, .int .i64 0, .int .i64 0, .int .i64 0, .int .i64 0]) ?_ 1 _ rfl; (with_reducible repeat (first | refine blk_drewN ?_ _ | refine blk_drew ?_ | refine blk_alloc ?_ _)); refine blk_put (cs := #[.int .i64 0, .int .i64 0, .int .i64 0, .int .i64 0, .int .i64 0, .int .i64 0, .int .i64 0]) ?_ 0 _ rfl; (with_reducible repeat (first | refine blk_drewN ?_ _ | refine blk_drew ?_ | refine blk_alloc ?_ _)); exact BK163.out) hb); replace HB := Aside0.mk (below_step blw hb); (try clear hb); have hcz53_0 : w52.cell? ⟨gb163, 0, none⟩ = some (.int .i64 t155) := bk_ BK163; have hcz53_1 : w52.cell? ⟨gb163, 1, none⟩ = some (.int .i64 t156) := bk_ BK163; have hcz53_2 : w52.cell? ⟨gb163, 2, none⟩ = some (.int .i64 t157) := bk_ BK163; have hcz53_3 : w52.cell? ⟨gb163, 3, none⟩ = some (.int .i64 t158) := bk_ BK163; have hcz53_4 : w52.cell? ⟨gb163, 4, none⟩ = some (.int .i64 t159) := bk_ BK163; have hcz53_5 : w52.cell? ⟨gb163, 5, none⟩ = some (.int .i64 t160) := bk_ BK163; have hcz53_6 : w52.cell? ⟨gb163, 6, none⟩ = some (.int .i64 t161) := bk_ BK163; have hfz53_0 := blk_frozen BK163.out 0; have hfz53_1 := blk_frozen BK163.out 1; have hfz53_2 := blk_frozen BK163.out 2; have hfz53_3 := blk_frozen BK163.out 3; have hfz53_4 := blk_frozen BK163.out 4; have hfz53_5 := blk_frozen BK163.out 5; have hfz53_6 := blk_frozen BK163.out 6))
   replace BK163 := Aside0.mk (blk_drew BK163.out)
   replace HB := Aside0.mk (below_drew1 HB.out)
   have p34 : 0 ≤ (t161 : Int) := od_
   have q34 : (t161 : Int) < 7 := od_
   have hw34_0 : w.cell? ⟨0, (t161).toNat, none⟩ = some (.string (rdOf ByteArray.empty Tab0 t161)) := HG.out.t0 t161 p34 q34
   have hx34_0 := (HB.out.cell (World.block_lt_of_cell? w _ hw34_0)).trans hw34_0
   replace p34 := eq_true p34
   replace q34 := eq_true q34
   have p39 : 0 ≤ ((ji36) : Int) := od_
   have q39 : ((ji36) : Int) < 12 := od_
   have hw39_0 : w.cell? ⟨1, ((ji36)).toNat, none⟩ = some (.string (rdOf ByteArray.empty Tab1 (ji36))) := HG.out.t1 (ji36) p39 q39
   have hx39_0 := (HB.out.cell (World.block_lt_of_cell? w _ hw39_0)).trans hw39_0
   replace p39 := eq_true p39
   replace q39 := eq_true q39
   refine start_ (n := 24) (S := fun w' => w'.cell? ⟨gb163, 0, none⟩ = some (.int .i64 t155) ∧ w'.cell? ⟨gb163, 1, none⟩ = some (.int .i64 t156) ∧ w'.cell? ⟨gb163, 2, none⟩ = some (.int .i64 t157) ∧ w'.cell? ⟨gb163, 3, none⟩ = some (.int .i64 t158) ∧ w'.cell? ⟨gb163, 4, none⟩ = some (.int .i64 t159) ∧ w'.cell? ⟨gb163, 5, none⟩ = some (.int .i64 t160) ∧ w'.cell? ⟨gb163, 6, none⟩ = some (.int .i64 t161) ∧ w'.cell? ⟨0, (t161).toNat, none⟩ = some (.string (rdOf ByteArray.empty Tab0 t161)) ∧ w'.cell? ⟨1, ((ji36)).toNat, none⟩ = some (.string (rdOf ByteArray.empty Tab1 (ji36)))) (ds := []) (ba 24 0) (by kernel_rfl) rfl rfl ⟨bk_ BK163, bk_ BK163, bk_ BK163, bk_ BK163, bk_ BK163, bk_ BK163, bk_ BK163, hc_ hw34_0, hc_ hw39_0⟩ (fun hHeld => ?_); refine with_tabW date_Line.tab7 date_Line.bits7 (fun HT_ HW_ => ?_)
   generalize w52.drew = w54 at BK163 HB hx34_0 hx39_0 hHeld ⊢
   refine pu_ 0 21 1 ?_
   refine pu_ 5 26 33 ?_
   refine pu_ 12 33 4129 ?_
   refine pu_ 19 40 528417 ?_
   refine tk_ 1 22 528419 hHeld ?_
   refine pu_ 2 23 528423 ?_
   refine tk_ 3 24 528431 hHeld ?_
   refine pu_ 4 25 528447 ?_
   refine tk_ 6 27 528511 hHeld ?_
   refine pu_ 7 28 528639 ?_
   refine pu_ 8 29 528895 ?_
   refine tk_ 9 30 529407 hHeld ?_
   refine pu_ 10 31 530431 ?_
   refine pu_ 11 32 532479 ?_
   refine pu_ 13 34 540671 ?_
   refine pu_ 14 35 557055 ?_
   refine tk_ 15 36 589823 hHeld ?_
   refine tk_ 20 41 1638399 hHeld ?_
   refine one1 16 (some 37) 1703935 (fun K hK => ?_)
   refine go1 Tryz.func52 #[.agg #[.int .i64 t155, .int .i64 t156, .int .i64 t157, .int .i64 t158, .int .i64 t159, .int .i64 t160, .int .i64 t161]] ?_
   with_reducible refine (date_clock.calls t155 t156 t157 t158 t159 t160 t161 t167 _ A44.out).mono ?_
   rintro e w55 ⟨rfl, hb⟩
   refine ⟨_, rfl, ?_⟩
   replace BK163 := Aside0.mk (blk_below (g := gb163) (o := .cells #[.int .i64 t155, .int .i64 t156, .int .i64 t157, .int .i64 t158, .int .i64 t159, .int .i64 t160, .int .i64 t161] 67 (0, 0)) (bkw BK163) hb)
   replace HB := Aside0.mk (below_step blw hb)
   (try clear hb)
   refine hK.out _ _ ⟨bk_ BK163, bk_ BK163, bk_ BK163, bk_ BK163, bk_ BK163, bk_ BK163, bk_ BK163, hc_ hw34_0, hc_ hw39_0⟩ (fun hHeld => ?_)
   clear hK K
   refine nm_ (some 37) ?_
   refine pu_ 17 38 1835007 ?_
   refine pu_ 18 39 2097151 ?_
   refine one1 21 (some 42) 4194303 (fun K hK => ?_)
   refine go1 Tryz.func51 #[.int .i64 t155] ?_
   with_reducible refine (strconv_Itoa.calls t155 t168 _ ?side1 A47.out).mono ?_
   (case side1 => exact Amb.at HG.out blw)
   rintro e w56 ⟨rfl, hb⟩
   refine ⟨_, rfl, ?_⟩
   replace BK163 := Aside0.mk (blk_below (g := gb163) (o := .cells #[.int .i64 t155, .int .i64 t156, .int .i64 t157, .int .i64 t158, .int .i64 t159, .int .i64 t160, .int .i64 t161] 67 (0, 0)) (bkw BK163) hb)
   replace HB := Aside0.mk (below_step blw hb)
   (try clear hb)
   refine hK.out _ _ ⟨bk_ BK163, bk_ BK163, bk_ BK163, bk_ BK163, bk_ BK163, bk_ BK163, bk_ BK163, hc_ hw34_0, hc_ hw39_0⟩ (fun hHeld => ?_)
   clear hK K
   refine nm_ (some 42) ?_
   refine pu_ 22 43 8388607 ?_
   refine pu_ 23 2 16777215 ?_
   refine done_ (done_of HT_.out (by kernel_rfl)) ?_
   try go_wp2
   go_ret
   exact ⟨by first | rfl | (simp [errW_none, errW_some] <;> rfl) | (simp only [← hji36]; first | rfl | (simp [errW_none, errW_some] <;> rfl)) | (simp [*, errW_none, errW_some] <;> rfl), blw⟩
 ·replace c3 := Bool.eq_false_iff.mpr c3
  subst c3
  rw [if_neg nft] at H
  obtain rfl := Option.some.inj H
  go_enter Tryz.func31, Tryz.ntmps31
  go_wp2_with (first | ((with_reducible refine gc 50 rfl ?_); refine cl_ (some 8) Tryz.func50 (date_Of.calls k a0 t155 t156 t157 t158 t159 t160 t161 false _ (Amb.at HG.out blw) A2.out) ?_; rintro w57 hb; replace HB := Aside0.mk (below_step blw hb); (try clear hb)) | ((with_reducible refine gate_dst (N := 3) rfl ?_); refine box_event ?hg (N := 3) ?hd (cs := #[.int .i64 0, .int .i64 0, .int .i64 0, .int .i64 0, .int .i64 0, .int .i64 0, .int .i64 0]) (t := 67) ?hr ?_; (case hd => rfl); (case hg => rfl); (case hr => first | (go_simp; done) | (go_simp; rfl)); intro gb163 hg w58 hbox hb; have BK163 := Aside0.mk (hbox); have GW163 : Aside0 (w.heap.size ≤ gb163) := gw_ hg; have GE163 : Aside0 (w.heap.size ≤ gb163) := gw_ hg; replace HB := Aside0.mk (below_step blw hb); clear hb hbox hg; have hcz59_0 : w58.cell? ⟨gb163, 0, none⟩ = some (.int .i64 0) := bk_ BK163; have hcz59_1 : w58.cell? ⟨gb163, 1, none⟩ = some (.int .i64 0) := bk_ BK163; have hcz59_2 : w58.cell? ⟨gb163, 2, none⟩ = some (.int .i64 0) := bk_ BK163; have hcz59_3 : w58.cell? ⟨gb163, 3, none⟩ = some (.int .i64 0) := bk_ BK163; have hcz59_4 : w58.cell? ⟨gb163, 4, none⟩ = some (.int .i64 0) := bk_ BK163; have hcz59_5 : w58.cell? ⟨gb163, 5, none⟩ = some (.int .i64 0) := bk_ BK163; have hcz59_6 : w58.cell? ⟨gb163, 6, none⟩ = some (.int .i64 0) := bk_ BK163; have hfz59_0 := blk_frozen BK163.out 0; have hfz59_1 := blk_frozen BK163.out 1; have hfz59_2 := blk_frozen BK163.out 2; have hfz59_3 := blk_frozen BK163.out 3; have hfz59_4 := blk_frozen BK163.out 4; have hfz59_5 := blk_frozen BK163.out 5; have hfz59_6 := blk_frozen BK163.out 6))
  go_ret
  exact ⟨by first | rfl | (simp [errW_none, errW_some] <;> rfl) | (simp [*, errW_none, errW_some] <;> rfl), blw⟩

/-! ### stringslite_HasSuffix: function 53 -/
def stringslite_HasSuffix.f (a0 : ByteArray) (a1 : ByteArray) : Option (Bool) := if (a0.size : Int) ≥ (a1.size : Int) then (if 0 ≤ (wrap64 ((a0.size : Int) - (a1.size : Int))) then (if (wrap64 ((a0.size : Int) - (a1.size : Int))) ≤ (a0.size : Int) then (some ((a0.extract ((wrap64 ((a0.size : Int) - (a1.size : Int))) : Int).toNat a0.size).toList == a1.toList)) else (none)) else (none)) else (some false)
set_option maxHeartbeats 8000000 in
set_option maxRecDepth 100000 in
theorem stringslite_HasSuffix.calls (a0 : ByteArray) (a1 : ByteArray) (r : Bool) (w : World) (h : stringslite_HasSuffix.f a0 a1 = some r) :
    Calls Tryz.prog 53 #[.string a0, .string a1] w fun e w' => e = .returned (.bool r) ∧ Drawn0 w w' := by
 unfold stringslite_HasSuffix.f at h
 have H := h
 clear h
 by_cases c3 : (a0.size : Int) ≥ (a1.size : Int)
 ·rw [if_pos c3] at H
  have c3b0 : decide ((a1.size : Int) ≤ (a0.size : Int)) = true := decide_eq_true c3
  have c3b1 : decide (a1.size ≤ a0.size) = true := decide_eq_true (Int.ofNat_le.mp c3)
  clear c3
  obtain ⟨ji4, hji4⟩ : ∃ j_ : Int, (wrap64 ((a0.size : Int) - (a1.size : Int))) = j_ := ⟨_, rfl⟩
  replace H : (if 0 ≤ (ji4) then (if (ji4) ≤ (a0.size : Int) then (some ((a0.extract ((ji4) : Int).toNat a0.size).toList == a1.toList)) else (none)) else (none)) = some r := by first | (rw [hji4] at H; exact H) | (simp only [hji4] at H ⊢; exact H)
  have hji4w : (IntKind.i64.wrap ((a0.size : Int) - (a1.size : Int))) = ji4 := (i64_w _).trans hji4
  obtain ⟨c5, H⟩ := iteS H
  have c5b0 := eq_true c5
  have c5b1 := decide_eq_true c5
  clear c5
  obtain ⟨c6, H⟩ := iteS H
  have c6b0 := eq_true c6
  have c6b1 := decide_eq_true c6
  clear c6
  obtain rfl := Option.some.inj H
  go_enter Tryz.func53, Tryz.ntmps53
  go_wp2
  go_ret
  exact ⟨by first | rfl | (simp; done) | (simp only [← hji4] <;> (first | rfl | simp)) | (simp [*]; done), drw⟩
 ·rw [if_neg c3] at H
  have c3b0 : decide ((a1.size : Int) ≤ (a0.size : Int)) = false := decide_eq_false c3
  have c3b1 : decide (a1.size ≤ a0.size) = false := decide_eq_false (fun h => c3 (Int.ofNat_le.mpr h))
  clear c3
  obtain rfl := Option.some.inj H
  go_enter Tryz.func53, Tryz.ntmps53
  go_wp2
  go_ret
  exact ⟨eqs, drw⟩

/-! ### strings_HasSuffix: function 32 -/
def strings_HasSuffix.f (a0 : ByteArray) (a1 : ByteArray) : Option (Bool) := (stringslite_HasSuffix.f a0 a1).bind fun t169 => (some t169)
set_option maxHeartbeats 8000000 in
set_option maxRecDepth 100000 in
theorem strings_HasSuffix.calls (a0 : ByteArray) (a1 : ByteArray) (r : Bool) (w : World) (h : strings_HasSuffix.f a0 a1 = some r) :
    Calls Tryz.prog 32 #[.string a0, .string a1] w fun e w' => e = .returned (.bool r) ∧ Drawn0 w w' := by
 unfold strings_HasSuffix.f at h
 have H := h
 clear h
 replace H := Option.bind_eq_some_iff.mp H
 obtain ⟨t169, A30, H⟩ := H
 try dsimp only at H
 have A3 := Aside0.mk A30
 clear A30
 obtain rfl := Option.some.inj H
 go_enter Tryz.func32, Tryz.ntmps32
 go_wp2_with (first | ((with_reducible refine gc 53 rfl ?_); refine cl_ (some 7) Tryz.func53 (stringslite_HasSuffix.calls a0 a1 t169 _ A3.out) ?_; rintro w' ⟨nd, rfl⟩))
 go_ret
 exact ⟨eqs, drw⟩

end Go.Proofs.YtcpmoolpbeeedaaGreatDoor.Q
