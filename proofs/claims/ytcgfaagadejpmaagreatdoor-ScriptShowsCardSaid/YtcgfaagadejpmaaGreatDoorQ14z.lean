-- Written by a program of this session (wip/myprint) out of the translation, for YtcgfaagadejpmaaGreatDoor.
import Derived.Test.YtcgfaagadejpmaaGreatDoorQ14d
namespace Go.Proofs.YtcgfaagadejpmaaGreatDoor.Q
open Go.RowKit Go.Proofs.YtcgfaagadejpmaaGreatDoorW.PrintWords Go.Proofs.YtcgfaagadejpmaaGreatDoorW.PrintLast Go.Proofs.YtcgfaagadejpmaaGreatDoorW.PrintMore Go.Proofs.YtcgfaagadejpmaaGreatDoorW.PrintSq
set_option linter.unusedVariables false
set_option linter.unusedSimpArgs false
set_option maxHeartbeats 8000000 in
set_option maxRecDepth 100000 in
theorem script_step.calls_z (k : Nat) (a0 : Int) (A1 : Option Addr) (c1 : Nat) (l1 : List ByteArray) (r1 : Int) (r2 : ByteArray) (r3 : ByteArray) (r4 : ByteArray) (r5 : Int) (r6 : Bool) (w : World) (hG : Amb w) (hr1 : Kd.C Kd.string w A1 l1.length l1) (hc1 : l1.length ≤ c1) (h : script_step.f k a0 l1 = some (r1, r2, r3, r4, r5, r6)) (c3 : ¬ a0 = 1) (c6 : ¬ a0 = 2) (c18 : ¬ a0 = 3) (c78 : ¬ a0 = 4) (c98 : ¬ a0 = 8) :
    Calls Tryz.prog 33 #[.int .i64 a0, .slice A1 l1.length c1] w fun e w' => e = .returned (.tuple #[.agg #[.int .i64 r1, .string r2, .string r3, .string r4, .int .i64 r5], .bool r6]) ∧ Below w.heap.size w w' := by
 have hu28 := Tryz.underlying28
 have HR1 := Aside0.mk hr1
 have HC1 := Aside0.mk hc1
 clear hr1 hc1
 have HB := Aside0.mk (Below.refl w.heap.size w)
 unfold script_step.f at h
 have H := h
 clear h
 have HG := Aside0.mk hG
 clear hG
 rw [if_neg c3] at H
 have c3b0 := beq_eq_false_iff_ne.mpr c3
 have c3b1 := bne_iff_ne.mpr c3
 rw [if_neg c6] at H
 have c6b0 := beq_eq_false_iff_ne.mpr c6
 have c6b1 := bne_iff_ne.mpr c6
 rw [if_neg c18] at H
 have c18b0 := beq_eq_false_iff_ne.mpr c18
 have c18b1 := bne_iff_ne.mpr c18
 rw [if_neg c78] at H
 have c78b0 := beq_eq_false_iff_ne.mpr c78
 have c78b1 := bne_iff_ne.mpr c78
 rw [if_neg c98] at H
 have c98b0 := beq_eq_false_iff_ne.mpr c98
 have c98b1 := bne_iff_ne.mpr c98
 have HC120 := Aside0.mk H
 clear H
 go_enter Tryz.func33, Tryz.ntmps33
 go_upto_if 104 with (first | ((with_reducible refine gate_dst (N := 4) rfl ?_); refine box_event ?hg (N := 4) ?hd (cs := #[.int .i64 0, .string (⟨#[]⟩ : ByteArray), .string (⟨#[]⟩ : ByteArray), .string (⟨#[]⟩ : ByteArray), .int .i64 0]) (t := 28) ?hr ?_; (case hd => rfl); (case hg => rfl); (case hr => first | (go_simp; done) | (go_simp; rfl)); intro gb246 hg w121 hbox hb; have BK246 := Aside0.mk (hbox); have GW246 : Aside0 (w.heap.size ≤ gb246) := gw_ hg; have GE246 : Aside0 (w.heap.size ≤ gb246) := gw_ hg; replace HB := Aside0.mk (below_step blw hb); clear hb hbox hg; have hcz122_0 : w121.cell? ⟨gb246, 0, none⟩ = some (.int .i64 0) := bk_ BK246; have hcz122_1 : w121.cell? ⟨gb246, 1, none⟩ = some (.string (⟨#[]⟩ : ByteArray)) := bk_ BK246; have hcz122_2 : w121.cell? ⟨gb246, 2, none⟩ = some (.string (⟨#[]⟩ : ByteArray)) := bk_ BK246; have hcz122_3 : w121.cell? ⟨gb246, 3, none⟩ = some (.string (⟨#[]⟩ : ByteArray)) := bk_ BK246; have hcz122_4 : w121.cell? ⟨gb246, 4, none⟩ = some (.int .i64 0) := bk_ BK246; have hfz122_0 := blk_frozen BK246.out 0; have hfz122_1 := blk_frozen BK246.out 1; have hfz122_2 := blk_frozen BK246.out 2; have hfz122_3 := blk_frozen BK246.out 3; have hfz122_4 := blk_frozen BK246.out 4))
 (try simp only [Act.put, List.setIfInBounds_toArray, List.set_cons_zero, List.set_cons_succ])
 go_cut [104] (fun v104 wc => ∃ (kq : Nat) (x104_119 : Bool), v104 = .bool x104_119 ∧ Aside0 (script_step.j0 kq l1 false a0 x104_119 a0 (⟨#[]⟩ : ByteArray) (⟨#[]⟩ : ByteArray) (⟨#[]⟩ : ByteArray) 0 = some (r1, r2, r3, r4, r5, r6)) ∧ Aside0 (kq ≤ k) ∧ Aside0 (wc.heap[gb246]? = some (.cells #[.int .i64 a0, .string (⟨#[]⟩ : ByteArray), .string (⟨#[]⟩ : ByteArray), .string (⟨#[]⟩ : ByteArray), .int .i64 0] 28 (0, 0))) ∧ Aside0 (Below w.heap.size w wc))
 case first => as_aux_lemma =>
  have H := HC120.out
  clear HC120
  by_cases c123 : a0 = 5
  ·rw [if_pos c123] at H
   have c123b0 := beq_iff_eq.mpr c123
   have c123b1 := bne_eq_false_iff_eq.mpr c123
   clear c123
   (first | rw [c123b0] | (simp only [i64_w, i32_w]; rw [c123b0]) | skip)
   have H' := Aside0.mk H
   clear H
   try clear H
   go_wp2
   go_meet
   case rel => exact ⟨_, ((a0 == 5)), (by first | rfl | (simp; done) | (simp [*]; done) | (simp; exact (by intro l_; cases l_ <;> rfl : ∀ l_ : List UInt8, l_.isEmpty = !(l_ != [])) _)), H', omk, ⟨by (with_reducible repeat (first | refine blk_drewN ?_ _ | refine blk_drew ?_ | refine blk_alloc ?_ _)); refine blk_put (cs := #[.int .i64 0, .string (⟨#[]⟩ : ByteArray), .string (⟨#[]⟩ : ByteArray), .string (⟨#[]⟩ : ByteArray), .int .i64 0]) ?_ 0 _ rfl; (with_reducible repeat (first | refine blk_drewN ?_ _ | refine blk_drew ?_ | refine blk_alloc ?_ _)); exact BK246.out⟩, ⟨blw⟩⟩
  ·rw [if_neg c123] at H
   have c123b0 := beq_eq_false_iff_ne.mpr c123
   have c123b1 := bne_iff_ne.mpr c123
   (first | rw [c123b0] | (simp only [i64_w, i32_w]; rw [c123b0]) | skip)
   by_cases c124 : a0 = 6
   ·rw [if_pos c124] at H
    have c124b0 := beq_iff_eq.mpr c124
    have c124b1 := bne_eq_false_iff_eq.mpr c124
    clear c124
    have H' := Aside0.mk H
    clear H
    try clear H
    go_wp2
    go_meet
    case rel => exact ⟨_, ((a0 == 6)), (by first | rfl | (simp; done) | (simp [*]; done) | (simp; exact (by intro l_; cases l_ <;> rfl : ∀ l_ : List UInt8, l_.isEmpty = !(l_ != [])) _)), H', omk, ⟨by (with_reducible repeat (first | refine blk_drewN ?_ _ | refine blk_drew ?_ | refine blk_alloc ?_ _)); refine blk_put (cs := #[.int .i64 0, .string (⟨#[]⟩ : ByteArray), .string (⟨#[]⟩ : ByteArray), .string (⟨#[]⟩ : ByteArray), .int .i64 0]) ?_ 0 _ rfl; (with_reducible repeat (first | refine blk_drewN ?_ _ | refine blk_drew ?_ | refine blk_alloc ?_ _)); exact BK246.out⟩, ⟨blw⟩⟩
   ·rw [if_neg c124] at H
    have c124b0 := beq_eq_false_iff_ne.mpr c124
    have c124b1 := bne_iff_ne.mpr c124
    have H' := Aside0.mk H
    clear H
    try clear H
    go_wp2
    go_meet
    case rel => exact ⟨_, ((a0 == 7)), (by first | rfl | (simp; done) | (simp [*]; done) | (simp; exact (by intro l_; cases l_ <;> rfl : ∀ l_ : List UInt8, l_.isEmpty = !(l_ != [])) _)), H', omk, ⟨by (with_reducible repeat (first | refine blk_drewN ?_ _ | refine blk_drew ?_ | refine blk_alloc ?_ _)); refine blk_put (cs := #[.int .i64 0, .string (⟨#[]⟩ : ByteArray), .string (⟨#[]⟩ : ByteArray), .string (⟨#[]⟩ : ByteArray), .int .i64 0]) ?_ 0 _ rfl; (with_reducible repeat (first | refine blk_drewN ?_ _ | refine blk_drew ?_ | refine blk_alloc ?_ _)); exact BK246.out⟩, ⟨blw⟩⟩
 case rest => as_aux_lemma =>
  clear HC120
  try clear c1
  try clear p2
  try clear q2
  try clear hx2
  try clear qi2
  try clear c3
  try clear c4
  try clear c7
  try clear c8
  try clear c9
  try clear c10
  try clear c12
  try clear p26
  try clear q26
  try clear hx26
  try clear qi26
  try clear c33
  try clear c44
  try clear c78
  try clear c78b0
  try clear c78b1
  try clear c79
  try clear c80
  try clear c82
  try clear c98
  try clear c98b0
  try clear c98b1
  try clear c99
  try clear c99b0
  try clear c99b1
  try clear c100
  try clear c100b0
  try clear c100b1
  try clear c102
  try clear c123
  try clear c123b0
  try clear c123b1
  try clear c124
  try clear c124b0
  try clear c124b1
  try clear hcz105_0 hcz105_1 hcz105_2 hcz105_3 hcz105_4
  try clear hcz110_0 hcz110_1 hcz110_2 hcz110_3 hcz110_4
  try clear hcz112_0 hcz112_1 hcz112_2 hcz112_3 hcz112_4
  try clear hcz114_0 hcz114_1 hcz114_2 hcz114_3 hcz114_4
  try clear hcz119_0 hcz119_1 hcz119_2 hcz119_3 hcz119_4
  try clear hcz122_0 hcz122_1 hcz122_2 hcz122_3 hcz122_4
  try clear hcz90_0 hcz90_1 hcz90_2 hcz90_3 hcz90_4
  try clear hcz92_0 hcz92_1 hcz92_2 hcz92_3 hcz92_4
  try clear hcz97_0 hcz97_1 hcz97_2 hcz97_3 hcz97_4
  try clear hfz105_0 hfz105_1 hfz105_2 hfz105_3 hfz105_4
  try clear hfz110_0 hfz110_1 hfz110_2 hfz110_3 hfz110_4
  try clear hfz112_0 hfz112_1 hfz112_2 hfz112_3 hfz112_4
  try clear hfz114_0 hfz114_1 hfz114_2 hfz114_3 hfz114_4
  try clear hfz119_0 hfz119_1 hfz119_2 hfz119_3 hfz119_4
  try clear hfz122_0 hfz122_1 hfz122_2 hfz122_3 hfz122_4
  try clear hfz90_0 hfz90_1 hfz90_2 hfz90_3 hfz90_4
  try clear hfz92_0 hfz92_1 hfz92_2 hfz92_3 hfz92_4
  try clear hfz97_0 hfz97_1 hfz97_2 hfz97_3 hfz97_4
  try clear hx260_0
  try clear hx261_0
  try clear hx264_0
  try clear hx265_0
  try clear p260
  try clear p261
  try clear p264
  try clear p265
  try clear q260
  try clear q261
  try clear q264
  try clear q265
  obtain ⟨kq, x104_119, rfl, HA, HJ119, BK246, HB⟩ := hcut
  cases kq with
  | zero => exact absurd HA.out (by simp [script_step.j0])
  | succ kj119 =>
   have H := HA.out
   clear HA
   simp only [script_step.j0] at H
   by_cases c125 : x104_119 = true
   ·subst c125
    rw [if_pos rfl] at H
    obtain ⟨c126, H⟩ := iteS H
    have c126b0 := decide_eq_true c126
    have c126b1 : decide (0 < l1.length) = true := decide_eq_true (by omega)
    clear c126
    replace H := Option.bind_eq_some_iff.mp H
    obtain ⟨t269, A1270, H⟩ := H
    try dsimp only at H
    have A127 := Aside0.mk A1270
    clear A1270
    by_cases c128 : t269 ≥ 1
    ·rw [if_pos c128] at H
     have c128b0 : decide (1 ≤ t269) = true := decide_eq_true c128
     clear c128
     simp only [Option.some.injEq, Prod.mk.injEq] at H
     obtain ⟨rfl, rfl, rfl, rfl, rfl, rfl⟩ := H
     have p268 : 0 ≤ (0 : Int) := (by omega)
     have q268 : 0 < (l1.length : Int) := od_
     obtain ⟨ad268, e268, hx268_0⟩ := Kd.at_string HR1.out 0 p268 q268
     cases e268
     have qi268 : (0 < l1.length) = True := eq_true (by omega)
     (try rw [show ((0 : Int)).toNat = 0 from rfl] at hx268_0)
     (try rw [Addr.add_zero'] at hx268_0)
     replace hx268_0 := (HB.out.cell (World.block_lt_of_cell? w _ hx268_0)).trans hx268_0
     replace p268 := eq_true p268
     replace q268 := eq_true q268
     go_wp2_with (first | ((with_reducible refine gc 45 rfl ?_); refine cl_ (some 111) Tryz.func45 (script_number.calls kj119 (rdOf ByteArray.empty l1 0) t269 _ (Amb.at HG.out blw) A127.out) ?_; rintro w129 hb; replace BK246 := Aside0.mk (blk_below (g := gb246) (o := .cells #[.int .i64 a0, .string (⟨#[]⟩ : ByteArray), .string (⟨#[]⟩ : ByteArray), .string (⟨#[]⟩ : ByteArray), .int .i64 0] 28 (0, 0)) (bkw BK246) hb); replace HB := Aside0.mk (below_step blw hb); (try clear hb); have hcz130_0 : w129.cell? ⟨gb246, 0, none⟩ = some (.int .i64 a0) := bk_ BK246; have hcz130_1 : w129.cell? ⟨gb246, 1, none⟩ = some (.string (⟨#[]⟩ : ByteArray)) := bk_ BK246; have hcz130_2 : w129.cell? ⟨gb246, 2, none⟩ = some (.string (⟨#[]⟩ : ByteArray)) := bk_ BK246; have hcz130_3 : w129.cell? ⟨gb246, 3, none⟩ = some (.string (⟨#[]⟩ : ByteArray)) := bk_ BK246; have hcz130_4 : w129.cell? ⟨gb246, 4, none⟩ = some (.int .i64 0) := bk_ BK246; have hfz130_0 := blk_frozen BK246.out 0; have hfz130_1 := blk_frozen BK246.out 1; have hfz130_2 := blk_frozen BK246.out 2; have hfz130_3 := blk_frozen BK246.out 3; have hfz130_4 := blk_frozen BK246.out 4))
     refine bodyPost_ret (results_ct rfl _ _ gb246 28 #[.int .i64 a0, .string (⟨#[]⟩ : ByteArray), .string (⟨#[]⟩ : ByteArray), .string (⟨#[]⟩ : ByteArray), .int .i64 t269] (0, 0) _ rfl (by (with_reducible repeat (first | refine blk_drewN ?_ _ | refine blk_drew ?_ | refine blk_alloc ?_ _)); refine blk_put (cs := #[.int .i64 a0, .string (⟨#[]⟩ : ByteArray), .string (⟨#[]⟩ : ByteArray), .string (⟨#[]⟩ : ByteArray), .int .i64 t269]) ?_ 4 _ rfl; (with_reducible repeat (first | refine blk_drewN ?_ _ | refine blk_drew ?_ | refine blk_alloc ?_ _)); refine blk_put (cs := #[.int .i64 a0, .string (⟨#[]⟩ : ByteArray), .string (⟨#[]⟩ : ByteArray), .string (⟨#[]⟩ : ByteArray), .int .i64 t269]) ?_ 3 _ rfl; (with_reducible repeat (first | refine blk_drewN ?_ _ | refine blk_drew ?_ | refine blk_alloc ?_ _)); refine blk_put (cs := #[.int .i64 a0, .string (⟨#[]⟩ : ByteArray), .string (⟨#[]⟩ : ByteArray), .string (⟨#[]⟩ : ByteArray), .int .i64 t269]) ?_ 2 _ rfl; (with_reducible repeat (first | refine blk_drewN ?_ _ | refine blk_drew ?_ | refine blk_alloc ?_ _)); refine blk_put (cs := #[.int .i64 a0, .string (⟨#[]⟩ : ByteArray), .string (⟨#[]⟩ : ByteArray), .string (⟨#[]⟩ : ByteArray), .int .i64 t269]) ?_ 1 _ rfl; (with_reducible repeat (first | refine blk_drewN ?_ _ | refine blk_drew ?_ | refine blk_alloc ?_ _)); refine blk_put (cs := #[.int .i64 a0, .string (⟨#[]⟩ : ByteArray), .string (⟨#[]⟩ : ByteArray), .string (⟨#[]⟩ : ByteArray), .int .i64 t269]) ?_ 0 _ rfl; (with_reducible repeat (first | refine blk_drewN ?_ _ | refine blk_drew ?_ | refine blk_alloc ?_ _)); refine blk_put (cs := #[.int .i64 a0, .string (⟨#[]⟩ : ByteArray), .string (⟨#[]⟩ : ByteArray), .string (⟨#[]⟩ : ByteArray), .int .i64 0]) ?_ 4 _ rfl; (with_reducible repeat (first | refine blk_drewN ?_ _ | refine blk_drew ?_ | refine blk_alloc ?_ _)); exact BK246.out) Tryz.underlying28 rfl (by kernel_rfl)) rfl ?_
     exact ⟨by first | rfl | (simp [errW_none, errW_some] <;> rfl) | (simp [*, errW_none, errW_some] <;> rfl), blw⟩
    ·rw [if_neg c128] at H
     have c128b0 : decide (1 ≤ t269) = false := decide_eq_false c128
     clear c128
     simp only [Option.some.injEq, Prod.mk.injEq] at H
     obtain ⟨rfl, rfl, rfl, rfl, rfl, rfl⟩ := H
     have p268 : 0 ≤ (0 : Int) := (by omega)
     have q268 : 0 < (l1.length : Int) := od_
     obtain ⟨ad268, e268, hx268_0⟩ := Kd.at_string HR1.out 0 p268 q268
     cases e268
     have qi268 : (0 < l1.length) = True := eq_true (by omega)
     (try rw [show ((0 : Int)).toNat = 0 from rfl] at hx268_0)
     (try rw [Addr.add_zero'] at hx268_0)
     replace hx268_0 := (HB.out.cell (World.block_lt_of_cell? w _ hx268_0)).trans hx268_0
     replace p268 := eq_true p268
     replace q268 := eq_true q268
     go_wp2_with (first | ((with_reducible refine gc 45 rfl ?_); refine cl_ (some 111) Tryz.func45 (script_number.calls kj119 (rdOf ByteArray.empty l1 0) t269 _ (Amb.at HG.out blw) A127.out) ?_; rintro w131 hb; replace BK246 := Aside0.mk (blk_below (g := gb246) (o := .cells #[.int .i64 a0, .string (⟨#[]⟩ : ByteArray), .string (⟨#[]⟩ : ByteArray), .string (⟨#[]⟩ : ByteArray), .int .i64 0] 28 (0, 0)) (bkw BK246) hb); replace HB := Aside0.mk (below_step blw hb); (try clear hb); have hcz132_0 : w131.cell? ⟨gb246, 0, none⟩ = some (.int .i64 a0) := bk_ BK246; have hcz132_1 : w131.cell? ⟨gb246, 1, none⟩ = some (.string (⟨#[]⟩ : ByteArray)) := bk_ BK246; have hcz132_2 : w131.cell? ⟨gb246, 2, none⟩ = some (.string (⟨#[]⟩ : ByteArray)) := bk_ BK246; have hcz132_3 : w131.cell? ⟨gb246, 3, none⟩ = some (.string (⟨#[]⟩ : ByteArray)) := bk_ BK246; have hcz132_4 : w131.cell? ⟨gb246, 4, none⟩ = some (.int .i64 0) := bk_ BK246; have hfz132_0 := blk_frozen BK246.out 0; have hfz132_1 := blk_frozen BK246.out 1; have hfz132_2 := blk_frozen BK246.out 2; have hfz132_3 := blk_frozen BK246.out 3; have hfz132_4 := blk_frozen BK246.out 4))
     refine bodyPost_ret (results_ct rfl _ _ gb246 28 #[.int .i64 a0, .string (⟨#[]⟩ : ByteArray), .string (⟨#[]⟩ : ByteArray), .string (⟨#[]⟩ : ByteArray), .int .i64 t269] (0, 0) _ rfl (by (with_reducible repeat (first | refine blk_drewN ?_ _ | refine blk_drew ?_ | refine blk_alloc ?_ _)); refine blk_put (cs := #[.int .i64 a0, .string (⟨#[]⟩ : ByteArray), .string (⟨#[]⟩ : ByteArray), .string (⟨#[]⟩ : ByteArray), .int .i64 t269]) ?_ 4 _ rfl; (with_reducible repeat (first | refine blk_drewN ?_ _ | refine blk_drew ?_ | refine blk_alloc ?_ _)); refine blk_put (cs := #[.int .i64 a0, .string (⟨#[]⟩ : ByteArray), .string (⟨#[]⟩ : ByteArray), .string (⟨#[]⟩ : ByteArray), .int .i64 t269]) ?_ 3 _ rfl; (with_reducible repeat (first | refine blk_drewN ?_ _ | refine blk_drew ?_ | refine blk_alloc ?_ _)); refine blk_put (cs := #[.int .i64 a0, .string (⟨#[]⟩ : ByteArray), .string (⟨#[]⟩ : ByteArray), .string (⟨#[]⟩ : ByteArray), .int .i64 t269]) ?_ 2 _ rfl; (with_reducible repeat (first | refine blk_drewN ?_ _ | refine blk_drew ?_ | refine blk_alloc ?_ _)); refine blk_put (cs := #[.int .i64 a0, .string (⟨#[]⟩ : ByteArray), .string (⟨#[]⟩ : ByteArray), .string (⟨#[]⟩ : ByteArray), .int .i64 t269]) ?_ 1 _ rfl; (with_reducible repeat (first | refine blk_drewN ?_ _ | refine blk_drew ?_ | refine blk_alloc ?_ _)); refine blk_put (cs := #[.int .i64 a0, .string (⟨#[]⟩ : ByteArray), .string (⟨#[]⟩ : ByteArray), .string (⟨#[]⟩ : ByteArray), .int .i64 t269]) ?_ 0 _ rfl; (with_reducible repeat (first | refine blk_drewN ?_ _ | refine blk_drew ?_ | refine blk_alloc ?_ _)); refine blk_put (cs := #[.int .i64 a0, .string (⟨#[]⟩ : ByteArray), .string (⟨#[]⟩ : ByteArray), .string (⟨#[]⟩ : ByteArray), .int .i64 0]) ?_ 4 _ rfl; (with_reducible repeat (first | refine blk_drewN ?_ _ | refine blk_drew ?_ | refine blk_alloc ?_ _)); exact BK246.out) Tryz.underlying28 rfl (by kernel_rfl)) rfl ?_
     exact ⟨by first | rfl | (simp [errW_none, errW_some] <;> rfl) | (simp [*, errW_none, errW_some] <;> rfl), blw⟩
   ·replace c125 := Bool.eq_false_iff.mpr c125
    subst c125
    rw [if_neg nft] at H
    have HC133 := Aside0.mk H
    clear H
    go_upto_if 121 with (fail)
    go_cut [121] (fun v121 wc => ∃ (kq : Nat) (x121_132 : Bool), v121 = .bool x121_132 ∧ Aside0 (script_step.j1 kq l1 false a0 x121_132 a0 (⟨#[]⟩ : ByteArray) (⟨#[]⟩ : ByteArray) (⟨#[]⟩ : ByteArray) 0 = some (r1, r2, r3, r4, r5, r6)) ∧ Aside0 (kq ≤ kj119) ∧ Aside0 (wc.heap[gb246]? = some (.cells #[.int .i64 a0, .string (⟨#[]⟩ : ByteArray), .string (⟨#[]⟩ : ByteArray), .string (⟨#[]⟩ : ByteArray), .int .i64 0] 28 (0, 0))) ∧ Aside0 (Below w.heap.size w wc))
    case first => as_aux_lemma =>
     have H := HC133.out
     clear HC133
     by_cases c134 : a0 = 9
     ·rw [if_pos c134] at H
      have c134b0 := beq_iff_eq.mpr c134
      have c134b1 := bne_eq_false_iff_eq.mpr c134
      clear c134
      (first | rw [c134b0] | (simp only [i64_w, i32_w]; rw [c134b0]) | skip)
      have H' := Aside0.mk H
      clear H
      try clear H
      try clear c3b0 c3b1 c6 c6b0 c6b1 c18 c18b0 c18b1
      go_wp2
      go_meet
      case rel => exact ⟨_, ((a0 == 9)), (by first | rfl | (simp; done) | (simp [*]; done) | (simp; exact (by intro l_; cases l_ <;> rfl : ∀ l_ : List UInt8, l_.isEmpty = !(l_ != [])) _)), H', ⟨by have := HJ119.out; first | omega | exact Nat.le_refl _⟩, ⟨bkw BK246⟩, ⟨blw⟩⟩
     ·rw [if_neg c134] at H
      have c134b0 := beq_eq_false_iff_ne.mpr c134
      have c134b1 := bne_iff_ne.mpr c134
      (first | rw [c134b0] | (simp only [i64_w, i32_w]; rw [c134b0]) | skip)
      have H' := Aside0.mk H
      clear H
      try clear H
      try clear c3b0 c3b1 c6 c6b0 c6b1 c18 c18b0 c18b1
      go_wp2
      go_meet
      case rel => exact ⟨_, ((a0 == 10)), (by first | rfl | (simp; done) | (simp [*]; done) | (simp; exact (by intro l_; cases l_ <;> rfl : ∀ l_ : List UInt8, l_.isEmpty = !(l_ != [])) _)), H', ⟨by have := HJ119.out; first | omega | exact Nat.le_refl _⟩, ⟨bkw BK246⟩, ⟨blw⟩⟩
    case rest => as_aux_lemma =>
     clear HC133
     try clear c1
     try clear p2
     try clear q2
     try clear hx2
     try clear qi2
     try clear c3
     try clear c4
     try clear c7
     try clear c8
     try clear c9
     try clear c10
     try clear c12
     try clear c13
     try clear p26
     try clear q26
     try clear hx26
     try clear qi26
     try clear c33
     try clear c44
     try clear c45
     try clear c78
     try clear c78b0
     try clear c78b1
     try clear c79
     try clear c80
     try clear c82
     try clear c98
     try clear c98b0
     try clear c98b1
     try clear c99
     try clear c99b0
     try clear c99b1
     try clear c100
     try clear c100b0
     try clear c100b1
     try clear c102
     try clear c123
     try clear c123b0
     try clear c123b1
     try clear c124
     try clear c124b0
     try clear c124b1
     try clear c125
     try clear c126
     try clear c126b0
     try clear c126b1
     try clear c128
     try clear c128b0
     try clear c134
     try clear c134b0
     try clear c134b1
     try clear hcz105_0 hcz105_1 hcz105_2 hcz105_3 hcz105_4
     try clear hcz110_0 hcz110_1 hcz110_2 hcz110_3 hcz110_4
     try clear hcz112_0 hcz112_1 hcz112_2 hcz112_3 hcz112_4
     try clear hcz114_0 hcz114_1 hcz114_2 hcz114_3 hcz114_4
     try clear hcz119_0 hcz119_1 hcz119_2 hcz119_3 hcz119_4
     try clear hcz122_0 hcz122_1 hcz122_2 hcz122_3 hcz122_4
     try clear hcz130_0 hcz130_1 hcz130_2 hcz130_3 hcz130_4
     try clear hcz132_0 hcz132_1 hcz132_2 hcz132_3 hcz132_4
     try clear hcz90_0 hcz90_1 hcz90_2 hcz90_3 hcz90_4
     try clear hcz92_0 hcz92_1 hcz92_2 hcz92_3 hcz92_4
     try clear hcz97_0 hcz97_1 hcz97_2 hcz97_3 hcz97_4
     try clear hfz105_0 hfz105_1 hfz105_2 hfz105_3 hfz105_4
     try clear hfz110_0 hfz110_1 hfz110_2 hfz110_3 hfz110_4
     try clear hfz112_0 hfz112_1 hfz112_2 hfz112_3 hfz112_4
     try clear hfz114_0 hfz114_1 hfz114_2 hfz114_3 hfz114_4
     try clear hfz119_0 hfz119_1 hfz119_2 hfz119_3 hfz119_4
     try clear hfz122_0 hfz122_1 hfz122_2 hfz122_3 hfz122_4
     try clear hfz130_0 hfz130_1 hfz130_2 hfz130_3 hfz130_4
     try clear hfz132_0 hfz132_1 hfz132_2 hfz132_3 hfz132_4
     try clear hfz90_0 hfz90_1 hfz90_2 hfz90_3 hfz90_4
     try clear hfz92_0 hfz92_1 hfz92_2 hfz92_3 hfz92_4
     try clear hfz97_0 hfz97_1 hfz97_2 hfz97_3 hfz97_4
     try clear hx260_0
     try clear hx261_0
     try clear hx264_0
     try clear hx265_0
     try clear hx268_0
     try clear p2
     try clear p26
     try clear p260
     try clear p261
     try clear p264
     try clear p265
     try clear p268
     try clear q2
     try clear q26
     try clear q260
     try clear q261
     try clear q264
     try clear q265
     try clear q268
     obtain ⟨kq, x121_132, rfl, HA, HJ132, BK246, HB⟩ := hcut
     cases kq with
     | zero => exact absurd HA.out (by simp [script_step.j1])
     | succ kj132 =>
      have H := HA.out
      clear HA
      simp only [script_step.j1] at H
      by_cases c135 : x121_132 = true
      ·subst c135
       rw [if_pos rfl] at H
       obtain ⟨c136, H⟩ := iteS H
       have c136b0 := decide_eq_true c136
       have c136b1 : decide (0 < l1.length) = true := decide_eq_true (by omega)
       clear c136
       replace H := Option.bind_eq_some_iff.mp H
       obtain ⟨t271, A1370, H⟩ := H
       try dsimp only at H
       have A137 := Aside0.mk A1370
       clear A1370
       simp only [Option.some.injEq, Prod.mk.injEq] at H
       obtain ⟨rfl, rfl, rfl, rfl, rfl, rfl⟩ := H
       have p270 : 0 ≤ (0 : Int) := (by omega)
       have q270 : 0 < (l1.length : Int) := od_
       obtain ⟨ad270, e270, hx270_0⟩ := Kd.at_string HR1.out 0 p270 q270
       cases e270
       have qi270 : (0 < l1.length) = True := eq_true (by omega)
       (try rw [show ((0 : Int)).toNat = 0 from rfl] at hx270_0)
       (try rw [Addr.add_zero'] at hx270_0)
       replace hx270_0 := (HB.out.cell (World.block_lt_of_cell? w _ hx270_0)).trans hx270_0
       replace p270 := eq_true p270
       replace q270 := eq_true q270
       go_wp2_with (first | ((with_reducible refine gc 45 rfl ?_); refine cl_ (some 127) Tryz.func45 (script_number.calls kj132 (rdOf ByteArray.empty l1 0) t271 _ (Amb.at HG.out blw) A137.out) ?_; rintro w138 hb; replace BK246 := Aside0.mk (blk_below (g := gb246) (o := .cells #[.int .i64 a0, .string (⟨#[]⟩ : ByteArray), .string (⟨#[]⟩ : ByteArray), .string (⟨#[]⟩ : ByteArray), .int .i64 0] 28 (0, 0)) (bkw BK246) hb); replace HB := Aside0.mk (below_step blw hb); (try clear hb); have hcz139_0 : w138.cell? ⟨gb246, 0, none⟩ = some (.int .i64 a0) := bk_ BK246; have hcz139_1 : w138.cell? ⟨gb246, 1, none⟩ = some (.string (⟨#[]⟩ : ByteArray)) := bk_ BK246; have hcz139_2 : w138.cell? ⟨gb246, 2, none⟩ = some (.string (⟨#[]⟩ : ByteArray)) := bk_ BK246; have hcz139_3 : w138.cell? ⟨gb246, 3, none⟩ = some (.string (⟨#[]⟩ : ByteArray)) := bk_ BK246; have hcz139_4 : w138.cell? ⟨gb246, 4, none⟩ = some (.int .i64 0) := bk_ BK246; have hfz139_0 := blk_frozen BK246.out 0; have hfz139_1 := blk_frozen BK246.out 1; have hfz139_2 := blk_frozen BK246.out 2; have hfz139_3 := blk_frozen BK246.out 3; have hfz139_4 := blk_frozen BK246.out 4))
       refine bodyPost_ret (results_ct rfl _ _ gb246 28 #[.int .i64 a0, .string (⟨#[]⟩ : ByteArray), .string (⟨#[]⟩ : ByteArray), .string (⟨#[]⟩ : ByteArray), .int .i64 t271] (0, 0) _ rfl (by (with_reducible repeat (first | refine blk_drewN ?_ _ | refine blk_drew ?_ | refine blk_alloc ?_ _)); refine blk_put (cs := #[.int .i64 a0, .string (⟨#[]⟩ : ByteArray), .string (⟨#[]⟩ : ByteArray), .string (⟨#[]⟩ : ByteArray), .int .i64 t271]) ?_ 4 _ rfl; (with_reducible repeat (first | refine blk_drewN ?_ _ | refine blk_drew ?_ | refine blk_alloc ?_ _)); refine blk_put (cs := #[.int .i64 a0, .string (⟨#[]⟩ : ByteArray), .string (⟨#[]⟩ : ByteArray), .string (⟨#[]⟩ : ByteArray), .int .i64 t271]) ?_ 3 _ rfl; (with_reducible repeat (first | refine blk_drewN ?_ _ | refine blk_drew ?_ | refine blk_alloc ?_ _)); refine blk_put (cs := #[.int .i64 a0, .string (⟨#[]⟩ : ByteArray), .string (⟨#[]⟩ : ByteArray), .string (⟨#[]⟩ : ByteArray), .int .i64 t271]) ?_ 2 _ rfl; (with_reducible repeat (first | refine blk_drewN ?_ _ | refine blk_drew ?_ | refine blk_alloc ?_ _)); refine blk_put (cs := #[.int .i64 a0, .string (⟨#[]⟩ : ByteArray), .string (⟨#[]⟩ : ByteArray), .string (⟨#[]⟩ : ByteArray), .int .i64 t271]) ?_ 1 _ rfl; (with_reducible repeat (first | refine blk_drewN ?_ _ | refine blk_drew ?_ | refine blk_alloc ?_ _)); refine blk_put (cs := #[.int .i64 a0, .string (⟨#[]⟩ : ByteArray), .string (⟨#[]⟩ : ByteArray), .string (⟨#[]⟩ : ByteArray), .int .i64 t271]) ?_ 0 _ rfl; (with_reducible repeat (first | refine blk_drewN ?_ _ | refine blk_drew ?_ | refine blk_alloc ?_ _)); refine blk_put (cs := #[.int .i64 a0, .string (⟨#[]⟩ : ByteArray), .string (⟨#[]⟩ : ByteArray), .string (⟨#[]⟩ : ByteArray), .int .i64 0]) ?_ 4 _ rfl; (with_reducible repeat (first | refine blk_drewN ?_ _ | refine blk_drew ?_ | refine blk_alloc ?_ _)); exact BK246.out) Tryz.underlying28 rfl (by kernel_rfl)) rfl ?_
       exact ⟨by first | rfl | (simp [errW_none, errW_some] <;> rfl) | (simp [*, errW_none, errW_some] <;> rfl), blw⟩
      ·replace c135 := Bool.eq_false_iff.mpr c135
       subst c135
       rw [if_neg nft] at H
       have HC140 := Aside0.mk H
       clear H
       go_upto_if 132 with (fail)
       go_cut [132] (fun v132 wc => ∃ (kq : Nat) (x132_139 : Bool), v132 = .bool x132_139 ∧ Aside0 (script_step.j2 kq l1 false a0 x132_139 a0 (⟨#[]⟩ : ByteArray) (⟨#[]⟩ : ByteArray) (⟨#[]⟩ : ByteArray) 0 = some (r1, r2, r3, r4, r5, r6)) ∧ Aside0 (kq ≤ kj132) ∧ Aside0 (wc.heap[gb246]? = some (.cells #[.int .i64 a0, .string (⟨#[]⟩ : ByteArray), .string (⟨#[]⟩ : ByteArray), .string (⟨#[]⟩ : ByteArray), .int .i64 0] 28 (0, 0))) ∧ Aside0 (Below w.heap.size w wc))
       case first => as_aux_lemma =>
        have H := HC140.out
        clear HC140
        by_cases c141 : a0 = 11
        ·rw [if_pos c141] at H
         have c141b0 := beq_iff_eq.mpr c141
         have c141b1 := bne_eq_false_iff_eq.mpr c141
         clear c141
         (first | rw [c141b0] | (simp only [i64_w, i32_w]; rw [c141b0]) | skip)
         have H' := Aside0.mk H
         clear H
         try clear H
         try clear c3b0 c3b1 c6 c6b0 c6b1 c18 c18b0 c18b1
         go_wp2
         go_meet
         case rel => exact ⟨_, ((a0 == 11)), (by first | rfl | (simp; done) | (simp [*]; done) | (simp; exact (by intro l_; cases l_ <;> rfl : ∀ l_ : List UInt8, l_.isEmpty = !(l_ != [])) _)), H', ⟨by have := HJ119.out; have := HJ132.out; first | omega | exact Nat.le_refl _⟩, ⟨bkw BK246⟩, ⟨blw⟩⟩
        ·rw [if_neg c141] at H
         have c141b0 := beq_eq_false_iff_ne.mpr c141
         have c141b1 := bne_iff_ne.mpr c141
         (first | rw [c141b0] | (simp only [i64_w, i32_w]; rw [c141b0]) | skip)
         have H' := Aside0.mk H
         clear H
         try clear H
         try clear c3b0 c3b1 c6 c6b0 c6b1 c18 c18b0 c18b1
         go_wp2
         go_meet
         case rel => exact ⟨_, ((a0 == 12)), (by first | rfl | (simp; done) | (simp [*]; done) | (simp; exact (by intro l_; cases l_ <;> rfl : ∀ l_ : List UInt8, l_.isEmpty = !(l_ != [])) _)), H', ⟨by have := HJ119.out; have := HJ132.out; first | omega | exact Nat.le_refl _⟩, ⟨bkw BK246⟩, ⟨blw⟩⟩
       case rest => as_aux_lemma =>
        clear HC140
        try clear c1
        try clear p2
        try clear q2
        try clear hx2
        try clear qi2
        try clear c3
        try clear c4
        try clear c7
        try clear c8
        try clear c9
        try clear c10
        try clear c12
        try clear c13
        try clear c14
        try clear p26
        try clear q26
        try clear hx26
        try clear qi26
        try clear p27
        try clear q27
        try clear hx27
        try clear qi27
        try clear c33
        try clear c44
        try clear c45
        try clear c78
        try clear c78b0
        try clear c78b1
        try clear c79
        try clear c80
        try clear c82
        try clear c98
        try clear c98b0
        try clear c98b1
        try clear c99
        try clear c99b0
        try clear c99b1
        try clear c100
        try clear c100b0
        try clear c100b1
        try clear c102
        try clear c123
        try clear c123b0
        try clear c123b1
        try clear c124
        try clear c124b0
        try clear c124b1
        try clear c125
        try clear c126
        try clear c126b0
        try clear c126b1
        try clear c128
        try clear c128b0
        try clear c134
        try clear c134b0
        try clear c134b1
        try clear c135
        try clear c136
        try clear c136b0
        try clear c136b1
        try clear c141
        try clear c141b0
        try clear c141b1
        try clear hcz105_0 hcz105_1 hcz105_2 hcz105_3 hcz105_4
        try clear hcz110_0 hcz110_1 hcz110_2 hcz110_3 hcz110_4
        try clear hcz112_0 hcz112_1 hcz112_2 hcz112_3 hcz112_4
        try clear hcz114_0 hcz114_1 hcz114_2 hcz114_3 hcz114_4
        try clear hcz119_0 hcz119_1 hcz119_2 hcz119_3 hcz119_4
        try clear hcz122_0 hcz122_1 hcz122_2 hcz122_3 hcz122_4
        try clear hcz130_0 hcz130_1 hcz130_2 hcz130_3 hcz130_4
        try clear hcz132_0 hcz132_1 hcz132_2 hcz132_3 hcz132_4
        try clear hcz139_0 hcz139_1 hcz139_2 hcz139_3 hcz139_4
        try clear hcz90_0 hcz90_1 hcz90_2 hcz90_3 hcz90_4
        try clear hcz92_0 hcz92_1 hcz92_2 hcz92_3 hcz92_4
        try clear hcz97_0 hcz97_1 hcz97_2 hcz97_3 hcz97_4
        try clear hfz105_0 hfz105_1 hfz105_2 hfz105_3 hfz105_4
        try clear hfz110_0 hfz110_1 hfz110_2 hfz110_3 hfz110_4
        try clear hfz112_0 hfz112_1 hfz112_2 hfz112_3 hfz112_4
        try clear hfz114_0 hfz114_1 hfz114_2 hfz114_3 hfz114_4
        try clear hfz119_0 hfz119_1 hfz119_2 hfz119_3 hfz119_4
        try clear hfz122_0 hfz122_1 hfz122_2 hfz122_3 hfz122_4
        try clear hfz130_0 hfz130_1 hfz130_2 hfz130_3 hfz130_4
        try clear hfz132_0 hfz132_1 hfz132_2 hfz132_3 hfz132_4
        try clear hfz139_0 hfz139_1 hfz139_2 hfz139_3 hfz139_4
        try clear hfz90_0 hfz90_1 hfz90_2 hfz90_3 hfz90_4
        try clear hfz92_0 hfz92_1 hfz92_2 hfz92_3 hfz92_4
        try clear hfz97_0 hfz97_1 hfz97_2 hfz97_3 hfz97_4
        try clear hx260_0
        try clear hx261_0
        try clear hx264_0
        try clear hx265_0
        try clear hx268_0
        try clear hx270_0
        try clear p2
        try clear p26
        try clear p260
        try clear p261
        try clear p264
        try clear p265
        try clear p268
        try clear p270
        try clear q2
        try clear q26
        try clear q260
        try clear q261
        try clear q264
        try clear q265
        try clear q268
        try clear q270
        obtain ⟨kq, x132_139, rfl, HA, HJ139, BK246, HB⟩ := hcut
        cases kq with
        | zero => exact absurd HA.out (by simp [script_step.j2])
        | succ kj139 =>
         have H := HA.out
         clear HA
         simp only [script_step.j2] at H
         by_cases c142 : x132_139 = true
         ·subst c142
          rw [if_pos rfl] at H
          obtain ⟨c143, H⟩ := iteS H
          have c143b0 := decide_eq_true c143
          have c143b1 : decide (0 < l1.length) = true := decide_eq_true (by omega)
          clear c143
          by_cases c144 : (rdOf ByteArray.empty l1 0).toList = ([121, 101, 115] : List UInt8)
          ·rw [if_pos c144] at H
           have c144b0 := beq_iff_eq.mpr c144
           have c144b1 := bne_eq_false_iff_eq.mpr c144
           clear c144
           simp only [Option.some.injEq, Prod.mk.injEq] at H
           obtain ⟨rfl, rfl, rfl, rfl, rfl, rfl⟩ := H
           have p272 : 0 ≤ (0 : Int) := (by omega)
           have q272 : 0 < (l1.length : Int) := od_
           obtain ⟨ad272, e272, hx272_0⟩ := Kd.at_string HR1.out 0 p272 q272
           cases e272
           have qi272 : (0 < l1.length) = True := eq_true (by omega)
           (try rw [show ((0 : Int)).toNat = 0 from rfl] at hx272_0)
           (try rw [Addr.add_zero'] at hx272_0)
           replace hx272_0 := (HB.out.cell (World.block_lt_of_cell? w _ hx272_0)).trans hx272_0
           replace p272 := eq_true p272
           replace q272 := eq_true q272
           have hcz145_0 : wc.cell? ⟨gb246, 0, none⟩ = some (.int .i64 a0) := bk_ BK246
           have hcz145_1 : wc.cell? ⟨gb246, 1, none⟩ = some (.string (⟨#[]⟩ : ByteArray)) := bk_ BK246
           have hcz145_2 : wc.cell? ⟨gb246, 2, none⟩ = some (.string (⟨#[]⟩ : ByteArray)) := bk_ BK246
           have hcz145_3 : wc.cell? ⟨gb246, 3, none⟩ = some (.string (⟨#[]⟩ : ByteArray)) := bk_ BK246
           have hcz145_4 : wc.cell? ⟨gb246, 4, none⟩ = some (.int .i64 0) := bk_ BK246
           have hfz145_0 := blk_frozen BK246.out 0
           have hfz145_1 := blk_frozen BK246.out 1
           have hfz145_2 := blk_frozen BK246.out 2
           have hfz145_3 := blk_frozen BK246.out 3
           have hfz145_4 := blk_frozen BK246.out 4
           have p273 : 0 ≤ (0 : Int) := (by omega)
           have q273 : 0 < (l1.length : Int) := od_
           obtain ⟨ad273, e273, hx273_0⟩ := Kd.at_string HR1.out 0 p273 q273
           obtain rfl : ad272 = ad273 := (by injection e273)
           have qi273 : (0 < l1.length) = True := eq_true (by omega)
           (try rw [show ((0 : Int)).toNat = 0 from rfl] at hx273_0)
           (try rw [Addr.add_zero'] at hx273_0)
           have hn273_0 : ad272.block ≠ gb246 := Nat.ne_of_lt (Nat.lt_of_lt_of_le (by have := World.block_lt_of_cell? _ _ hx273_0; first | rwa [add_block] at this | exact this) GW246.out)
           replace hx273_0 := (HB.out.cell (World.block_lt_of_cell? w _ hx273_0)).trans hx273_0
           replace hx273_0 := (cell_far (p := ⟨gb246, 4, none⟩) (by first | (rw [add_block]; exact hn273_0) | (show (Addr.add _ _).block ≠ _; rw [add_block]; exact hn273_0) | exact hn273_0) (.int .i64 1)).trans hx273_0
           clear hn273_0
           replace p273 := eq_true p273
           replace q273 := eq_true q273
           try clear H
           try clear c3b0 c3b1 c6 c6b0 c6b1 c18 c18b0 c18b1
           go_wp2
           refine bodyPost_ret (results_ct rfl _ _ gb246 28 #[.int .i64 a0, .string (⟨#[]⟩ : ByteArray), .string (⟨#[]⟩ : ByteArray), .string (⟨#[]⟩ : ByteArray), .int .i64 1] (0, 0) _ rfl (by (with_reducible repeat (first | refine blk_drewN ?_ _ | refine blk_drew ?_ | refine blk_alloc ?_ _)); refine blk_put (cs := #[.int .i64 a0, .string (⟨#[]⟩ : ByteArray), .string (⟨#[]⟩ : ByteArray), .string (⟨#[]⟩ : ByteArray), .int .i64 1]) ?_ 4 _ rfl; (with_reducible repeat (first | refine blk_drewN ?_ _ | refine blk_drew ?_ | refine blk_alloc ?_ _)); refine blk_put (cs := #[.int .i64 a0, .string (⟨#[]⟩ : ByteArray), .string (⟨#[]⟩ : ByteArray), .string (⟨#[]⟩ : ByteArray), .int .i64 1]) ?_ 3 _ rfl; (with_reducible repeat (first | refine blk_drewN ?_ _ | refine blk_drew ?_ | refine blk_alloc ?_ _)); refine blk_put (cs := #[.int .i64 a0, .string (⟨#[]⟩ : ByteArray), .string (⟨#[]⟩ : ByteArray), .string (⟨#[]⟩ : ByteArray), .int .i64 1]) ?_ 2 _ rfl; (with_reducible repeat (first | refine blk_drewN ?_ _ | refine blk_drew ?_ | refine blk_alloc ?_ _)); refine blk_put (cs := #[.int .i64 a0, .string (⟨#[]⟩ : ByteArray), .string (⟨#[]⟩ : ByteArray), .string (⟨#[]⟩ : ByteArray), .int .i64 1]) ?_ 1 _ rfl; (with_reducible repeat (first | refine blk_drewN ?_ _ | refine blk_drew ?_ | refine blk_alloc ?_ _)); refine blk_put (cs := #[.int .i64 a0, .string (⟨#[]⟩ : ByteArray), .string (⟨#[]⟩ : ByteArray), .string (⟨#[]⟩ : ByteArray), .int .i64 1]) ?_ 0 _ rfl; (with_reducible repeat (first | refine blk_drewN ?_ _ | refine blk_drew ?_ | refine blk_alloc ?_ _)); refine blk_put (cs := #[.int .i64 a0, .string (⟨#[]⟩ : ByteArray), .string (⟨#[]⟩ : ByteArray), .string (⟨#[]⟩ : ByteArray), .int .i64 0]) ?_ 4 _ rfl; (with_reducible repeat (first | refine blk_drewN ?_ _ | refine blk_drew ?_ | refine blk_alloc ?_ _)); exact BK246.out) Tryz.underlying28 rfl (by kernel_rfl)) rfl ?_
           exact ⟨by first | rfl | (simp [errW_none, errW_some] <;> rfl) | (simp [*, errW_none, errW_some] <;> rfl), blw⟩
          ·rw [if_neg c144] at H
           have c144b0 := beq_eq_false_iff_ne.mpr c144
           have c144b1 := bne_iff_ne.mpr c144
           simp only [Option.some.injEq, Prod.mk.injEq] at H
           obtain ⟨rfl, rfl, rfl, rfl, rfl, rfl⟩ := H
           have p272 : 0 ≤ (0 : Int) := (by omega)
           have q272 : 0 < (l1.length : Int) := od_
           obtain ⟨ad272, e272, hx272_0⟩ := Kd.at_string HR1.out 0 p272 q272
           cases e272
           have qi272 : (0 < l1.length) = True := eq_true (by omega)
           (try rw [show ((0 : Int)).toNat = 0 from rfl] at hx272_0)
           (try rw [Addr.add_zero'] at hx272_0)
           replace hx272_0 := (HB.out.cell (World.block_lt_of_cell? w _ hx272_0)).trans hx272_0
           replace p272 := eq_true p272
           replace q272 := eq_true q272
           have p274 : 0 ≤ (0 : Int) := (by omega)
           have q274 : 0 < (l1.length : Int) := od_
           obtain ⟨ad274, e274, hx274_0⟩ := Kd.at_string HR1.out 0 p274 q274
           obtain rfl : ad272 = ad274 := (by injection e274)
           have qi274 : (0 < l1.length) = True := eq_true (by omega)
           (try rw [show ((0 : Int)).toNat = 0 from rfl] at hx274_0)
           (try rw [Addr.add_zero'] at hx274_0)
           replace hx274_0 := (HB.out.cell (World.block_lt_of_cell? w _ hx274_0)).trans hx274_0
           replace p274 := eq_true p274
           replace q274 := eq_true q274
           have p275 : 0 ≤ (0 : Int) := (by omega)
           have q275 : 0 < (l1.length : Int) := od_
           obtain ⟨ad275, e275, hx275_0⟩ := Kd.at_string HR1.out 0 p275 q275
           obtain rfl : ad272 = ad275 := (by injection e275)
           have qi275 : (0 < l1.length) = True := eq_true (by omega)
           (try rw [show ((0 : Int)).toNat = 0 from rfl] at hx275_0)
           (try rw [Addr.add_zero'] at hx275_0)
           replace hx275_0 := (HB.out.cell (World.block_lt_of_cell? w _ hx275_0)).trans hx275_0
           replace p275 := eq_true p275
           replace q275 := eq_true q275
           have hcz146_0 : wc.cell? ⟨gb246, 0, none⟩ = some (.int .i64 a0) := bk_ BK246
           have hcz146_1 : wc.cell? ⟨gb246, 1, none⟩ = some (.string (⟨#[]⟩ : ByteArray)) := bk_ BK246
           have hcz146_2 : wc.cell? ⟨gb246, 2, none⟩ = some (.string (⟨#[]⟩ : ByteArray)) := bk_ BK246
           have hcz146_3 : wc.cell? ⟨gb246, 3, none⟩ = some (.string (⟨#[]⟩ : ByteArray)) := bk_ BK246
           have hcz146_4 : wc.cell? ⟨gb246, 4, none⟩ = some (.int .i64 0) := bk_ BK246
           have hfz146_0 := blk_frozen BK246.out 0
           have hfz146_1 := blk_frozen BK246.out 1
           have hfz146_2 := blk_frozen BK246.out 2
           have hfz146_3 := blk_frozen BK246.out 3
           have hfz146_4 := blk_frozen BK246.out 4
           try clear H
           try clear c3b0 c3b1 c6 c6b0 c6b1 c18 c18b0 c18b1
           go_wp2
           refine bodyPost_ret (results_ct rfl _ _ gb246 28 #[.int .i64 a0, .string (⟨#[]⟩ : ByteArray), .string (⟨#[]⟩ : ByteArray), .string (⟨#[]⟩ : ByteArray), .int .i64 0] (0, 0) _ rfl (by (with_reducible repeat (first | refine blk_drewN ?_ _ | refine blk_drew ?_ | refine blk_alloc ?_ _)); refine blk_put (cs := #[.int .i64 a0, .string (⟨#[]⟩ : ByteArray), .string (⟨#[]⟩ : ByteArray), .string (⟨#[]⟩ : ByteArray), .int .i64 0]) ?_ 4 _ rfl; (with_reducible repeat (first | refine blk_drewN ?_ _ | refine blk_drew ?_ | refine blk_alloc ?_ _)); refine blk_put (cs := #[.int .i64 a0, .string (⟨#[]⟩ : ByteArray), .string (⟨#[]⟩ : ByteArray), .string (⟨#[]⟩ : ByteArray), .int .i64 0]) ?_ 3 _ rfl; (with_reducible repeat (first | refine blk_drewN ?_ _ | refine blk_drew ?_ | refine blk_alloc ?_ _)); refine blk_put (cs := #[.int .i64 a0, .string (⟨#[]⟩ : ByteArray), .string (⟨#[]⟩ : ByteArray), .string (⟨#[]⟩ : ByteArray), .int .i64 0]) ?_ 2 _ rfl; (with_reducible repeat (first | refine blk_drewN ?_ _ | refine blk_drew ?_ | refine blk_alloc ?_ _)); refine blk_put (cs := #[.int .i64 a0, .string (⟨#[]⟩ : ByteArray), .string (⟨#[]⟩ : ByteArray), .string (⟨#[]⟩ : ByteArray), .int .i64 0]) ?_ 1 _ rfl; (with_reducible repeat (first | refine blk_drewN ?_ _ | refine blk_drew ?_ | refine blk_alloc ?_ _)); refine blk_put (cs := #[.int .i64 a0, .string (⟨#[]⟩ : ByteArray), .string (⟨#[]⟩ : ByteArray), .string (⟨#[]⟩ : ByteArray), .int .i64 0]) ?_ 0 _ rfl; (with_reducible repeat (first | refine blk_drewN ?_ _ | refine blk_drew ?_ | refine blk_alloc ?_ _)); exact BK246.out) Tryz.underlying28 rfl (by kernel_rfl)) rfl ?_
           exact ⟨by first | rfl | (simp [errW_none, errW_some] <;> rfl) | (simp [*, errW_none, errW_some] <;> rfl), blw⟩
         ·replace c142 := Bool.eq_false_iff.mpr c142
          subst c142
          rw [if_neg nft] at H
          by_cases c147 : a0 = 13
          ·rw [if_pos c147] at H
           have c147b0 := beq_iff_eq.mpr c147
           have c147b1 := bne_eq_false_iff_eq.mpr c147
           clear c147
           obtain ⟨c148, H⟩ := iteS H
           have c148b0 := decide_eq_true c148
           have c148b1 : decide (0 < l1.length) = true := decide_eq_true (by omega)
           clear c148
           obtain ⟨c149, H⟩ := iteS H
           have c149b0 := decide_eq_true c149
           have c149b1 : decide (1 < l1.length) = true := decide_eq_true (by omega)
           clear c149
           replace H := Option.bind_eq_some_iff.mp H
           obtain ⟨t278, A1500, H⟩ := H
           try dsimp only at H
           have A150 := Aside0.mk A1500
           clear A1500
           replace H := Option.bind_eq_some_iff.mp H
           obtain ⟨t279, A1510, H⟩ := H
           try dsimp only at H
           have A151 := Aside0.mk A1510
           clear A1510
           by_cases c152 : t279 = true
           ·subst c152
            rw [if_pos rfl] at H
            simp only [Option.some.injEq, Prod.mk.injEq] at H
            obtain ⟨rfl, rfl, rfl, rfl, rfl, rfl⟩ := H
            try clear H
            try clear c3b0 c3b1 c6 c6b0 c6b1 c18 c18b0 c18b1
            try go_wp2
            replace BK246 := Aside0.mk (blk_drew BK246.out)
            replace HB := Aside0.mk (below_drew1 HB.out)
            have p276 : 0 ≤ (0 : Int) := (by omega)
            have q276 : 0 < (l1.length : Int) := od_
            obtain ⟨ad276, e276, hx276_0⟩ := Kd.at_string HR1.out 0 p276 q276
            have hw276_0 := hx276_0
            (try rw [show ((0 : Int)).toNat = 0 from rfl] at hw276_0)
            (try rw [show 0 * 1 = 0 from rfl] at hw276_0)
            (try rw [Addr.add_zero'] at hw276_0)
            cases e276
            have qi276 : (0 < l1.length) = True := eq_true (by omega)
            (try rw [show ((0 : Int)).toNat = 0 from rfl] at hx276_0)
            (try rw [Addr.add_zero'] at hx276_0)
            replace hx276_0 := (HB.out.cell (World.block_lt_of_cell? w _ hx276_0)).trans hx276_0
            replace p276 := eq_true p276
            replace q276 := eq_true q276
            have p277 : 0 ≤ (1 : Int) := (by omega)
            have q277 : 1 < (l1.length : Int) := od_
            obtain ⟨ad277, e277, hx277_0⟩ := Kd.at_string HR1.out 1 p277 q277
            have hw277_0 := hx277_0
            (try rw [show ((1 : Int)).toNat = 1 from rfl] at hw277_0)
            (try rw [show 1 * 1 = 1 from rfl] at hw277_0)
            (try simp only [Nat.reduceMul, Nat.reduceEqDiff, Go.Addr.add, ↓reduceIte] at hw277_0)
            obtain rfl : ad276 = ad277 := (by injection e277)
            (try simp only [show (1 : Int).toNat = 1 from rfl, Nat.reduceMul, Nat.reduceEqDiff, Go.Addr.add, ↓reduceIte] at hx277_0)
            have qi277 : (1 < l1.length) = True := eq_true (by omega)
            (try rw [show ((1 : Int)).toNat = 1 from rfl] at hx277_0)
            replace hx277_0 := (HB.out.cell (World.block_lt_of_cell? w _ hx277_0)).trans hx277_0
            replace p277 := eq_true p277
            replace q277 := eq_true q277
            refine start_ (n := 11) (S := fun w' => w'.cell? ad276 = some (.string (rdOf ByteArray.empty l1 0)) ∧ w'.cell? ⟨ad276.block, ad276.off + 1, none⟩ = some (.string (rdOf ByteArray.empty l1 1))) (ds := []) (ba 11 0) (by kernel_rfl) rfl rfl ⟨hc_ hw276_0, hc_ hw277_0⟩ (fun hHeld => ?_); refine with_tabW script_step.tab33 script_step.bits33 (fun HT_ HW_ => ?_)
            generalize wc.drew = w153 at BK246 HB hx276_0 hx277_0 hHeld ⊢
            refine pu_ 0 152 1 ?_
            refine pu_ 1 153 3 ?_
            refine pu_ 3 155 11 ?_
            refine pu_ 4 156 27 ?_
            refine tk_ 2 154 31 hHeld ?_
            refine pu_ 7 159 159 ?_
            refine tk_ 5 157 191 hHeld ?_
            refine one1 6 (some 158) 255 (fun K hK => ?_)
            refine go1 Tryz.func45 #[.string (rdOf ByteArray.empty l1 1)] ?_
            with_reducible refine (script_number.calls kj139 (rdOf ByteArray.empty l1 1) t278 _ ?side1 A150.out).mono ?_
            (case side1 => exact Amb.at HG.out blw)
            rintro e w154 ⟨rfl, hb⟩
            refine ⟨_, rfl, ?_⟩
            replace BK246 := Aside0.mk (blk_below (g := gb246) (o := .cells #[.int .i64 a0, .string (⟨#[]⟩ : ByteArray), .string (⟨#[]⟩ : ByteArray), .string (⟨#[]⟩ : ByteArray), .int .i64 0] 28 (0, 0)) (bkw BK246) hb)
            replace HB := Aside0.mk (below_step blw hb)
            (try clear hb)
            refine hK.out _ _ ⟨hc_ hw276_0, hc_ hw277_0⟩ (fun hHeld => ?_)
            clear hK K
            refine nm_ (some 158) ?_
            refine one1 8 none 511 (fun K hK => ?_)
            have hs155 : w154.cell? ⟨gb246, 3, none⟩ = some (.string (⟨#[]⟩ : ByteArray)) := bk_ BK246
            have hfs155 := blk_frozen BK246.out 3
            refine skip_ (w1 := ?_) (by rfl) rfl ?_ ?_
            rotate_left
            ·go_simp
             rfl
            refine hK.out _ _ ⟨((cell_far (p := ⟨gb246, _, none⟩) (by first | exact Nat.ne_of_lt (Nat.lt_of_lt_of_le (by have := World.block_lt_of_cell? _ _ hw276_0; first | rwa [add_block] at this | exact this) GW246.out) | (rw [add_block]; exact Nat.ne_of_lt (Nat.lt_of_lt_of_le (by have := World.block_lt_of_cell? _ _ hw276_0; first | rwa [add_block] at this | exact this) GW246.out)) | (show (Addr.add _ _).block ≠ _; rw [add_block]; exact Nat.ne_of_lt (Nat.lt_of_lt_of_le (by have := World.block_lt_of_cell? _ _ hw276_0; first | rwa [add_block] at this | exact this) GW246.out)) | (dsimp only; exact Nat.ne_of_lt (Nat.lt_of_lt_of_le (by have := World.block_lt_of_cell? _ _ hw276_0; first | rwa [add_block] at this | exact this) GW246.out))) _).trans (hHeld.1)), ((cell_far (p := ⟨gb246, _, none⟩) (by first | exact Nat.ne_of_lt (Nat.lt_of_lt_of_le (by have := World.block_lt_of_cell? _ _ hw277_0; first | rwa [add_block] at this | exact this) GW246.out) | (rw [add_block]; exact Nat.ne_of_lt (Nat.lt_of_lt_of_le (by have := World.block_lt_of_cell? _ _ hw277_0; first | rwa [add_block] at this | exact this) GW246.out)) | (show (Addr.add _ _).block ≠ _; rw [add_block]; exact Nat.ne_of_lt (Nat.lt_of_lt_of_le (by have := World.block_lt_of_cell? _ _ hw277_0; first | rwa [add_block] at this | exact this) GW246.out)) | (dsimp only; exact Nat.ne_of_lt (Nat.lt_of_lt_of_le (by have := World.block_lt_of_cell? _ _ hw277_0; first | rwa [add_block] at this | exact this) GW246.out))) _).trans (hHeld.2))⟩ (fun hHeld => ?_)
            clear hK K
            refine pu_ 9 160 1023 ?_
            refine one1 10 none 2047 (fun K hK => ?_)
            have hs156 : w154.cell? ⟨gb246, 4, none⟩ = some (.int .i64 0) := bk_ BK246
            have hfs156 := blk_frozen BK246.out 4
            refine skip_ (w1 := ?_) (by rfl) rfl ?_ ?_
            rotate_left
            ·go_simp
             rfl
            refine hK.out _ _ ⟨((cell_far (p := ⟨gb246, _, none⟩) (by first | exact Nat.ne_of_lt (Nat.lt_of_lt_of_le (by have := World.block_lt_of_cell? _ _ hw276_0; first | rwa [add_block] at this | exact this) GW246.out) | (rw [add_block]; exact Nat.ne_of_lt (Nat.lt_of_lt_of_le (by have := World.block_lt_of_cell? _ _ hw276_0; first | rwa [add_block] at this | exact this) GW246.out)) | (show (Addr.add _ _).block ≠ _; rw [add_block]; exact Nat.ne_of_lt (Nat.lt_of_lt_of_le (by have := World.block_lt_of_cell? _ _ hw276_0; first | rwa [add_block] at this | exact this) GW246.out)) | (dsimp only; exact Nat.ne_of_lt (Nat.lt_of_lt_of_le (by have := World.block_lt_of_cell? _ _ hw276_0; first | rwa [add_block] at this | exact this) GW246.out))) _).trans (hHeld.1)), ((cell_far (p := ⟨gb246, _, none⟩) (by first | exact Nat.ne_of_lt (Nat.lt_of_lt_of_le (by have := World.block_lt_of_cell? _ _ hw277_0; first | rwa [add_block] at this | exact this) GW246.out) | (rw [add_block]; exact Nat.ne_of_lt (Nat.lt_of_lt_of_le (by have := World.block_lt_of_cell? _ _ hw277_0; first | rwa [add_block] at this | exact this) GW246.out)) | (show (Addr.add _ _).block ≠ _; rw [add_block]; exact Nat.ne_of_lt (Nat.lt_of_lt_of_le (by have := World.block_lt_of_cell? _ _ hw277_0; first | rwa [add_block] at this | exact this) GW246.out)) | (dsimp only; exact Nat.ne_of_lt (Nat.lt_of_lt_of_le (by have := World.block_lt_of_cell? _ _ hw277_0; first | rwa [add_block] at this | exact this) GW246.out))) _).trans (hHeld.2))⟩ (fun hHeld => ?_)
            clear hK K
            refine done_ (done_of HT_.out (by kernel_rfl)) ?_
            have hcz157_0 : w154.cell? ⟨gb246, 0, none⟩ = some (.int .i64 a0) := bk_ BK246
            have hcz157_1 : w154.cell? ⟨gb246, 1, none⟩ = some (.string (⟨#[]⟩ : ByteArray)) := bk_ BK246
            have hcz157_2 : w154.cell? ⟨gb246, 2, none⟩ = some (.string (⟨#[]⟩ : ByteArray)) := bk_ BK246
            have hcz157_3 : w154.cell? ⟨gb246, 3, none⟩ = some (.string (⟨#[]⟩ : ByteArray)) := bk_ BK246
            have hcz157_4 : w154.cell? ⟨gb246, 4, none⟩ = some (.int .i64 0) := bk_ BK246
            have hfz157_0 := blk_frozen BK246.out 0
            have hfz157_1 := blk_frozen BK246.out 1
            have hfz157_2 := blk_frozen BK246.out 2
            have hfz157_3 := blk_frozen BK246.out 3
            have hfz157_4 := blk_frozen BK246.out 4
            try go_wp2_with (first | ((with_reducible refine gc 46 rfl ?_); refine cl_ (some 163) Tryz.func46 (script_kept.calls (rdOf ByteArray.empty l1 0) true _ A151.out) ?_; rintro w158 hb; replace BK246 := Aside0.mk (blk_below (g := gb246) (o := .cells #[.int .i64 a0, .string (⟨#[]⟩ : ByteArray), .string (⟨#[]⟩ : ByteArray), .string (rdOf ByteArray.empty l1 0), .int .i64 t278] 28 (0, 0)) (by (with_reducible repeat (first | refine blk_drewN ?_ _ | refine blk_drew ?_ | refine blk_alloc ?_ _)); refine blk_put (cs := #[.int .i64 a0, .string (⟨#[]⟩ : ByteArray), .string (⟨#[]⟩ : ByteArray), .string (rdOf ByteArray.empty l1 0), .int .i64 0]) ?_ 4 _ rfl; (with_reducible repeat (first | refine blk_drewN ?_ _ | refine blk_drew ?_ | refine blk_alloc ?_ _)); refine blk_put (cs := #[.int .i64 a0, .string (⟨#[]⟩ : ByteArray), .string (⟨#[]⟩ : ByteArray), .string (⟨#[]⟩ : ByteArray), .int .i64 0]) ?_ 3 _ rfl; (with_reducible repeat (first | refine blk_drewN ?_ _ | refine blk_drew ?_ | refine blk_alloc ?_ _)); exact BK246.out) hb); replace HB := Aside0.mk (below_step blw hb); (try clear hb); have hcz159_0 : w158.cell? ⟨gb246, 0, none⟩ = some (.int .i64 a0) := bk_ BK246; have hcz159_1 : w158.cell? ⟨gb246, 1, none⟩ = some (.string (⟨#[]⟩ : ByteArray)) := bk_ BK246; have hcz159_2 : w158.cell? ⟨gb246, 2, none⟩ = some (.string (⟨#[]⟩ : ByteArray)) := bk_ BK246; have hcz159_3 : w158.cell? ⟨gb246, 3, none⟩ = some (.string (rdOf ByteArray.empty l1 0)) := bk_ BK246; have hcz159_4 : w158.cell? ⟨gb246, 4, none⟩ = some (.int .i64 t278) := bk_ BK246; have hfz159_0 := blk_frozen BK246.out 0; have hfz159_1 := blk_frozen BK246.out 1; have hfz159_2 := blk_frozen BK246.out 2; have hfz159_3 := blk_frozen BK246.out 3; have hfz159_4 := blk_frozen BK246.out 4))
            refine bodyPost_ret (results_ct rfl _ _ gb246 28 #[.int .i64 a0, .string (⟨#[]⟩ : ByteArray), .string (⟨#[]⟩ : ByteArray), .string (rdOf ByteArray.empty l1 0), .int .i64 t278] (0, 0) _ rfl (by (with_reducible repeat (first | refine blk_drewN ?_ _ | refine blk_drew ?_ | refine blk_alloc ?_ _)); refine blk_put (cs := #[.int .i64 a0, .string (⟨#[]⟩ : ByteArray), .string (⟨#[]⟩ : ByteArray), .string (rdOf ByteArray.empty l1 0), .int .i64 t278]) ?_ 4 _ rfl; (with_reducible repeat (first | refine blk_drewN ?_ _ | refine blk_drew ?_ | refine blk_alloc ?_ _)); refine blk_put (cs := #[.int .i64 a0, .string (⟨#[]⟩ : ByteArray), .string (⟨#[]⟩ : ByteArray), .string (rdOf ByteArray.empty l1 0), .int .i64 t278]) ?_ 3 _ rfl; (with_reducible repeat (first | refine blk_drewN ?_ _ | refine blk_drew ?_ | refine blk_alloc ?_ _)); refine blk_put (cs := #[.int .i64 a0, .string (⟨#[]⟩ : ByteArray), .string (⟨#[]⟩ : ByteArray), .string (rdOf ByteArray.empty l1 0), .int .i64 t278]) ?_ 2 _ rfl; (with_reducible repeat (first | refine blk_drewN ?_ _ | refine blk_drew ?_ | refine blk_alloc ?_ _)); refine blk_put (cs := #[.int .i64 a0, .string (⟨#[]⟩ : ByteArray), .string (⟨#[]⟩ : ByteArray), .string (rdOf ByteArray.empty l1 0), .int .i64 t278]) ?_ 1 _ rfl; (with_reducible repeat (first | refine blk_drewN ?_ _ | refine blk_drew ?_ | refine blk_alloc ?_ _)); refine blk_put (cs := #[.int .i64 a0, .string (⟨#[]⟩ : ByteArray), .string (⟨#[]⟩ : ByteArray), .string (rdOf ByteArray.empty l1 0), .int .i64 t278]) ?_ 0 _ rfl; (with_reducible repeat (first | refine blk_drewN ?_ _ | refine blk_drew ?_ | refine blk_alloc ?_ _)); exact BK246.out) Tryz.underlying28 rfl (by kernel_rfl)) rfl ?_
            exact ⟨by first | rfl | (simp [errW_none, errW_some] <;> rfl) | (simp [*, errW_none, errW_some] <;> rfl), blw⟩
           ·replace c152 := Bool.eq_false_iff.mpr c152
            subst c152
            rw [if_neg nft] at H
            simp only [Option.some.injEq, Prod.mk.injEq] at H
            obtain ⟨rfl, rfl, rfl, rfl, rfl, rfl⟩ := H
            try clear H
            try clear c3b0 c3b1 c6 c6b0 c6b1 c18 c18b0 c18b1
            try go_wp2
            replace BK246 := Aside0.mk (blk_drew BK246.out)
            replace HB := Aside0.mk (below_drew1 HB.out)
            have p276 : 0 ≤ (0 : Int) := (by omega)
            have q276 : 0 < (l1.length : Int) := od_
            obtain ⟨ad276, e276, hx276_0⟩ := Kd.at_string HR1.out 0 p276 q276
            have hw276_0 := hx276_0
            (try rw [show ((0 : Int)).toNat = 0 from rfl] at hw276_0)
            (try rw [show 0 * 1 = 0 from rfl] at hw276_0)
            (try rw [Addr.add_zero'] at hw276_0)
            cases e276
            have qi276 : (0 < l1.length) = True := eq_true (by omega)
            (try rw [show ((0 : Int)).toNat = 0 from rfl] at hx276_0)
            (try rw [Addr.add_zero'] at hx276_0)
            replace hx276_0 := (HB.out.cell (World.block_lt_of_cell? w _ hx276_0)).trans hx276_0
            replace p276 := eq_true p276
            replace q276 := eq_true q276
            have p277 : 0 ≤ (1 : Int) := (by omega)
            have q277 : 1 < (l1.length : Int) := od_
            obtain ⟨ad277, e277, hx277_0⟩ := Kd.at_string HR1.out 1 p277 q277
            have hw277_0 := hx277_0
            (try rw [show ((1 : Int)).toNat = 1 from rfl] at hw277_0)
            (try rw [show 1 * 1 = 1 from rfl] at hw277_0)
            (try simp only [Nat.reduceMul, Nat.reduceEqDiff, Go.Addr.add, ↓reduceIte] at hw277_0)
            obtain rfl : ad276 = ad277 := (by injection e277)
            (try simp only [show (1 : Int).toNat = 1 from rfl, Nat.reduceMul, Nat.reduceEqDiff, Go.Addr.add, ↓reduceIte] at hx277_0)
            have qi277 : (1 < l1.length) = True := eq_true (by omega)
            (try rw [show ((1 : Int)).toNat = 1 from rfl] at hx277_0)
            replace hx277_0 := (HB.out.cell (World.block_lt_of_cell? w _ hx277_0)).trans hx277_0
            replace p277 := eq_true p277
            replace q277 := eq_true q277
            refine start_ (n := 11) (S := fun w' => w'.cell? ad276 = some (.string (rdOf ByteArray.empty l1 0)) ∧ w'.cell? ⟨ad276.block, ad276.off + 1, none⟩ = some (.string (rdOf ByteArray.empty l1 1))) (ds := []) (ba 11 0) (by kernel_rfl) rfl rfl ⟨hc_ hw276_0, hc_ hw277_0⟩ (fun hHeld => ?_); refine with_tabW script_step.tab33 script_step.bits33 (fun HT_ HW_ => ?_)
            generalize wc.drew = w160 at BK246 HB hx276_0 hx277_0 hHeld ⊢
            refine pu_ 0 152 1 ?_
            refine pu_ 1 153 3 ?_
            refine pu_ 3 155 11 ?_
            refine pu_ 4 156 27 ?_
            refine tk_ 2 154 31 hHeld ?_
            refine pu_ 7 159 159 ?_
            refine tk_ 5 157 191 hHeld ?_
            refine one1 6 (some 158) 255 (fun K hK => ?_)
            refine go1 Tryz.func45 #[.string (rdOf ByteArray.empty l1 1)] ?_
            with_reducible refine (script_number.calls kj139 (rdOf ByteArray.empty l1 1) t278 _ ?side1 A150.out).mono ?_
            (case side1 => exact Amb.at HG.out blw)
            rintro e w161 ⟨rfl, hb⟩
            refine ⟨_, rfl, ?_⟩
            replace BK246 := Aside0.mk (blk_below (g := gb246) (o := .cells #[.int .i64 a0, .string (⟨#[]⟩ : ByteArray), .string (⟨#[]⟩ : ByteArray), .string (⟨#[]⟩ : ByteArray), .int .i64 0] 28 (0, 0)) (bkw BK246) hb)
            replace HB := Aside0.mk (below_step blw hb)
            (try clear hb)
            refine hK.out _ _ ⟨hc_ hw276_0, hc_ hw277_0⟩ (fun hHeld => ?_)
            clear hK K
            refine nm_ (some 158) ?_
            refine one1 8 none 511 (fun K hK => ?_)
            have hs162 : w161.cell? ⟨gb246, 3, none⟩ = some (.string (⟨#[]⟩ : ByteArray)) := bk_ BK246
            have hfs162 := blk_frozen BK246.out 3
            refine skip_ (w1 := ?_) (by rfl) rfl ?_ ?_
            rotate_left
            ·go_simp
             rfl
            refine hK.out _ _ ⟨((cell_far (p := ⟨gb246, _, none⟩) (by first | exact Nat.ne_of_lt (Nat.lt_of_lt_of_le (by have := World.block_lt_of_cell? _ _ hw276_0; first | rwa [add_block] at this | exact this) GW246.out) | (rw [add_block]; exact Nat.ne_of_lt (Nat.lt_of_lt_of_le (by have := World.block_lt_of_cell? _ _ hw276_0; first | rwa [add_block] at this | exact this) GW246.out)) | (show (Addr.add _ _).block ≠ _; rw [add_block]; exact Nat.ne_of_lt (Nat.lt_of_lt_of_le (by have := World.block_lt_of_cell? _ _ hw276_0; first | rwa [add_block] at this | exact this) GW246.out)) | (dsimp only; exact Nat.ne_of_lt (Nat.lt_of_lt_of_le (by have := World.block_lt_of_cell? _ _ hw276_0; first | rwa [add_block] at this | exact this) GW246.out))) _).trans (hHeld.1)), ((cell_far (p := ⟨gb246, _, none⟩) (by first | exact Nat.ne_of_lt (Nat.lt_of_lt_of_le (by have := World.block_lt_of_cell? _ _ hw277_0; first | rwa [add_block] at this | exact this) GW246.out) | (rw [add_block]; exact Nat.ne_of_lt (Nat.lt_of_lt_of_le (by have := World.block_lt_of_cell? _ _ hw277_0; first | rwa [add_block] at this | exact this) GW246.out)) | (show (Addr.add _ _).block ≠ _; rw [add_block]; exact Nat.ne_of_lt (Nat.lt_of_lt_of_le (by have := World.block_lt_of_cell? _ _ hw277_0; first | rwa [add_block] at this | exact this) GW246.out)) | (dsimp only; exact Nat.ne_of_lt (Nat.lt_of_lt_of_le (by have := World.block_lt_of_cell? _ _ hw277_0; first | rwa [add_block] at this | exact this) GW246.out))) _).trans (hHeld.2))⟩ (fun hHeld => ?_)
            clear hK K
            refine pu_ 9 160 1023 ?_
            refine one1 10 none 2047 (fun K hK => ?_)
            have hs163 : w161.cell? ⟨gb246, 4, none⟩ = some (.int .i64 0) := bk_ BK246
            have hfs163 := blk_frozen BK246.out 4
            refine skip_ (w1 := ?_) (by rfl) rfl ?_ ?_
            rotate_left
            ·go_simp
             rfl
            refine hK.out _ _ ⟨((cell_far (p := ⟨gb246, _, none⟩) (by first | exact Nat.ne_of_lt (Nat.lt_of_lt_of_le (by have := World.block_lt_of_cell? _ _ hw276_0; first | rwa [add_block] at this | exact this) GW246.out) | (rw [add_block]; exact Nat.ne_of_lt (Nat.lt_of_lt_of_le (by have := World.block_lt_of_cell? _ _ hw276_0; first | rwa [add_block] at this | exact this) GW246.out)) | (show (Addr.add _ _).block ≠ _; rw [add_block]; exact Nat.ne_of_lt (Nat.lt_of_lt_of_le (by have := World.block_lt_of_cell? _ _ hw276_0; first | rwa [add_block] at this | exact this) GW246.out)) | (dsimp only; exact Nat.ne_of_lt (Nat.lt_of_lt_of_le (by have := World.block_lt_of_cell? _ _ hw276_0; first | rwa [add_block] at this | exact this) GW246.out))) _).trans (hHeld.1)), ((cell_far (p := ⟨gb246, _, none⟩) (by first | exact Nat.ne_of_lt (Nat.lt_of_lt_of_le (by have := World.block_lt_of_cell? _ _ hw277_0; first | rwa [add_block] at this | exact this) GW246.out) | (rw [add_block]; exact Nat.ne_of_lt (Nat.lt_of_lt_of_le (by have := World.block_lt_of_cell? _ _ hw277_0; first | rwa [add_block] at this | exact this) GW246.out)) | (show (Addr.add _ _).block ≠ _; rw [add_block]; exact Nat.ne_of_lt (Nat.lt_of_lt_of_le (by have := World.block_lt_of_cell? _ _ hw277_0; first | rwa [add_block] at this | exact this) GW246.out)) | (dsimp only; exact Nat.ne_of_lt (Nat.lt_of_lt_of_le (by have := World.block_lt_of_cell? _ _ hw277_0; first | rwa [add_block] at this | exact this) GW246.out))) _).trans (hHeld.2))⟩ (fun hHeld => ?_)
            clear hK K
            refine done_ (done_of HT_.out (by kernel_rfl)) ?_
            have hcz164_0 : w161.cell? ⟨gb246, 0, none⟩ = some (.int .i64 a0) := bk_ BK246
            have hcz164_1 : w161.cell? ⟨gb246, 1, none⟩ = some (.string (⟨#[]⟩ : ByteArray)) := bk_ BK246
            have hcz164_2 : w161.cell? ⟨gb246, 2, none⟩ = some (.string (⟨#[]⟩ : ByteArray)) := bk_ BK246
            have hcz164_3 : w161.cell? ⟨gb246, 3, none⟩ = some (.string (⟨#[]⟩ : ByteArray)) := bk_ BK246
            have hcz164_4 : w161.cell? ⟨gb246, 4, none⟩ = some (.int .i64 0) := bk_ BK246
            have hfz164_0 := blk_frozen BK246.out 0
            have hfz164_1 := blk_frozen BK246.out 1
            have hfz164_2 := blk_frozen BK246.out 2
            have hfz164_3 := blk_frozen BK246.out 3
            have hfz164_4 := blk_frozen BK246.out 4
            try go_wp2_with (first | ((with_reducible refine gc 46 rfl ?_); refine cl_ (some 163) Tryz.func46 (script_kept.calls (rdOf ByteArray.empty l1 0) false _ A151.out) ?_; rintro w165 hb; replace BK246 := Aside0.mk (blk_below (g := gb246) (o := .cells #[.int .i64 a0, .string (⟨#[]⟩ : ByteArray), .string (⟨#[]⟩ : ByteArray), .string (rdOf ByteArray.empty l1 0), .int .i64 t278] 28 (0, 0)) (by (with_reducible repeat (first | refine blk_drewN ?_ _ | refine blk_drew ?_ | refine blk_alloc ?_ _)); refine blk_put (cs := #[.int .i64 a0, .string (⟨#[]⟩ : ByteArray), .string (⟨#[]⟩ : ByteArray), .string (rdOf ByteArray.empty l1 0), .int .i64 0]) ?_ 4 _ rfl; (with_reducible repeat (first | refine blk_drewN ?_ _ | refine blk_drew ?_ | refine blk_alloc ?_ _)); refine blk_put (cs := #[.int .i64 a0, .string (⟨#[]⟩ : ByteArray), .string (⟨#[]⟩ : ByteArray), .string (⟨#[]⟩ : ByteArray), .int .i64 0]) ?_ 3 _ rfl; (with_reducible repeat (first | refine blk_drewN ?_ _ | refine blk_drew ?_ | refine blk_alloc ?_ _)); exact BK246.out) hb); replace HB := Aside0.mk (below_step blw hb); (try clear hb); have hcz166_0 : w165.cell? ⟨gb246, 0, none⟩ = some (.int .i64 a0) := bk_ BK246; have hcz166_1 : w165.cell? ⟨gb246, 1, none⟩ = some (.string (⟨#[]⟩ : ByteArray)) := bk_ BK246; have hcz166_2 : w165.cell? ⟨gb246, 2, none⟩ = some (.string (⟨#[]⟩ : ByteArray)) := bk_ BK246; have hcz166_3 : w165.cell? ⟨gb246, 3, none⟩ = some (.string (rdOf ByteArray.empty l1 0)) := bk_ BK246; have hcz166_4 : w165.cell? ⟨gb246, 4, none⟩ = some (.int .i64 t278) := bk_ BK246; have hfz166_0 := blk_frozen BK246.out 0; have hfz166_1 := blk_frozen BK246.out 1; have hfz166_2 := blk_frozen BK246.out 2; have hfz166_3 := blk_frozen BK246.out 3; have hfz166_4 := blk_frozen BK246.out 4))
            refine bodyPost_ret (results_ct rfl _ _ gb246 28 #[.int .i64 a0, .string (⟨#[]⟩ : ByteArray), .string (⟨#[]⟩ : ByteArray), .string (rdOf ByteArray.empty l1 0), .int .i64 t278] (0, 0) _ rfl (by (with_reducible repeat (first | refine blk_drewN ?_ _ | refine blk_drew ?_ | refine blk_alloc ?_ _)); refine blk_put (cs := #[.int .i64 a0, .string (⟨#[]⟩ : ByteArray), .string (⟨#[]⟩ : ByteArray), .string (rdOf ByteArray.empty l1 0), .int .i64 t278]) ?_ 4 _ rfl; (with_reducible repeat (first | refine blk_drewN ?_ _ | refine blk_drew ?_ | refine blk_alloc ?_ _)); refine blk_put (cs := #[.int .i64 a0, .string (⟨#[]⟩ : ByteArray), .string (⟨#[]⟩ : ByteArray), .string (rdOf ByteArray.empty l1 0), .int .i64 t278]) ?_ 3 _ rfl; (with_reducible repeat (first | refine blk_drewN ?_ _ | refine blk_drew ?_ | refine blk_alloc ?_ _)); refine blk_put (cs := #[.int .i64 a0, .string (⟨#[]⟩ : ByteArray), .string (⟨#[]⟩ : ByteArray), .string (rdOf ByteArray.empty l1 0), .int .i64 t278]) ?_ 2 _ rfl; (with_reducible repeat (first | refine blk_drewN ?_ _ | refine blk_drew ?_ | refine blk_alloc ?_ _)); refine blk_put (cs := #[.int .i64 a0, .string (⟨#[]⟩ : ByteArray), .string (⟨#[]⟩ : ByteArray), .string (rdOf ByteArray.empty l1 0), .int .i64 t278]) ?_ 1 _ rfl; (with_reducible repeat (first | refine blk_drewN ?_ _ | refine blk_drew ?_ | refine blk_alloc ?_ _)); refine blk_put (cs := #[.int .i64 a0, .string (⟨#[]⟩ : ByteArray), .string (⟨#[]⟩ : ByteArray), .string (rdOf ByteArray.empty l1 0), .int .i64 t278]) ?_ 0 _ rfl; (with_reducible repeat (first | refine blk_drewN ?_ _ | refine blk_drew ?_ | refine blk_alloc ?_ _)); exact BK246.out) Tryz.underlying28 rfl (by kernel_rfl)) rfl ?_
            exact ⟨by first | rfl | (simp [errW_none, errW_some] <;> rfl) | (simp [*, errW_none, errW_some] <;> rfl), blw⟩
          ·rw [if_neg c147] at H
           have c147b0 := beq_eq_false_iff_ne.mpr c147
           have c147b1 := bne_iff_ne.mpr c147
           simp only [Option.some.injEq, Prod.mk.injEq] at H
           obtain ⟨rfl, rfl, rfl, rfl, rfl, rfl⟩ := H
           have hcz167_0 : wc.cell? ⟨gb246, 0, none⟩ = some (.int .i64 a0) := bk_ BK246
           have hcz167_1 : wc.cell? ⟨gb246, 1, none⟩ = some (.string (⟨#[]⟩ : ByteArray)) := bk_ BK246
           have hcz167_2 : wc.cell? ⟨gb246, 2, none⟩ = some (.string (⟨#[]⟩ : ByteArray)) := bk_ BK246
           have hcz167_3 : wc.cell? ⟨gb246, 3, none⟩ = some (.string (⟨#[]⟩ : ByteArray)) := bk_ BK246
           have hcz167_4 : wc.cell? ⟨gb246, 4, none⟩ = some (.int .i64 0) := bk_ BK246
           have hfz167_0 := blk_frozen BK246.out 0
           have hfz167_1 := blk_frozen BK246.out 1
           have hfz167_2 := blk_frozen BK246.out 2
           have hfz167_3 := blk_frozen BK246.out 3
           have hfz167_4 := blk_frozen BK246.out 4
           try clear H
           try clear c3b0 c3b1 c6 c6b0 c6b1 c18 c18b0 c18b1
           go_wp2
           refine bodyPost_ret (results_ct rfl _ _ gb246 28 #[.int .i64 a0, .string (⟨#[]⟩ : ByteArray), .string (⟨#[]⟩ : ByteArray), .string (⟨#[]⟩ : ByteArray), .int .i64 0] (0, 0) _ rfl (by (with_reducible repeat (first | refine blk_drewN ?_ _ | refine blk_drew ?_ | refine blk_alloc ?_ _)); refine blk_put (cs := #[.int .i64 a0, .string (⟨#[]⟩ : ByteArray), .string (⟨#[]⟩ : ByteArray), .string (⟨#[]⟩ : ByteArray), .int .i64 0]) ?_ 4 _ rfl; (with_reducible repeat (first | refine blk_drewN ?_ _ | refine blk_drew ?_ | refine blk_alloc ?_ _)); refine blk_put (cs := #[.int .i64 a0, .string (⟨#[]⟩ : ByteArray), .string (⟨#[]⟩ : ByteArray), .string (⟨#[]⟩ : ByteArray), .int .i64 0]) ?_ 3 _ rfl; (with_reducible repeat (first | refine blk_drewN ?_ _ | refine blk_drew ?_ | refine blk_alloc ?_ _)); refine blk_put (cs := #[.int .i64 a0, .string (⟨#[]⟩ : ByteArray), .string (⟨#[]⟩ : ByteArray), .string (⟨#[]⟩ : ByteArray), .int .i64 0]) ?_ 2 _ rfl; (with_reducible repeat (first | refine blk_drewN ?_ _ | refine blk_drew ?_ | refine blk_alloc ?_ _)); refine blk_put (cs := #[.int .i64 a0, .string (⟨#[]⟩ : ByteArray), .string (⟨#[]⟩ : ByteArray), .string (⟨#[]⟩ : ByteArray), .int .i64 0]) ?_ 1 _ rfl; (with_reducible repeat (first | refine blk_drewN ?_ _ | refine blk_drew ?_ | refine blk_alloc ?_ _)); refine blk_put (cs := #[.int .i64 a0, .string (⟨#[]⟩ : ByteArray), .string (⟨#[]⟩ : ByteArray), .string (⟨#[]⟩ : ByteArray), .int .i64 0]) ?_ 0 _ rfl; (with_reducible repeat (first | refine blk_drewN ?_ _ | refine blk_drew ?_ | refine blk_alloc ?_ _)); exact BK246.out) Tryz.underlying28 rfl (by kernel_rfl)) rfl ?_
           exact ⟨by first | rfl | (simp [errW_none, errW_some] <;> rfl) | (simp [*, errW_none, errW_some] <;> rfl), blw⟩
end Go.Proofs.YtcgfaagadejpmaaGreatDoor.Q
