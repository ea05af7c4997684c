-- Written by a program of this session (wip/myprint) out of the translation, for YtcgfaagadejpmaaGreatDoor.
import Derived.Test.YtcgfaagadejpmaaGreatDoorQ14d
namespace Go.Proofs.YtcgfaagadejpmaaGreatDoor.Q
open Go.RowKit Go.Proofs.YtcgfaagadejpmaaGreatDoorW.PrintWords Go.Proofs.YtcgfaagadejpmaaGreatDoorW.PrintLast Go.Proofs.YtcgfaagadejpmaaGreatDoorW.PrintMore Go.Proofs.YtcgfaagadejpmaaGreatDoorW.PrintSq
set_option linter.unusedVariables false
set_option linter.unusedSimpArgs false
set_option maxHeartbeats 8000000 in
set_option maxRecDepth 100000 in
theorem script_step.calls_4 (k : Nat) (a0 : Int) (A1 : Option Addr) (c1 : Nat) (l1 : List ByteArray) (r1 : Int) (r2 : ByteArray) (r3 : ByteArray) (r4 : ByteArray) (r5 : Int) (r6 : Bool) (w : World) (hG : Amb w) (hr1 : Kd.C Kd.string w A1 l1.length l1) (hc1 : l1.length ≤ c1) (h : script_step.f k a0 l1 = some (r1, r2, r3, r4, r5, r6)) (c3 : ¬ a0 = 1) (c6 : ¬ a0 = 2) (c18 : ¬ a0 = 3) (c78 : ¬ a0 = 4) (c98 : a0 = 8) :
    Calls Tryz.prog 33 #[.int .i64 a0, .slice A1 l1.length c1] w fun e w' => e = .returned (.tuple #[.agg #[.int .i64 r1, .string r2, .string r3, .string r4, .int .i64 r5], .bool r6]) ∧ Below w.heap.size w w' := by
 have hu28 := Tryz.underlying28
 have HR1 := Aside0.mk hr1
 have HC1 := Aside0.mk hc1
 clear hr1 hc1
 have HB := Aside0.mk (Below.refl w.heap.size w)
 unfold script_step.f at h
 have H := h
 clear h
 have HG := Aside0.mk hG
 clear hG
 rw [if_neg c3] at H
 have c3b0 := beq_eq_false_iff_ne.mpr c3
 have c3b1 := bne_iff_ne.mpr c3
 rw [if_neg c6] at H
 have c6b0 := beq_eq_false_iff_ne.mpr c6
 have c6b1 := bne_iff_ne.mpr c6
 rw [if_neg c18] at H
 have c18b0 := beq_eq_false_iff_ne.mpr c18
 have c18b1 := bne_iff_ne.mpr c18
 rw [if_neg c78] at H
 have c78b0 := beq_eq_false_iff_ne.mpr c78
 have c78b1 := bne_iff_ne.mpr c78
 rw [if_pos c98] at H
 have c98b0 := beq_iff_eq.mpr c98
 have c98b1 := bne_eq_false_iff_eq.mpr c98
 clear c98
 obtain ⟨c99, H⟩ := iteS H
 have c99b0 := decide_eq_true c99
 have c99b1 : decide (0 < l1.length) = true := decide_eq_true (by omega)
 clear c99
 obtain ⟨c100, H⟩ := iteS H
 have c100b0 := decide_eq_true c100
 have c100b1 : decide (1 < l1.length) = true := decide_eq_true (by omega)
 clear c100
 replace H := Option.bind_eq_some_iff.mp H
 obtain ⟨t266, A1010, H⟩ := H
 try dsimp only at H
 have A101 := Aside0.mk A1010
 clear A1010
 by_cases c102 : t266 = true
 ·subst c102
  rw [if_pos rfl] at H
  replace H := Option.bind_eq_some_iff.mp H
  obtain ⟨t267, A1030, H⟩ := H
  try dsimp only at H
  have A103 := Aside0.mk A1030
  clear A1030
  simp only [Option.some.injEq, Prod.mk.injEq] at H
  obtain ⟨rfl, rfl, rfl, rfl, rfl, rfl⟩ := H
  go_enter Tryz.func33, Tryz.ntmps33
  try go_wp2_with (first | ((with_reducible refine gate_dst (N := 4) rfl ?_); refine box_event ?hg (N := 4) ?hd (cs := #[.int .i64 0, .string (⟨#[]⟩ : ByteArray), .string (⟨#[]⟩ : ByteArray), .string (⟨#[]⟩ : ByteArray), .int .i64 0]) (t := 28) ?hr ?_; (case hd => rfl); (case hg => rfl); (case hr => first | (go_simp; done) | (go_simp; rfl)); intro gb246 hg w104 hbox hb; have BK246 := Aside0.mk (hbox); have GW246 : Aside0 (w.heap.size ≤ gb246) := gw_ hg; have GE246 : Aside0 (w.heap.size ≤ gb246) := gw_ hg; replace HB := Aside0.mk (below_step blw hb); clear hb hbox hg; have hcz105_0 : w104.cell? ⟨gb246, 0, none⟩ = some (.int .i64 0) := bk_ BK246; have hcz105_1 : w104.cell? ⟨gb246, 1, none⟩ = some (.string (⟨#[]⟩ : ByteArray)) := bk_ BK246; have hcz105_2 : w104.cell? ⟨gb246, 2, none⟩ = some (.string (⟨#[]⟩ : ByteArray)) := bk_ BK246; have hcz105_3 : w104.cell? ⟨gb246, 3, none⟩ = some (.string (⟨#[]⟩ : ByteArray)) := bk_ BK246; have hcz105_4 : w104.cell? ⟨gb246, 4, none⟩ = some (.int .i64 0) := bk_ BK246; have hfz105_0 := blk_frozen BK246.out 0; have hfz105_1 := blk_frozen BK246.out 1; have hfz105_2 := blk_frozen BK246.out 2; have hfz105_3 := blk_frozen BK246.out 3; have hfz105_4 := blk_frozen BK246.out 4))
  have n0_ : Aside0 ((w104.setCell ⟨gb246, 0, none⟩ (.int .i64 a0)).heap[gb246]? = some (.cells #[.int .i64 a0, .string (⟨#[]⟩ : ByteArray), .string (⟨#[]⟩ : ByteArray), .string (⟨#[]⟩ : ByteArray), .int .i64 0] 28 (0, 0))) := ⟨by (with_reducible repeat (first | refine blk_drewN ?_ _ | refine blk_drew ?_ | refine blk_alloc ?_ _)); refine blk_put (cs := #[.int .i64 0, .string (⟨#[]⟩ : ByteArray), .string (⟨#[]⟩ : ByteArray), .string (⟨#[]⟩ : ByteArray), .int .i64 0]) ?_ 0 _ rfl; (with_reducible repeat (first | refine blk_drewN ?_ _ | refine blk_drew ?_ | refine blk_alloc ?_ _)); exact BK246.out⟩
  have n1_ : Aside0 (Below w.heap.size w (w104.setCell ⟨gb246, 0, none⟩ (.int .i64 a0))) := ⟨blw⟩
  (try clear BK246)
  (try clear HB)
  generalize (w104.setCell ⟨gb246, 0, none⟩ (.int .i64 a0)) = w106 at n0_ n1_ ⊢
  have BK246 := n0_
  have HB := n1_
  clear n0_ n1_
  replace BK246 := Aside0.mk (blk_drew BK246.out)
  replace HB := Aside0.mk (below_drew1 HB.out)
  have p264 : 0 ≤ (0 : Int) := (by omega)
  have q264 : 0 < (l1.length : Int) := od_
  obtain ⟨ad264, e264, hx264_0⟩ := Kd.at_string HR1.out 0 p264 q264
  have hw264_0 := hx264_0
  (try rw [show ((0 : Int)).toNat = 0 from rfl] at hw264_0)
  (try rw [show 0 * 1 = 0 from rfl] at hw264_0)
  (try rw [Addr.add_zero'] at hw264_0)
  cases e264
  have qi264 : (0 < l1.length) = True := eq_true (by omega)
  (try rw [show ((0 : Int)).toNat = 0 from rfl] at hx264_0)
  (try rw [Addr.add_zero'] at hx264_0)
  replace hx264_0 := (HB.out.cell (World.block_lt_of_cell? w _ hx264_0)).trans hx264_0
  replace p264 := eq_true p264
  replace q264 := eq_true q264
  have p265 : 0 ≤ (1 : Int) := (by omega)
  have q265 : 1 < (l1.length : Int) := od_
  obtain ⟨ad265, e265, hx265_0⟩ := Kd.at_string HR1.out 1 p265 q265
  have hw265_0 := hx265_0
  (try rw [show ((1 : Int)).toNat = 1 from rfl] at hw265_0)
  (try rw [show 1 * 1 = 1 from rfl] at hw265_0)
  (try simp only [Nat.reduceMul, Nat.reduceEqDiff, Go.Addr.add, ↓reduceIte] at hw265_0)
  obtain rfl : ad264 = ad265 := (by injection e265)
  (try simp only [show (1 : Int).toNat = 1 from rfl, Nat.reduceMul, Nat.reduceEqDiff, Go.Addr.add, ↓reduceIte] at hx265_0)
  have qi265 : (1 < l1.length) = True := eq_true (by omega)
  (try rw [show ((1 : Int)).toNat = 1 from rfl] at hx265_0)
  replace hx265_0 := (HB.out.cell (World.block_lt_of_cell? w _ hx265_0)).trans hx265_0
  replace p265 := eq_true p265
  replace q265 := eq_true q265
  refine start_ (n := 10) (S := fun w' => w'.cell? ad264 = some (.string (rdOf ByteArray.empty l1 0)) ∧ w'.cell? ⟨ad264.block, ad264.off + 1, none⟩ = some (.string (rdOf ByteArray.empty l1 1))) (ds := []) (ba 10 0) (by kernel_rfl) rfl rfl ⟨hc_ hw264_0, hc_ hw265_0⟩ (fun hHeld => ?_); refine with_tabW script_step.tab16 script_step.bits16 (fun HT_ HW_ => ?_)
  generalize w106.drew = w107 at BK246 HB hx264_0 hx265_0 hHeld ⊢
  refine pu_ 0 88 1 ?_
  refine pu_ 1 89 3 ?_
  refine pu_ 3 91 11 ?_
  refine pu_ 4 92 27 ?_
  refine tk_ 2 90 31 hHeld ?_
  refine pu_ 6 94 95 ?_
  refine tk_ 5 93 127 hHeld ?_
  refine one1 7 none 255 (fun K hK => ?_)
  have hs108 : w107.cell? ⟨gb246, 2, none⟩ = some (.string (⟨#[]⟩ : ByteArray)) := bk_ BK246
  have hfs108 := blk_frozen BK246.out 2
  refine skip_ (w1 := ?_) (by rfl) rfl ?_ ?_
  rotate_left
  ·go_simp
   rfl
  refine hK.out _ _ ⟨((cell_far (p := ⟨gb246, _, none⟩) (by first | exact Nat.ne_of_lt (Nat.lt_of_lt_of_le (by have := World.block_lt_of_cell? _ _ hw264_0; first | rwa [add_block] at this | exact this) GW246.out) | (rw [add_block]; exact Nat.ne_of_lt (Nat.lt_of_lt_of_le (by have := World.block_lt_of_cell? _ _ hw264_0; first | rwa [add_block] at this | exact this) GW246.out)) | (show (Addr.add _ _).block ≠ _; rw [add_block]; exact Nat.ne_of_lt (Nat.lt_of_lt_of_le (by have := World.block_lt_of_cell? _ _ hw264_0; first | rwa [add_block] at this | exact this) GW246.out)) | (dsimp only; exact Nat.ne_of_lt (Nat.lt_of_lt_of_le (by have := World.block_lt_of_cell? _ _ hw264_0; first | rwa [add_block] at this | exact this) GW246.out))) _).trans (hHeld.1)), ((cell_far (p := ⟨gb246, _, none⟩) (by first | exact Nat.ne_of_lt (Nat.lt_of_lt_of_le (by have := World.block_lt_of_cell? _ _ hw265_0; first | rwa [add_block] at this | exact this) GW246.out) | (rw [add_block]; exact Nat.ne_of_lt (Nat.lt_of_lt_of_le (by have := World.block_lt_of_cell? _ _ hw265_0; first | rwa [add_block] at this | exact this) GW246.out)) | (show (Addr.add _ _).block ≠ _; rw [add_block]; exact Nat.ne_of_lt (Nat.lt_of_lt_of_le (by have := World.block_lt_of_cell? _ _ hw265_0; first | rwa [add_block] at this | exact this) GW246.out)) | (dsimp only; exact Nat.ne_of_lt (Nat.lt_of_lt_of_le (by have := World.block_lt_of_cell? _ _ hw265_0; first | rwa [add_block] at this | exact this) GW246.out))) _).trans (hHeld.2))⟩ (fun hHeld => ?_)
  clear hK K
  refine pu_ 8 95 511 ?_
  refine one1 9 none 1023 (fun K hK => ?_)
  have hs109 : w107.cell? ⟨gb246, 1, none⟩ = some (.string (⟨#[]⟩ : ByteArray)) := bk_ BK246
  have hfs109 := blk_frozen BK246.out 1
  refine skip_ (w1 := ?_) (by rfl) rfl ?_ ?_
  rotate_left
  ·go_simp
   rfl
  refine hK.out _ _ ⟨((cell_far (p := ⟨gb246, _, none⟩) (by first | exact Nat.ne_of_lt (Nat.lt_of_lt_of_le (by have := World.block_lt_of_cell? _ _ hw264_0; first | rwa [add_block] at this | exact this) GW246.out) | (rw [add_block]; exact Nat.ne_of_lt (Nat.lt_of_lt_of_le (by have := World.block_lt_of_cell? _ _ hw264_0; first | rwa [add_block] at this | exact this) GW246.out)) | (show (Addr.add _ _).block ≠ _; rw [add_block]; exact Nat.ne_of_lt (Nat.lt_of_lt_of_le (by have := World.block_lt_of_cell? _ _ hw264_0; first | rwa [add_block] at this | exact this) GW246.out)) | (dsimp only; exact Nat.ne_of_lt (Nat.lt_of_lt_of_le (by have := World.block_lt_of_cell? _ _ hw264_0; first | rwa [add_block] at this | exact this) GW246.out))) _).trans (hHeld.1)), ((cell_far (p := ⟨gb246, _, none⟩) (by first | exact Nat.ne_of_lt (Nat.lt_of_lt_of_le (by have := World.block_lt_of_cell? _ _ hw265_0; first | rwa [add_block] at this | exact this) GW246.out) | (rw [add_block]; exact Nat.ne_of_lt (Nat.lt_of_lt_of_le (by have := World.block_lt_of_cell? _ _ hw265_0; first | rwa [add_block] at this | exact this) GW246.out)) | (show (Addr.add _ _).block ≠ _; rw [add_block]; exact Nat.ne_of_lt (Nat.lt_of_lt_of_le (by have := World.block_lt_of_cell? _ _ hw265_0; first | rwa [add_block] at this | exact this) GW246.out)) | (dsimp only; exact Nat.ne_of_lt (Nat.lt_of_lt_of_le (by have := World.block_lt_of_cell? _ _ hw265_0; first | rwa [add_block] at this | exact this) GW246.out))) _).trans (hHeld.2))⟩ (fun hHeld => ?_)
  clear hK K
  refine done_ (done_of HT_.out (by kernel_rfl)) ?_
  have hcz110_0 : w107.cell? ⟨gb246, 0, none⟩ = some (.int .i64 a0) := bk_ BK246
  have hcz110_1 : w107.cell? ⟨gb246, 1, none⟩ = some (.string (⟨#[]⟩ : ByteArray)) := bk_ BK246
  have hcz110_2 : w107.cell? ⟨gb246, 2, none⟩ = some (.string (⟨#[]⟩ : ByteArray)) := bk_ BK246
  have hcz110_3 : w107.cell? ⟨gb246, 3, none⟩ = some (.string (⟨#[]⟩ : ByteArray)) := bk_ BK246
  have hcz110_4 : w107.cell? ⟨gb246, 4, none⟩ = some (.int .i64 0) := bk_ BK246
  have hfz110_0 := blk_frozen BK246.out 0
  have hfz110_1 := blk_frozen BK246.out 1
  have hfz110_2 := blk_frozen BK246.out 2
  have hfz110_3 := blk_frozen BK246.out 3
  have hfz110_4 := blk_frozen BK246.out 4
  try go_wp2_with (first | ((with_reducible refine gc 44 rfl ?_); refine cl_ (some 98) Tryz.func44 (script_word.calls k (rdOf ByteArray.empty l1 0) true _ A101.out) ?_; rintro w' ⟨nd, rfl⟩) | (go_at_call 42; (with_reducible refine (script_address.calls k (rdOf ByteArray.empty l1 1) t267 _ A103.out).mono ?_); rintro e w111 ⟨rfl, hb⟩; replace BK246 := Aside0.mk (blk_below (g := gb246) (o := .cells #[.int .i64 a0, .string (rdOf ByteArray.empty l1 1), .string (rdOf ByteArray.empty l1 0), .string (⟨#[]⟩ : ByteArray), .int .i64 0] 28 (0, 0)) (by (with_reducible repeat (first | refine blk_drewN ?_ _ | refine blk_drew ?_ | refine blk_alloc ?_ _)); refine blk_put (cs := #[.int .i64 a0, .string (⟨#[]⟩ : ByteArray), .string (rdOf ByteArray.empty l1 0), .string (⟨#[]⟩ : ByteArray), .int .i64 0]) ?_ 1 _ rfl; (with_reducible repeat (first | refine blk_drewN ?_ _ | refine blk_drew ?_ | refine blk_alloc ?_ _)); refine blk_put (cs := #[.int .i64 a0, .string (⟨#[]⟩ : ByteArray), .string (⟨#[]⟩ : ByteArray), .string (⟨#[]⟩ : ByteArray), .int .i64 0]) ?_ 2 _ rfl; (with_reducible repeat (first | refine blk_drewN ?_ _ | refine blk_drew ?_ | refine blk_alloc ?_ _)); exact BK246.out) hb); replace HB := Aside0.mk (below_step blw hb); (try clear hb); have hcz112_0 : w111.cell? ⟨gb246, 0, none⟩ = some (.int .i64 a0) := bk_ BK246; have hcz112_1 : w111.cell? ⟨gb246, 1, none⟩ = some (.string (rdOf ByteArray.empty l1 1)) := bk_ BK246; have hcz112_2 : w111.cell? ⟨gb246, 2, none⟩ = some (.string (rdOf ByteArray.empty l1 0)) := bk_ BK246; have hcz112_3 : w111.cell? ⟨gb246, 3, none⟩ = some (.string (⟨#[]⟩ : ByteArray)) := bk_ BK246; have hcz112_4 : w111.cell? ⟨gb246, 4, none⟩ = some (.int .i64 0) := bk_ BK246; have hfz112_0 := blk_frozen BK246.out 0; have hfz112_1 := blk_frozen BK246.out 1; have hfz112_2 := blk_frozen BK246.out 2; have hfz112_3 := blk_frozen BK246.out 3; have hfz112_4 := blk_frozen BK246.out 4))
  refine bodyPost_ret (results_ct rfl _ _ gb246 28 #[.int .i64 a0, .string (rdOf ByteArray.empty l1 1), .string (rdOf ByteArray.empty l1 0), .string (⟨#[]⟩ : ByteArray), .int .i64 0] (0, 0) _ rfl (by (with_reducible repeat (first | refine blk_drewN ?_ _ | refine blk_drew ?_ | refine blk_alloc ?_ _)); refine blk_put (cs := #[.int .i64 a0, .string (rdOf ByteArray.empty l1 1), .string (rdOf ByteArray.empty l1 0), .string (⟨#[]⟩ : ByteArray), .int .i64 0]) ?_ 4 _ rfl; (with_reducible repeat (first | refine blk_drewN ?_ _ | refine blk_drew ?_ | refine blk_alloc ?_ _)); refine blk_put (cs := #[.int .i64 a0, .string (rdOf ByteArray.empty l1 1), .string (rdOf ByteArray.empty l1 0), .string (⟨#[]⟩ : ByteArray), .int .i64 0]) ?_ 3 _ rfl; (with_reducible repeat (first | refine blk_drewN ?_ _ | refine blk_drew ?_ | refine blk_alloc ?_ _)); refine blk_put (cs := #[.int .i64 a0, .string (rdOf ByteArray.empty l1 1), .string (rdOf ByteArray.empty l1 0), .string (⟨#[]⟩ : ByteArray), .int .i64 0]) ?_ 2 _ rfl; (with_reducible repeat (first | refine blk_drewN ?_ _ | refine blk_drew ?_ | refine blk_alloc ?_ _)); refine blk_put (cs := #[.int .i64 a0, .string (rdOf ByteArray.empty l1 1), .string (rdOf ByteArray.empty l1 0), .string (⟨#[]⟩ : ByteArray), .int .i64 0]) ?_ 1 _ rfl; (with_reducible repeat (first | refine blk_drewN ?_ _ | refine blk_drew ?_ | refine blk_alloc ?_ _)); refine blk_put (cs := #[.int .i64 a0, .string (rdOf ByteArray.empty l1 1), .string (rdOf ByteArray.empty l1 0), .string (⟨#[]⟩ : ByteArray), .int .i64 0]) ?_ 0 _ rfl; (with_reducible repeat (first | refine blk_drewN ?_ _ | refine blk_drew ?_ | refine blk_alloc ?_ _)); exact BK246.out) Tryz.underlying28 rfl (by kernel_rfl)) rfl ?_
  exact ⟨by first | rfl | (simp [errW_none, errW_some] <;> rfl) | (simp [*, errW_none, errW_some] <;> rfl), blw⟩
 ·replace c102 := Bool.eq_false_iff.mpr c102
  subst c102
  rw [if_neg nft] at H
  simp only [Option.some.injEq, Prod.mk.injEq] at H
  obtain ⟨rfl, rfl, rfl, rfl, rfl, rfl⟩ := H
  go_enter Tryz.func33, Tryz.ntmps33
  try go_wp2_with (first | ((with_reducible refine gate_dst (N := 4) rfl ?_); refine box_event ?hg (N := 4) ?hd (cs := #[.int .i64 0, .string (⟨#[]⟩ : ByteArray), .string (⟨#[]⟩ : ByteArray), .string (⟨#[]⟩ : ByteArray), .int .i64 0]) (t := 28) ?hr ?_; (case hd => rfl); (case hg => rfl); (case hr => first | (go_simp; done) | (go_simp; rfl)); intro gb246 hg w113 hbox hb; have BK246 := Aside0.mk (hbox); have GW246 : Aside0 (w.heap.size ≤ gb246) := gw_ hg; have GE246 : Aside0 (w.heap.size ≤ gb246) := gw_ hg; replace HB := Aside0.mk (below_step blw hb); clear hb hbox hg; have hcz114_0 : w113.cell? ⟨gb246, 0, none⟩ = some (.int .i64 0) := bk_ BK246; have hcz114_1 : w113.cell? ⟨gb246, 1, none⟩ = some (.string (⟨#[]⟩ : ByteArray)) := bk_ BK246; have hcz114_2 : w113.cell? ⟨gb246, 2, none⟩ = some (.string (⟨#[]⟩ : ByteArray)) := bk_ BK246; have hcz114_3 : w113.cell? ⟨gb246, 3, none⟩ = some (.string (⟨#[]⟩ : ByteArray)) := bk_ BK246; have hcz114_4 : w113.cell? ⟨gb246, 4, none⟩ = some (.int .i64 0) := bk_ BK246; have hfz114_0 := blk_frozen BK246.out 0; have hfz114_1 := blk_frozen BK246.out 1; have hfz114_2 := blk_frozen BK246.out 2; have hfz114_3 := blk_frozen BK246.out 3; have hfz114_4 := blk_frozen BK246.out 4))
  have n0_ : Aside0 ((w113.setCell ⟨gb246, 0, none⟩ (.int .i64 a0)).heap[gb246]? = some (.cells #[.int .i64 a0, .string (⟨#[]⟩ : ByteArray), .string (⟨#[]⟩ : ByteArray), .string (⟨#[]⟩ : ByteArray), .int .i64 0] 28 (0, 0))) := ⟨by (with_reducible repeat (first | refine blk_drewN ?_ _ | refine blk_drew ?_ | refine blk_alloc ?_ _)); refine blk_put (cs := #[.int .i64 0, .string (⟨#[]⟩ : ByteArray), .string (⟨#[]⟩ : ByteArray), .string (⟨#[]⟩ : ByteArray), .int .i64 0]) ?_ 0 _ rfl; (with_reducible repeat (first | refine blk_drewN ?_ _ | refine blk_drew ?_ | refine blk_alloc ?_ _)); exact BK246.out⟩
  have n1_ : Aside0 (Below w.heap.size w (w113.setCell ⟨gb246, 0, none⟩ (.int .i64 a0))) := ⟨blw⟩
  (try clear BK246)
  (try clear HB)
  generalize (w113.setCell ⟨gb246, 0, none⟩ (.int .i64 a0)) = w115 at n0_ n1_ ⊢
  have BK246 := n0_
  have HB := n1_
  clear n0_ n1_
  replace BK246 := Aside0.mk (blk_drew BK246.out)
  replace HB := Aside0.mk (below_drew1 HB.out)
  have p264 : 0 ≤ (0 : Int) := (by omega)
  have q264 : 0 < (l1.length : Int) := od_
  obtain ⟨ad264, e264, hx264_0⟩ := Kd.at_string HR1.out 0 p264 q264
  have hw264_0 := hx264_0
  (try rw [show ((0 : Int)).toNat = 0 from rfl] at hw264_0)
  (try rw [show 0 * 1 = 0 from rfl] at hw264_0)
  (try rw [Addr.add_zero'] at hw264_0)
  cases e264
  have qi264 : (0 < l1.length) = True := eq_true (by omega)
  (try rw [show ((0 : Int)).toNat = 0 from rfl] at hx264_0)
  (try rw [Addr.add_zero'] at hx264_0)
  replace hx264_0 := (HB.out.cell (World.block_lt_of_cell? w _ hx264_0)).trans hx264_0
  replace p264 := eq_true p264
  replace q264 := eq_true q264
  have p265 : 0 ≤ (1 : Int) := (by omega)
  have q265 : 1 < (l1.length : Int) := od_
  obtain ⟨ad265, e265, hx265_0⟩ := Kd.at_string HR1.out 1 p265 q265
  have hw265_0 := hx265_0
  (try rw [show ((1 : Int)).toNat = 1 from rfl] at hw265_0)
  (try rw [show 1 * 1 = 1 from rfl] at hw265_0)
  (try simp only [Nat.reduceMul, Nat.reduceEqDiff, Go.Addr.add, ↓reduceIte] at hw265_0)
  obtain rfl : ad264 = ad265 := (by injection e265)
  (try simp only [show (1 : Int).toNat = 1 from rfl, Nat.reduceMul, Nat.reduceEqDiff, Go.Addr.add, ↓reduceIte] at hx265_0)
  have qi265 : (1 < l1.length) = True := eq_true (by omega)
  (try rw [show ((1 : Int)).toNat = 1 from rfl] at hx265_0)
  replace hx265_0 := (HB.out.cell (World.block_lt_of_cell? w _ hx265_0)).trans hx265_0
  replace p265 := eq_true p265
  replace q265 := eq_true q265
  refine start_ (n := 10) (S := fun w' => w'.cell? ad264 = some (.string (rdOf ByteArray.empty l1 0)) ∧ w'.cell? ⟨ad264.block, ad264.off + 1, none⟩ = some (.string (rdOf ByteArray.empty l1 1))) (ds := []) (ba 10 0) (by kernel_rfl) rfl rfl ⟨hc_ hw264_0, hc_ hw265_0⟩ (fun hHeld => ?_); refine with_tabW script_step.tab16 script_step.bits16 (fun HT_ HW_ => ?_)
  generalize w115.drew = w116 at BK246 HB hx264_0 hx265_0 hHeld ⊢
  refine pu_ 0 88 1 ?_
  refine pu_ 1 89 3 ?_
  refine pu_ 3 91 11 ?_
  refine pu_ 4 92 27 ?_
  refine tk_ 2 90 31 hHeld ?_
  refine pu_ 6 94 95 ?_
  refine tk_ 5 93 127 hHeld ?_
  refine one1 7 none 255 (fun K hK => ?_)
  have hs117 : w116.cell? ⟨gb246, 2, none⟩ = some (.string (⟨#[]⟩ : ByteArray)) := bk_ BK246
  have hfs117 := blk_frozen BK246.out 2
  refine skip_ (w1 := ?_) (by rfl) rfl ?_ ?_
  rotate_left
  ·go_simp
   rfl
  refine hK.out _ _ ⟨((cell_far (p := ⟨gb246, _, none⟩) (by first | exact Nat.ne_of_lt (Nat.lt_of_lt_of_le (by have := World.block_lt_of_cell? _ _ hw264_0; first | rwa [add_block] at this | exact this) GW246.out) | (rw [add_block]; exact Nat.ne_of_lt (Nat.lt_of_lt_of_le (by have := World.block_lt_of_cell? _ _ hw264_0; first | rwa [add_block] at this | exact this) GW246.out)) | (show (Addr.add _ _).block ≠ _; rw [add_block]; exact Nat.ne_of_lt (Nat.lt_of_lt_of_le (by have := World.block_lt_of_cell? _ _ hw264_0; first | rwa [add_block] at this | exact this) GW246.out)) | (dsimp only; exact Nat.ne_of_lt (Nat.lt_of_lt_of_le (by have := World.block_lt_of_cell? _ _ hw264_0; first | rwa [add_block] at this | exact this) GW246.out))) _).trans (hHeld.1)), ((cell_far (p := ⟨gb246, _, none⟩) (by first | exact Nat.ne_of_lt (Nat.lt_of_lt_of_le (by have := World.block_lt_of_cell? _ _ hw265_0; first | rwa [add_block] at this | exact this) GW246.out) | (rw [add_block]; exact Nat.ne_of_lt (Nat.lt_of_lt_of_le (by have := World.block_lt_of_cell? _ _ hw265_0; first | rwa [add_block] at this | exact this) GW246.out)) | (show (Addr.add _ _).block ≠ _; rw [add_block]; exact Nat.ne_of_lt (Nat.lt_of_lt_of_le (by have := World.block_lt_of_cell? _ _ hw265_0; first | rwa [add_block] at this | exact this) GW246.out)) | (dsimp only; exact Nat.ne_of_lt (Nat.lt_of_lt_of_le (by have := World.block_lt_of_cell? _ _ hw265_0; first | rwa [add_block] at this | exact this) GW246.out))) _).trans (hHeld.2))⟩ (fun hHeld => ?_)
  clear hK K
  refine pu_ 8 95 511 ?_
  refine one1 9 none 1023 (fun K hK => ?_)
  have hs118 : w116.cell? ⟨gb246, 1, none⟩ = some (.string (⟨#[]⟩ : ByteArray)) := bk_ BK246
  have hfs118 := blk_frozen BK246.out 1
  refine skip_ (w1 := ?_) (by rfl) rfl ?_ ?_
  rotate_left
  ·go_simp
   rfl
  refine hK.out _ _ ⟨((cell_far (p := ⟨gb246, _, none⟩) (by first | exact Nat.ne_of_lt (Nat.lt_of_lt_of_le (by have := World.block_lt_of_cell? _ _ hw264_0; first | rwa [add_block] at this | exact this) GW246.out) | (rw [add_block]; exact Nat.ne_of_lt (Nat.lt_of_lt_of_le (by have := World.block_lt_of_cell? _ _ hw264_0; first | rwa [add_block] at this | exact this) GW246.out)) | (show (Addr.add _ _).block ≠ _; rw [add_block]; exact Nat.ne_of_lt (Nat.lt_of_lt_of_le (by have := World.block_lt_of_cell? _ _ hw264_0; first | rwa [add_block] at this | exact this) GW246.out)) | (dsimp only; exact Nat.ne_of_lt (Nat.lt_of_lt_of_le (by have := World.block_lt_of_cell? _ _ hw264_0; first | rwa [add_block] at this | exact this) GW246.out))) _).trans (hHeld.1)), ((cell_far (p := ⟨gb246, _, none⟩) (by first | exact Nat.ne_of_lt (Nat.lt_of_lt_of_le (by have := World.block_lt_of_cell? _ _ hw265_0; first | rwa [add_block] at this | exact this) GW246.out) | (rw [add_block]; exact Nat.ne_of_lt (Nat.lt_of_lt_of_le (by have := World.block_lt_of_cell? _ _ hw265_0; first | rwa [add_block] at this | exact this) GW246.out)) | (show (Addr.add _ _).block ≠ _; rw [add_block]; exact Nat.ne_of_lt (Nat.lt_of_lt_of_le (by have := World.block_lt_of_cell? _ _ hw265_0; first | rwa [add_block] at this | exact this) GW246.out)) | (dsimp only; exact Nat.ne_of_lt (Nat.lt_of_lt_of_le (by have := World.block_lt_of_cell? _ _ hw265_0; first | rwa [add_block] at this | exact this) GW246.out))) _).trans (hHeld.2))⟩ (fun hHeld => ?_)
  clear hK K
  refine done_ (done_of HT_.out (by kernel_rfl)) ?_
  have hcz119_0 : w116.cell? ⟨gb246, 0, none⟩ = some (.int .i64 a0) := bk_ BK246
  have hcz119_1 : w116.cell? ⟨gb246, 1, none⟩ = some (.string (⟨#[]⟩ : ByteArray)) := bk_ BK246
  have hcz119_2 : w116.cell? ⟨gb246, 2, none⟩ = some (.string (⟨#[]⟩ : ByteArray)) := bk_ BK246
  have hcz119_3 : w116.cell? ⟨gb246, 3, none⟩ = some (.string (⟨#[]⟩ : ByteArray)) := bk_ BK246
  have hcz119_4 : w116.cell? ⟨gb246, 4, none⟩ = some (.int .i64 0) := bk_ BK246
  have hfz119_0 := blk_frozen BK246.out 0
  have hfz119_1 := blk_frozen BK246.out 1
  have hfz119_2 := blk_frozen BK246.out 2
  have hfz119_3 := blk_frozen BK246.out 3
  have hfz119_4 := blk_frozen BK246.out 4
  try go_wp2_with (first | ((with_reducible refine gc 44 rfl ?_); refine cl_ (some 98) Tryz.func44 (script_word.calls k (rdOf ByteArray.empty l1 0) false _ A101.out) ?_; rintro w' ⟨nd, rfl⟩))
  refine bodyPost_ret (results_ct rfl _ _ gb246 28 #[.int .i64 a0, .string (rdOf ByteArray.empty l1 1), .string (rdOf ByteArray.empty l1 0), .string (⟨#[]⟩ : ByteArray), .int .i64 0] (0, 0) _ rfl (by (with_reducible repeat (first | refine blk_drewN ?_ _ | refine blk_drew ?_ | refine blk_alloc ?_ _)); refine blk_put (cs := #[.int .i64 a0, .string (rdOf ByteArray.empty l1 1), .string (rdOf ByteArray.empty l1 0), .string (⟨#[]⟩ : ByteArray), .int .i64 0]) ?_ 4 _ rfl; (with_reducible repeat (first | refine blk_drewN ?_ _ | refine blk_drew ?_ | refine blk_alloc ?_ _)); refine blk_put (cs := #[.int .i64 a0, .string (rdOf ByteArray.empty l1 1), .string (rdOf ByteArray.empty l1 0), .string (⟨#[]⟩ : ByteArray), .int .i64 0]) ?_ 3 _ rfl; (with_reducible repeat (first | refine blk_drewN ?_ _ | refine blk_drew ?_ | refine blk_alloc ?_ _)); refine blk_put (cs := #[.int .i64 a0, .string (rdOf ByteArray.empty l1 1), .string (rdOf ByteArray.empty l1 0), .string (⟨#[]⟩ : ByteArray), .int .i64 0]) ?_ 2 _ rfl; (with_reducible repeat (first | refine blk_drewN ?_ _ | refine blk_drew ?_ | refine blk_alloc ?_ _)); refine blk_put (cs := #[.int .i64 a0, .string (rdOf ByteArray.empty l1 1), .string (rdOf ByteArray.empty l1 0), .string (⟨#[]⟩ : ByteArray), .int .i64 0]) ?_ 1 _ rfl; (with_reducible repeat (first | refine blk_drewN ?_ _ | refine blk_drew ?_ | refine blk_alloc ?_ _)); refine blk_put (cs := #[.int .i64 a0, .string (rdOf ByteArray.empty l1 1), .string (rdOf ByteArray.empty l1 0), .string (⟨#[]⟩ : ByteArray), .int .i64 0]) ?_ 0 _ rfl; (with_reducible repeat (first | refine blk_drewN ?_ _ | refine blk_drew ?_ | refine blk_alloc ?_ _)); refine blk_put (cs := #[.int .i64 a0, .string (⟨#[]⟩ : ByteArray), .string (rdOf ByteArray.empty l1 0), .string (⟨#[]⟩ : ByteArray), .int .i64 0]) ?_ 1 _ rfl; (with_reducible repeat (first | refine blk_drewN ?_ _ | refine blk_drew ?_ | refine blk_alloc ?_ _)); refine blk_put (cs := #[.int .i64 a0, .string (⟨#[]⟩ : ByteArray), .string (⟨#[]⟩ : ByteArray), .string (⟨#[]⟩ : ByteArray), .int .i64 0]) ?_ 2 _ rfl; (with_reducible repeat (first | refine blk_drewN ?_ _ | refine blk_drew ?_ | refine blk_alloc ?_ _)); exact BK246.out) Tryz.underlying28 rfl (by kernel_rfl)) rfl ?_
  exact ⟨by first | rfl | (simp [errW_none, errW_some] <;> rfl) | (simp [*, errW_none, errW_some] <;> rfl), blw⟩
end Go.Proofs.YtcgfaagadejpmaaGreatDoor.Q
