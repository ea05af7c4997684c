-- Written by a program of this session (wip/myprint) out of the translation, for YtcgfaagadejpmaaGreatDoor.
import Derived.Test.YtcgfaagadejpmaaGreatDoorQ14d
namespace Go.Proofs.YtcgfaagadejpmaaGreatDoor.Q
open Go.RowKit Go.Proofs.YtcgfaagadejpmaaGreatDoorW.PrintWords Go.Proofs.YtcgfaagadejpmaaGreatDoorW.PrintLast Go.Proofs.YtcgfaagadejpmaaGreatDoorW.PrintMore Go.Proofs.YtcgfaagadejpmaaGreatDoorW.PrintSq
set_option linter.unusedVariables false
set_option linter.unusedSimpArgs false
set_option maxHeartbeats 8000000 in
set_option maxRecDepth 100000 in
theorem script_step.calls_3 (k : Nat) (a0 : Int) (A1 : Option Addr) (c1 : Nat) (l1 : List ByteArray) (r1 : Int) (r2 : ByteArray) (r3 : ByteArray) (r4 : ByteArray) (r5 : Int) (r6 : Bool) (w : World) (hG : Amb w) (hr1 : Kd.C Kd.string w A1 l1.length l1) (hc1 : l1.length ≤ c1) (h : script_step.f k a0 l1 = some (r1, r2, r3, r4, r5, r6)) (c3 : ¬ a0 = 1) (c6 : ¬ a0 = 2) (c18 : ¬ a0 = 3) (c78 : a0 = 4) :
    Calls Tryz.prog 33 #[.int .i64 a0, .slice A1 l1.length c1] w fun e w' => e = .returned (.tuple #[.agg #[.int .i64 r1, .string r2, .string r3, .string r4, .int .i64 r5], .bool r6]) ∧ Below w.heap.size w w' := by
 have hu28 := Tryz.underlying28
 have HR1 := Aside0.mk hr1
 have HC1 := Aside0.mk hc1
 clear hr1 hc1
 have HB := Aside0.mk (Below.refl w.heap.size w)
 unfold script_step.f at h
 have H := h
 clear h
 have HG := Aside0.mk hG
 clear hG
 rw [if_neg c3] at H
 have c3b0 := beq_eq_false_iff_ne.mpr c3
 have c3b1 := bne_iff_ne.mpr c3
 rw [if_neg c6] at H
 have c6b0 := beq_eq_false_iff_ne.mpr c6
 have c6b1 := bne_iff_ne.mpr c6
 rw [if_neg c18] at H
 have c18b0 := beq_eq_false_iff_ne.mpr c18
 have c18b1 := bne_iff_ne.mpr c18
 rw [if_pos c78] at H
 have c78b0 := beq_iff_eq.mpr c78
 have c78b1 := bne_eq_false_iff_eq.mpr c78
 clear c78
 obtain ⟨c79, H⟩ := iteS H
 have c79b0 := decide_eq_true c79
 have c79b1 : decide (0 < l1.length) = true := decide_eq_true (by omega)
 clear c79
 obtain ⟨c80, H⟩ := iteS H
 have c80b0 := decide_eq_true c80
 have c80b1 : decide (1 < l1.length) = true := decide_eq_true (by omega)
 clear c80
 replace H := Option.bind_eq_some_iff.mp H
 obtain ⟨t262, A810, H⟩ := H
 try dsimp only at H
 have A81 := Aside0.mk A810
 clear A810
 by_cases c82 : t262 = true
 ·subst c82
  rw [if_pos rfl] at H
  replace H := Option.bind_eq_some_iff.mp H
  obtain ⟨t263, A830, H⟩ := H
  try dsimp only at H
  have A83 := Aside0.mk A830
  clear A830
  simp only [Option.some.injEq, Prod.mk.injEq] at H
  obtain ⟨rfl, rfl, rfl, rfl, rfl, rfl⟩ := H
  go_enter Tryz.func33, Tryz.ntmps33
  try go_wp2_with (first | ((with_reducible refine gate_dst (N := 4) rfl ?_); refine box_event ?hg (N := 4) ?hd (cs := #[.int .i64 0, .string (⟨#[]⟩ : ByteArray), .string (⟨#[]⟩ : ByteArray), .string (⟨#[]⟩ : ByteArray), .int .i64 0]) (t := 28) ?hr ?_; (case hd => rfl); (case hg => rfl); (case hr => first | (go_simp; done) | (go_simp; rfl)); intro gb246 hg w84 hbox hb; have BK246 := Aside0.mk (hbox); have GW246 : Aside0 (w.heap.size ≤ gb246) := gw_ hg; have GE246 : Aside0 (w.heap.size ≤ gb246) := gw_ hg; replace HB := Aside0.mk (below_step blw hb); clear hb hbox hg; have hcz85_0 : w84.cell? ⟨gb246, 0, none⟩ = some (.int .i64 0) := bk_ BK246; have hcz85_1 : w84.cell? ⟨gb246, 1, none⟩ = some (.string (⟨#[]⟩ : ByteArray)) := bk_ BK246; have hcz85_2 : w84.cell? ⟨gb246, 2, none⟩ = some (.string (⟨#[]⟩ : ByteArray)) := bk_ BK246; have hcz85_3 : w84.cell? ⟨gb246, 3, none⟩ = some (.string (⟨#[]⟩ : ByteArray)) := bk_ BK246; have hcz85_4 : w84.cell? ⟨gb246, 4, none⟩ = some (.int .i64 0) := bk_ BK246; have hfz85_0 := blk_frozen BK246.out 0; have hfz85_1 := blk_frozen BK246.out 1; have hfz85_2 := blk_frozen BK246.out 2; have hfz85_3 := blk_frozen BK246.out 3; have hfz85_4 := blk_frozen BK246.out 4))
  have n0_ : Aside0 ((w84.setCell ⟨gb246, 0, none⟩ (.int .i64 a0)).heap[gb246]? = some (.cells #[.int .i64 a0, .string (⟨#[]⟩ : ByteArray), .string (⟨#[]⟩ : ByteArray), .string (⟨#[]⟩ : ByteArray), .int .i64 0] 28 (0, 0))) := ⟨by (with_reducible repeat (first | refine blk_drewN ?_ _ | refine blk_drew ?_ | refine blk_alloc ?_ _)); refine blk_put (cs := #[.int .i64 0, .string (⟨#[]⟩ : ByteArray), .string (⟨#[]⟩ : ByteArray), .string (⟨#[]⟩ : ByteArray), .int .i64 0]) ?_ 0 _ rfl; (with_reducible repeat (first | refine blk_drewN ?_ _ | refine blk_drew ?_ | refine blk_alloc ?_ _)); exact BK246.out⟩
  have n1_ : Aside0 (Below w.heap.size w (w84.setCell ⟨gb246, 0, none⟩ (.int .i64 a0))) := ⟨blw⟩
  (try clear BK246)
  (try clear HB)
  generalize (w84.setCell ⟨gb246, 0, none⟩ (.int .i64 a0)) = w86 at n0_ n1_ ⊢
  have BK246 := n0_
  have HB := n1_
  clear n0_ n1_
  replace BK246 := Aside0.mk (blk_drew BK246.out)
  replace HB := Aside0.mk (below_drew1 HB.out)
  have p260 : 0 ≤ (0 : Int) := (by omega)
  have q260 : 0 < (l1.length : Int) := od_
  obtain ⟨ad260, e260, hx260_0⟩ := Kd.at_string HR1.out 0 p260 q260
  have hw260_0 := hx260_0
  (try rw [show ((0 : Int)).toNat = 0 from rfl] at hw260_0)
  (try rw [show 0 * 1 = 0 from rfl] at hw260_0)
  (try rw [Addr.add_zero'] at hw260_0)
  cases e260
  have qi260 : (0 < l1.length) = True := eq_true (by omega)
  (try rw [show ((0 : Int)).toNat = 0 from rfl] at hx260_0)
  (try rw [Addr.add_zero'] at hx260_0)
  replace hx260_0 := (HB.out.cell (World.block_lt_of_cell? w _ hx260_0)).trans hx260_0
  replace p260 := eq_true p260
  replace q260 := eq_true q260
  have p261 : 0 ≤ (1 : Int) := (by omega)
  have q261 : 1 < (l1.length : Int) := od_
  obtain ⟨ad261, e261, hx261_0⟩ := Kd.at_string HR1.out 1 p261 q261
  have hw261_0 := hx261_0
  (try rw [show ((1 : Int)).toNat = 1 from rfl] at hw261_0)
  (try rw [show 1 * 1 = 1 from rfl] at hw261_0)
  (try simp only [Nat.reduceMul, Nat.reduceEqDiff, Go.Addr.add, ↓reduceIte] at hw261_0)
  obtain rfl : ad260 = ad261 := (by injection e261)
  (try simp only [show (1 : Int).toNat = 1 from rfl, Nat.reduceMul, Nat.reduceEqDiff, Go.Addr.add, ↓reduceIte] at hx261_0)
  have qi261 : (1 < l1.length) = True := eq_true (by omega)
  (try rw [show ((1 : Int)).toNat = 1 from rfl] at hx261_0)
  replace hx261_0 := (HB.out.cell (World.block_lt_of_cell? w _ hx261_0)).trans hx261_0
  replace p261 := eq_true p261
  replace q261 := eq_true q261
  refine start_ (n := 10) (S := fun w' => w'.cell? ad260 = some (.string (rdOf ByteArray.empty l1 0)) ∧ w'.cell? ⟨ad260.block, ad260.off + 1, none⟩ = some (.string (rdOf ByteArray.empty l1 1))) (ds := []) (ba 10 0) (by kernel_rfl) rfl rfl ⟨hc_ hw260_0, hc_ hw261_0⟩ (fun hHeld => ?_); refine with_tabW script_step.tab13 script_step.bits13 (fun HT_ HW_ => ?_)
  generalize w86.drew = w87 at BK246 HB hx260_0 hx261_0 hHeld ⊢
  refine pu_ 0 70 1 ?_
  refine pu_ 1 71 3 ?_
  refine pu_ 3 73 11 ?_
  refine pu_ 4 74 27 ?_
  refine tk_ 2 72 31 hHeld ?_
  refine pu_ 6 76 95 ?_
  refine tk_ 5 75 127 hHeld ?_
  refine one1 7 none 255 (fun K hK => ?_)
  have hs88 : w87.cell? ⟨gb246, 2, none⟩ = some (.string (⟨#[]⟩ : ByteArray)) := bk_ BK246
  have hfs88 := blk_frozen BK246.out 2
  refine skip_ (w1 := ?_) (by rfl) rfl ?_ ?_
  rotate_left
  ·go_simp
   rfl
  refine hK.out _ _ ⟨((cell_far (p := ⟨gb246, _, none⟩) (by first | exact Nat.ne_of_lt (Nat.lt_of_lt_of_le (by have := World.block_lt_of_cell? _ _ hw260_0; first | rwa [add_block] at this | exact this) GW246.out) | (rw [add_block]; exact Nat.ne_of_lt (Nat.lt_of_lt_of_le (by have := World.block_lt_of_cell? _ _ hw260_0; first | rwa [add_block] at this | exact this) GW246.out)) | (show (Addr.add _ _).block ≠ _; rw [add_block]; exact Nat.ne_of_lt (Nat.lt_of_lt_of_le (by have := World.block_lt_of_cell? _ _ hw260_0; first | rwa [add_block] at this | exact this) GW246.out)) | (dsimp only; exact Nat.ne_of_lt (Nat.lt_of_lt_of_le (by have := World.block_lt_of_cell? _ _ hw260_0; first | rwa [add_block] at this | exact this) GW246.out))) _).trans (hHeld.1)), ((cell_far (p := ⟨gb246, _, none⟩) (by first | exact Nat.ne_of_lt (Nat.lt_of_lt_of_le (by have := World.block_lt_of_cell? _ _ hw261_0; first | rwa [add_block] at this | exact this) GW246.out) | (rw [add_block]; exact Nat.ne_of_lt (Nat.lt_of_lt_of_le (by have := World.block_lt_of_cell? _ _ hw261_0; first | rwa [add_block] at this | exact this) GW246.out)) | (show (Addr.add _ _).block ≠ _; rw [add_block]; exact Nat.ne_of_lt (Nat.lt_of_lt_of_le (by have := World.block_lt_of_cell? _ _ hw261_0; first | rwa [add_block] at this | exact this) GW246.out)) | (dsimp only; exact Nat.ne_of_lt (Nat.lt_of_lt_of_le (by have := World.block_lt_of_cell? _ _ hw261_0; first | rwa [add_block] at this | exact this) GW246.out))) _).trans (hHeld.2))⟩ (fun hHeld => ?_)
  clear hK K
  refine pu_ 8 77 511 ?_
  refine one1 9 none 1023 (fun K hK => ?_)
  have hs89 : w87.cell? ⟨gb246, 3, none⟩ = some (.string (⟨#[]⟩ : ByteArray)) := bk_ BK246
  have hfs89 := blk_frozen BK246.out 3
  refine skip_ (w1 := ?_) (by rfl) rfl ?_ ?_
  rotate_left
  ·go_simp
   rfl
  refine hK.out _ _ ⟨((cell_far (p := ⟨gb246, _, none⟩) (by first | exact Nat.ne_of_lt (Nat.lt_of_lt_of_le (by have := World.block_lt_of_cell? _ _ hw260_0; first | rwa [add_block] at this | exact this) GW246.out) | (rw [add_block]; exact Nat.ne_of_lt (Nat.lt_of_lt_of_le (by have := World.block_lt_of_cell? _ _ hw260_0; first | rwa [add_block] at this | exact this) GW246.out)) | (show (Addr.add _ _).block ≠ _; rw [add_block]; exact Nat.ne_of_lt (Nat.lt_of_lt_of_le (by have := World.block_lt_of_cell? _ _ hw260_0; first | rwa [add_block] at this | exact this) GW246.out)) | (dsimp only; exact Nat.ne_of_lt (Nat.lt_of_lt_of_le (by have := World.block_lt_of_cell? _ _ hw260_0; first | rwa [add_block] at this | exact this) GW246.out))) _).trans (hHeld.1)), ((cell_far (p := ⟨gb246, _, none⟩) (by first | exact Nat.ne_of_lt (Nat.lt_of_lt_of_le (by have := World.block_lt_of_cell? _ _ hw261_0; first | rwa [add_block] at this | exact this) GW246.out) | (rw [add_block]; exact Nat.ne_of_lt (Nat.lt_of_lt_of_le (by have := World.block_lt_of_cell? _ _ hw261_0; first | rwa [add_block] at this | exact this) GW246.out)) | (show (Addr.add _ _).block ≠ _; rw [add_block]; exact Nat.ne_of_lt (Nat.lt_of_lt_of_le (by have := World.block_lt_of_cell? _ _ hw261_0; first | rwa [add_block] at this | exact this) GW246.out)) | (dsimp only; exact Nat.ne_of_lt (Nat.lt_of_lt_of_le (by have := World.block_lt_of_cell? _ _ hw261_0; first | rwa [add_block] at this | exact this) GW246.out))) _).trans (hHeld.2))⟩ (fun hHeld => ?_)
  clear hK K
  refine done_ (done_of HT_.out (by kernel_rfl)) ?_
  have hcz90_0 : w87.cell? ⟨gb246, 0, none⟩ = some (.int .i64 a0) := bk_ BK246
  have hcz90_1 : w87.cell? ⟨gb246, 1, none⟩ = some (.string (⟨#[]⟩ : ByteArray)) := bk_ BK246
  have hcz90_2 : w87.cell? ⟨gb246, 2, none⟩ = some (.string (⟨#[]⟩ : ByteArray)) := bk_ BK246
  have hcz90_3 : w87.cell? ⟨gb246, 3, none⟩ = some (.string (⟨#[]⟩ : ByteArray)) := bk_ BK246
  have hcz90_4 : w87.cell? ⟨gb246, 4, none⟩ = some (.int .i64 0) := bk_ BK246
  have hfz90_0 := blk_frozen BK246.out 0
  have hfz90_1 := blk_frozen BK246.out 1
  have hfz90_2 := blk_frozen BK246.out 2
  have hfz90_3 := blk_frozen BK246.out 3
  have hfz90_4 := blk_frozen BK246.out 4
  try go_wp2_with (first | ((with_reducible refine gc 44 rfl ?_); refine cl_ (some 80) Tryz.func44 (script_word.calls k (rdOf ByteArray.empty l1 0) true _ A81.out) ?_; rintro w' ⟨nd, rfl⟩) | (go_at_call 44; (with_reducible refine (script_word.calls k (rdOf ByteArray.empty l1 1) t263 _ A83.out).mono ?_); rintro e w' ⟨rfl, ⟨nd, rfl⟩⟩))
  refine bodyPost_ret (results_ct rfl _ _ gb246 28 #[.int .i64 a0, .string (⟨#[]⟩ : ByteArray), .string (rdOf ByteArray.empty l1 0), .string (rdOf ByteArray.empty l1 1), .int .i64 0] (0, 0) _ rfl (by (with_reducible repeat (first | refine blk_drewN ?_ _ | refine blk_drew ?_ | refine blk_alloc ?_ _)); refine blk_put (cs := #[.int .i64 a0, .string (⟨#[]⟩ : ByteArray), .string (rdOf ByteArray.empty l1 0), .string (rdOf ByteArray.empty l1 1), .int .i64 0]) ?_ 4 _ rfl; (with_reducible repeat (first | refine blk_drewN ?_ _ | refine blk_drew ?_ | refine blk_alloc ?_ _)); refine blk_put (cs := #[.int .i64 a0, .string (⟨#[]⟩ : ByteArray), .string (rdOf ByteArray.empty l1 0), .string (rdOf ByteArray.empty l1 1), .int .i64 0]) ?_ 3 _ rfl; (with_reducible repeat (first | refine blk_drewN ?_ _ | refine blk_drew ?_ | refine blk_alloc ?_ _)); refine blk_put (cs := #[.int .i64 a0, .string (⟨#[]⟩ : ByteArray), .string (rdOf ByteArray.empty l1 0), .string (rdOf ByteArray.empty l1 1), .int .i64 0]) ?_ 2 _ rfl; (with_reducible repeat (first | refine blk_drewN ?_ _ | refine blk_drew ?_ | refine blk_alloc ?_ _)); refine blk_put (cs := #[.int .i64 a0, .string (⟨#[]⟩ : ByteArray), .string (rdOf ByteArray.empty l1 0), .string (rdOf ByteArray.empty l1 1), .int .i64 0]) ?_ 1 _ rfl; (with_reducible repeat (first | refine blk_drewN ?_ _ | refine blk_drew ?_ | refine blk_alloc ?_ _)); refine blk_put (cs := #[.int .i64 a0, .string (⟨#[]⟩ : ByteArray), .string (rdOf ByteArray.empty l1 0), .string (rdOf ByteArray.empty l1 1), .int .i64 0]) ?_ 0 _ rfl; (with_reducible repeat (first | refine blk_drewN ?_ _ | refine blk_drew ?_ | refine blk_alloc ?_ _)); refine blk_put (cs := #[.int .i64 a0, .string (⟨#[]⟩ : ByteArray), .string (rdOf ByteArray.empty l1 0), .string (⟨#[]⟩ : ByteArray), .int .i64 0]) ?_ 3 _ rfl; (with_reducible repeat (first | refine blk_drewN ?_ _ | refine blk_drew ?_ | refine blk_alloc ?_ _)); refine blk_put (cs := #[.int .i64 a0, .string (⟨#[]⟩ : ByteArray), .string (⟨#[]⟩ : ByteArray), .string (⟨#[]⟩ : ByteArray), .int .i64 0]) ?_ 2 _ rfl; (with_reducible repeat (first | refine blk_drewN ?_ _ | refine blk_drew ?_ | refine blk_alloc ?_ _)); exact BK246.out) Tryz.underlying28 rfl (by kernel_rfl)) rfl ?_
  exact ⟨by first | rfl | (simp [errW_none, errW_some] <;> rfl) | (simp [*, errW_none, errW_some] <;> rfl), blw⟩
 ·replace c82 := Bool.eq_false_iff.mpr c82
  subst c82
  rw [if_neg nft] at H
  simp only [Option.some.injEq, Prod.mk.injEq] at H
  obtain ⟨rfl, rfl, rfl, rfl, rfl, rfl⟩ := H
  go_enter Tryz.func33, Tryz.ntmps33
  try go_wp2_with (first | ((with_reducible refine gate_dst (N := 4) rfl ?_); refine box_event ?hg (N := 4) ?hd (cs := #[.int .i64 0, .string (⟨#[]⟩ : ByteArray), .string (⟨#[]⟩ : ByteArray), .string (⟨#[]⟩ : ByteArray), .int .i64 0]) (t := 28) ?hr ?_; (case hd => rfl); (case hg => rfl); (case hr => first | (go_simp; done) | (go_simp; rfl)); intro gb246 hg w91 hbox hb; have BK246 := Aside0.mk (hbox); have GW246 : Aside0 (w.heap.size ≤ gb246) := gw_ hg; have GE246 : Aside0 (w.heap.size ≤ gb246) := gw_ hg; replace HB := Aside0.mk (below_step blw hb); clear hb hbox hg; have hcz92_0 : w91.cell? ⟨gb246, 0, none⟩ = some (.int .i64 0) := bk_ BK246; have hcz92_1 : w91.cell? ⟨gb246, 1, none⟩ = some (.string (⟨#[]⟩ : ByteArray)) := bk_ BK246; have hcz92_2 : w91.cell? ⟨gb246, 2, none⟩ = some (.string (⟨#[]⟩ : ByteArray)) := bk_ BK246; have hcz92_3 : w91.cell? ⟨gb246, 3, none⟩ = some (.string (⟨#[]⟩ : ByteArray)) := bk_ BK246; have hcz92_4 : w91.cell? ⟨gb246, 4, none⟩ = some (.int .i64 0) := bk_ BK246; have hfz92_0 := blk_frozen BK246.out 0; have hfz92_1 := blk_frozen BK246.out 1; have hfz92_2 := blk_frozen BK246.out 2; have hfz92_3 := blk_frozen BK246.out 3; have hfz92_4 := blk_frozen BK246.out 4))
  have n0_ : Aside0 ((w91.setCell ⟨gb246, 0, none⟩ (.int .i64 a0)).heap[gb246]? = some (.cells #[.int .i64 a0, .string (⟨#[]⟩ : ByteArray), .string (⟨#[]⟩ : ByteArray), .string (⟨#[]⟩ : ByteArray), .int .i64 0] 28 (0, 0))) := ⟨by (with_reducible repeat (first | refine blk_drewN ?_ _ | refine blk_drew ?_ | refine blk_alloc ?_ _)); refine blk_put (cs := #[.int .i64 0, .string (⟨#[]⟩ : ByteArray), .string (⟨#[]⟩ : ByteArray), .string (⟨#[]⟩ : ByteArray), .int .i64 0]) ?_ 0 _ rfl; (with_reducible repeat (first | refine blk_drewN ?_ _ | refine blk_drew ?_ | refine blk_alloc ?_ _)); exact BK246.out⟩
  have n1_ : Aside0 (Below w.heap.size w (w91.setCell ⟨gb246, 0, none⟩ (.int .i64 a0))) := ⟨blw⟩
  (try clear BK246)
  (try clear HB)
  generalize (w91.setCell ⟨gb246, 0, none⟩ (.int .i64 a0)) = w93 at n0_ n1_ ⊢
  have BK246 := n0_
  have HB := n1_
  clear n0_ n1_
  replace BK246 := Aside0.mk (blk_drew BK246.out)
  replace HB := Aside0.mk (below_drew1 HB.out)
  have p260 : 0 ≤ (0 : Int) := (by omega)
  have q260 : 0 < (l1.length : Int) := od_
  obtain ⟨ad260, e260, hx260_0⟩ := Kd.at_string HR1.out 0 p260 q260
  have hw260_0 := hx260_0
  (try rw [show ((0 : Int)).toNat = 0 from rfl] at hw260_0)
  (try rw [show 0 * 1 = 0 from rfl] at hw260_0)
  (try rw [Addr.add_zero'] at hw260_0)
  cases e260
  have qi260 : (0 < l1.length) = True := eq_true (by omega)
  (try rw [show ((0 : Int)).toNat = 0 from rfl] at hx260_0)
  (try rw [Addr.add_zero'] at hx260_0)
  replace hx260_0 := (HB.out.cell (World.block_lt_of_cell? w _ hx260_0)).trans hx260_0
  replace p260 := eq_true p260
  replace q260 := eq_true q260
  have p261 : 0 ≤ (1 : Int) := (by omega)
  have q261 : 1 < (l1.length : Int) := od_
  obtain ⟨ad261, e261, hx261_0⟩ := Kd.at_string HR1.out 1 p261 q261
  have hw261_0 := hx261_0
  (try rw [show ((1 : Int)).toNat = 1 from rfl] at hw261_0)
  (try rw [show 1 * 1 = 1 from rfl] at hw261_0)
  (try simp only [Nat.reduceMul, Nat.reduceEqDiff, Go.Addr.add, ↓reduceIte] at hw261_0)
  obtain rfl : ad260 = ad261 := (by injection e261)
  (try simp only [show (1 : Int).toNat = 1 from rfl, Nat.reduceMul, Nat.reduceEqDiff, Go.Addr.add, ↓reduceIte] at hx261_0)
  have qi261 : (1 < l1.length) = True := eq_true (by omega)
  (try rw [show ((1 : Int)).toNat = 1 from rfl] at hx261_0)
  replace hx261_0 := (HB.out.cell (World.block_lt_of_cell? w _ hx261_0)).trans hx261_0
  replace p261 := eq_true p261
  replace q261 := eq_true q261
  refine start_ (n := 10) (S := fun w' => w'.cell? ad260 = some (.string (rdOf ByteArray.empty l1 0)) ∧ w'.cell? ⟨ad260.block, ad260.off + 1, none⟩ = some (.string (rdOf ByteArray.empty l1 1))) (ds := []) (ba 10 0) (by kernel_rfl) rfl rfl ⟨hc_ hw260_0, hc_ hw261_0⟩ (fun hHeld => ?_); refine with_tabW script_step.tab13 script_step.bits13 (fun HT_ HW_ => ?_)
  generalize w93.drew = w94 at BK246 HB hx260_0 hx261_0 hHeld ⊢
  refine pu_ 0 70 1 ?_
  refine pu_ 1 71 3 ?_
  refine pu_ 3 73 11 ?_
  refine pu_ 4 74 27 ?_
  refine tk_ 2 72 31 hHeld ?_
  refine pu_ 6 76 95 ?_
  refine tk_ 5 75 127 hHeld ?_
  refine one1 7 none 255 (fun K hK => ?_)
  have hs95 : w94.cell? ⟨gb246, 2, none⟩ = some (.string (⟨#[]⟩ : ByteArray)) := bk_ BK246
  have hfs95 := blk_frozen BK246.out 2
  refine skip_ (w1 := ?_) (by rfl) rfl ?_ ?_
  rotate_left
  ·go_simp
   rfl
  refine hK.out _ _ ⟨((cell_far (p := ⟨gb246, _, none⟩) (by first | exact Nat.ne_of_lt (Nat.lt_of_lt_of_le (by have := World.block_lt_of_cell? _ _ hw260_0; first | rwa [add_block] at this | exact this) GW246.out) | (rw [add_block]; exact Nat.ne_of_lt (Nat.lt_of_lt_of_le (by have := World.block_lt_of_cell? _ _ hw260_0; first | rwa [add_block] at this | exact this) GW246.out)) | (show (Addr.add _ _).block ≠ _; rw [add_block]; exact Nat.ne_of_lt (Nat.lt_of_lt_of_le (by have := World.block_lt_of_cell? _ _ hw260_0; first | rwa [add_block] at this | exact this) GW246.out)) | (dsimp only; exact Nat.ne_of_lt (Nat.lt_of_lt_of_le (by have := World.block_lt_of_cell? _ _ hw260_0; first | rwa [add_block] at this | exact this) GW246.out))) _).trans (hHeld.1)), ((cell_far (p := ⟨gb246, _, none⟩) (by first | exact Nat.ne_of_lt (Nat.lt_of_lt_of_le (by have := World.block_lt_of_cell? _ _ hw261_0; first | rwa [add_block] at this | exact this) GW246.out) | (rw [add_block]; exact Nat.ne_of_lt (Nat.lt_of_lt_of_le (by have := World.block_lt_of_cell? _ _ hw261_0; first | rwa [add_block] at this | exact this) GW246.out)) | (show (Addr.add _ _).block ≠ _; rw [add_block]; exact Nat.ne_of_lt (Nat.lt_of_lt_of_le (by have := World.block_lt_of_cell? _ _ hw261_0; first | rwa [add_block] at this | exact this) GW246.out)) | (dsimp only; exact Nat.ne_of_lt (Nat.lt_of_lt_of_le (by have := World.block_lt_of_cell? _ _ hw261_0; first | rwa [add_block] at this | exact this) GW246.out))) _).trans (hHeld.2))⟩ (fun hHeld => ?_)
  clear hK K
  refine pu_ 8 77 511 ?_
  refine one1 9 none 1023 (fun K hK => ?_)
  have hs96 : w94.cell? ⟨gb246, 3, none⟩ = some (.string (⟨#[]⟩ : ByteArray)) := bk_ BK246
  have hfs96 := blk_frozen BK246.out 3
  refine skip_ (w1 := ?_) (by rfl) rfl ?_ ?_
  rotate_left
  ·go_simp
   rfl
  refine hK.out _ _ ⟨((cell_far (p := ⟨gb246, _, none⟩) (by first | exact Nat.ne_of_lt (Nat.lt_of_lt_of_le (by have := World.block_lt_of_cell? _ _ hw260_0; first | rwa [add_block] at this | exact this) GW246.out) | (rw [add_block]; exact Nat.ne_of_lt (Nat.lt_of_lt_of_le (by have := World.block_lt_of_cell? _ _ hw260_0; first | rwa [add_block] at this | exact this) GW246.out)) | (show (Addr.add _ _).block ≠ _; rw [add_block]; exact Nat.ne_of_lt (Nat.lt_of_lt_of_le (by have := World.block_lt_of_cell? _ _ hw260_0; first | rwa [add_block] at this | exact this) GW246.out)) | (dsimp only; exact Nat.ne_of_lt (Nat.lt_of_lt_of_le (by have := World.block_lt_of_cell? _ _ hw260_0; first | rwa [add_block] at this | exact this) GW246.out))) _).trans (hHeld.1)), ((cell_far (p := ⟨gb246, _, none⟩) (by first | exact Nat.ne_of_lt (Nat.lt_of_lt_of_le (by have := World.block_lt_of_cell? _ _ hw261_0; first | rwa [add_block] at this | exact this) GW246.out) | (rw [add_block]; exact Nat.ne_of_lt (Nat.lt_of_lt_of_le (by have := World.block_lt_of_cell? _ _ hw261_0; first | rwa [add_block] at this | exact this) GW246.out)) | (show (Addr.add _ _).block ≠ _; rw [add_block]; exact Nat.ne_of_lt (Nat.lt_of_lt_of_le (by have := World.block_lt_of_cell? _ _ hw261_0; first | rwa [add_block] at this | exact this) GW246.out)) | (dsimp only; exact Nat.ne_of_lt (Nat.lt_of_lt_of_le (by have := World.block_lt_of_cell? _ _ hw261_0; first | rwa [add_block] at this | exact this) GW246.out))) _).trans (hHeld.2))⟩ (fun hHeld => ?_)
  clear hK K
  refine done_ (done_of HT_.out (by kernel_rfl)) ?_
  have hcz97_0 : w94.cell? ⟨gb246, 0, none⟩ = some (.int .i64 a0) := bk_ BK246
  have hcz97_1 : w94.cell? ⟨gb246, 1, none⟩ = some (.string (⟨#[]⟩ : ByteArray)) := bk_ BK246
  have hcz97_2 : w94.cell? ⟨gb246, 2, none⟩ = some (.string (⟨#[]⟩ : ByteArray)) := bk_ BK246
  have hcz97_3 : w94.cell? ⟨gb246, 3, none⟩ = some (.string (⟨#[]⟩ : ByteArray)) := bk_ BK246
  have hcz97_4 : w94.cell? ⟨gb246, 4, none⟩ = some (.int .i64 0) := bk_ BK246
  have hfz97_0 := blk_frozen BK246.out 0
  have hfz97_1 := blk_frozen BK246.out 1
  have hfz97_2 := blk_frozen BK246.out 2
  have hfz97_3 := blk_frozen BK246.out 3
  have hfz97_4 := blk_frozen BK246.out 4
  try go_wp2_with (first | ((with_reducible refine gc 44 rfl ?_); refine cl_ (some 80) Tryz.func44 (script_word.calls k (rdOf ByteArray.empty l1 0) false _ A81.out) ?_; rintro w' ⟨nd, rfl⟩))
  refine bodyPost_ret (results_ct rfl _ _ gb246 28 #[.int .i64 a0, .string (⟨#[]⟩ : ByteArray), .string (rdOf ByteArray.empty l1 0), .string (rdOf ByteArray.empty l1 1), .int .i64 0] (0, 0) _ rfl (by (with_reducible repeat (first | refine blk_drewN ?_ _ | refine blk_drew ?_ | refine blk_alloc ?_ _)); refine blk_put (cs := #[.int .i64 a0, .string (⟨#[]⟩ : ByteArray), .string (rdOf ByteArray.empty l1 0), .string (rdOf ByteArray.empty l1 1), .int .i64 0]) ?_ 4 _ rfl; (with_reducible repeat (first | refine blk_drewN ?_ _ | refine blk_drew ?_ | refine blk_alloc ?_ _)); refine blk_put (cs := #[.int .i64 a0, .string (⟨#[]⟩ : ByteArray), .string (rdOf ByteArray.empty l1 0), .string (rdOf ByteArray.empty l1 1), .int .i64 0]) ?_ 3 _ rfl; (with_reducible repeat (first | refine blk_drewN ?_ _ | refine blk_drew ?_ | refine blk_alloc ?_ _)); refine blk_put (cs := #[.int .i64 a0, .string (⟨#[]⟩ : ByteArray), .string (rdOf ByteArray.empty l1 0), .string (rdOf ByteArray.empty l1 1), .int .i64 0]) ?_ 2 _ rfl; (with_reducible repeat (first | refine blk_drewN ?_ _ | refine blk_drew ?_ | refine blk_alloc ?_ _)); refine blk_put (cs := #[.int .i64 a0, .string (⟨#[]⟩ : ByteArray), .string (rdOf ByteArray.empty l1 0), .string (rdOf ByteArray.empty l1 1), .int .i64 0]) ?_ 1 _ rfl; (with_reducible repeat (first | refine blk_drewN ?_ _ | refine blk_drew ?_ | refine blk_alloc ?_ _)); refine blk_put (cs := #[.int .i64 a0, .string (⟨#[]⟩ : ByteArray), .string (rdOf ByteArray.empty l1 0), .string (rdOf ByteArray.empty l1 1), .int .i64 0]) ?_ 0 _ rfl; (with_reducible repeat (first | refine blk_drewN ?_ _ | refine blk_drew ?_ | refine blk_alloc ?_ _)); refine blk_put (cs := #[.int .i64 a0, .string (⟨#[]⟩ : ByteArray), .string (rdOf ByteArray.empty l1 0), .string (⟨#[]⟩ : ByteArray), .int .i64 0]) ?_ 3 _ rfl; (with_reducible repeat (first | refine blk_drewN ?_ _ | refine blk_drew ?_ | refine blk_alloc ?_ _)); refine blk_put (cs := #[.int .i64 a0, .string (⟨#[]⟩ : ByteArray), .string (⟨#[]⟩ : ByteArray), .string (⟨#[]⟩ : ByteArray), .int .i64 0]) ?_ 2 _ rfl; (with_reducible repeat (first | refine blk_drewN ?_ _ | refine blk_drew ?_ | refine blk_alloc ?_ _)); exact BK246.out) Tryz.underlying28 rfl (by kernel_rfl)) rfl ?_
  exact ⟨by first | rfl | (simp [errW_none, errW_some] <;> rfl) | (simp [*, errW_none, errW_some] <;> rfl), blw⟩
end Go.Proofs.YtcgfaagadejpmaaGreatDoor.Q
